/- What the reference's functions on 128 bits, points and boxes answer. Worlds: nothing that was there has changed. -/
import Derived.Test.YtmednnpmkhgfpaaGeoWA
import Derived.Test.YtmednnpmkhgfpaaWLast
section
namespace Go.Proofs.Ytmednnpmkhgfpaa.GW
open Go Go.RowKit Go.Proofs.Ytmednnpmkhgfpaa.Wd Go.Proofs.Ytmednnpmkhgfpaa.Geo
attribute [local go_sem] max2_int min2_int max_two min_two max_three

theorem refMulEq (a b : Int) (a0 : 0 ≤ a) (a1 : a < 18446744073709551616) (b0 : 0 ≤ b) (b1 : b < 18446744073709551616) :
    IntKind.u64.wrap ((IntKind.u64.wrap ((IntKind.u64.wrap ((IntKind.u64.wrap ((a / 4294967296) * (b / 4294967296))) + ((IntKind.u64.wrap ((a / 4294967296) * (Go.bits .and .u64 b 4294967295))) / 4294967296))) + ((IntKind.u64.wrap ((Go.bits .and .u64 a 4294967295) * (b / 4294967296))) / 4294967296))) + ((IntKind.u64.wrap ((IntKind.u64.wrap (((IntKind.u64.wrap ((Go.bits .and .u64 a 4294967295) * (Go.bits .and .u64 b 4294967295))) / 4294967296) + (Go.bits .and .u64 (IntKind.u64.wrap ((a / 4294967296) * (Go.bits .and .u64 b 4294967295))) 4294967295))) + (Go.bits .and .u64 (IntKind.u64.wrap ((Go.bits .and .u64 a 4294967295) * (b / 4294967296))) 4294967295))) / 4294967296)) = hi (a * b)
    ∧ Go.bits .or .u64 (IntKind.u64.wrap ((IntKind.u64.wrap ((IntKind.u64.wrap (((IntKind.u64.wrap ((Go.bits .and .u64 a 4294967295) * (Go.bits .and .u64 b 4294967295))) / 4294967296) + (Go.bits .and .u64 (IntKind.u64.wrap ((a / 4294967296) * (Go.bits .and .u64 b 4294967295))) 4294967295))) + (Go.bits .and .u64 (IntKind.u64.wrap ((Go.bits .and .u64 a 4294967295) * (b / 4294967296))) 4294967295))) * 4294967296)) (Go.bits .and .u64 (IntKind.u64.wrap ((Go.bits .and .u64 a 4294967295) * (Go.bits .and .u64 b 4294967295))) 4294967295) = lo (a * b) := by
  have hs := split a b
  rw [andLow a a0 a1, andLow b b0 b1]
  unfold hi lo
  have hp := prodBound (a := a % 4294967296) (b := b % 4294967296) (by omega) (by omega) (by omega) (by omega)
  have hq := prodBound (a := a / 4294967296) (b := b % 4294967296) (by omega) (by omega) (by omega) (by omega)
  have hr := prodBound (a := a % 4294967296) (b := b / 4294967296) (by omega) (by omega) (by omega) (by omega)
  have hS := prodBound (a := a / 4294967296) (b := b / 4294967296) (by omega) (by omega) (by omega) (by omega)
  rw [hs]
  generalize a % 4294967296 * (b % 4294967296) = p at *
  generalize a / 4294967296 * (b % 4294967296) = q at *
  generalize a % 4294967296 * (b / 4294967296) = r at *
  generalize a / 4294967296 * (b / 4294967296) = s at *
  clear hs
  rw [w64_in p (by omega) (by omega), w64_in q (by omega) (by omega), w64_in r (by omega) (by omega), w64_in s (by omega) (by omega)]
  rw [andLow p (by omega) (by omega), andLow q (by omega) (by omega), andLow r (by omega) (by omega)]
  rw [w64_in (p / 4294967296 + q % 4294967296) (by omega) (by omega), w64_in (p / 4294967296 + q % 4294967296 + r % 4294967296) (by omega) (by omega)]
  rw [w64_in (s + q / 4294967296) (by omega) (by omega), w64_in (s + q / 4294967296 + r / 4294967296) (by omega) (by omega)]
  constructor
  · have eh : s + q / 4294967296 + r / 4294967296 + (p / 4294967296 + q % 4294967296 + r % 4294967296) / 4294967296 = (s * 18446744073709551616 + (q + r) * 4294967296 + p) / 18446744073709551616 := by omega
    rw [eh]
    exact w64_in _ (by omega) (by omega)
  · rw [w64]
    rw [orJoin _ _ (by omega) (by omega) (by omega) (by omega) (by omega)]
    omega
set_option maxHeartbeats 400000 in
theorem rMul_any (a b : Int) (w : World) (a0 : 0 ≤ a) (a1 : a < 18446744073709551616) (b0 : 0 ≤ b) (b1 : b < 18446744073709551616) :
    Calls Try.prog 70 #[.int .u64 a, .int .u64 b] w fun e w' => e = .returned (.agg #[.int .u64 (hi (a * b)), .int .u64 (lo (a * b))]) ∧ Below w.heap.size w w' := by
  have h := refMulEq a b a0 a1 b0 b1
  rw [← h.1, ← h.2]
  clear h a0 a1 b0 b1
  go_enter Try.func70, Try.ntmps70
  go_wp2
  refine bodyPost_ret (v := .agg #[_, _]) (by simp [results, Try.results70, go_sem]) rfl ⟨rfl, (Below.refl _ _).alloc (Nat.le_refl _) _⟩
set_option maxHeartbeats 1000000 in
theorem rCmp_any (a b c d : Int) (w : World) : Calls Try.prog 67 #[.agg #[.int .u64 a, .int .u64 b], .agg #[.int .u64 c, .int .u64 d]] w fun e w' => e = .returned (.int .i64 (orZ (sgn a c) (sgn b d))) ∧ Below w.heap.size w w' := by
  go_enter Try.func67, Try.ntmps67
  go_wp2
  all_goals
    go_ret
    refine ⟨?_, below_new (below_new (Below.refl _ _) _) _⟩
    unfold orZ sgn
    apply ret_int
    repeat' split
    all_goals first | rfl | omega
set_option maxHeartbeats 400000 in
theorem rPointMay_any (x y : Int) (w : World) : Calls Try.prog 28 #[.agg #[.int .i64 x, .int .i64 y]] w fun e w' => e = .returned (.bool (ptB x y)) ∧ Below w.heap.size w w' := by
  go_enter Try.func28, Try.ntmps28
  go_wp2
  all_goals
    go_ret
    refine ⟨?_, below_new (Below.refl _ _) _⟩
    simp_all [ptB, coordB]
    try omega
set_option maxHeartbeats 400000 in
theorem rBoxMay_any (a b c d : Int) (w : World) : Calls Try.prog 27 #[.agg #[.int .i64 a, .int .i64 b, .int .i64 c, .int .i64 d]] w fun e w' => e = .returned (.bool (boxB a b c d)) ∧ Below w.heap.size w w' := by
  go_enter Try.func27, Try.ntmps27
  go_wp2_with (first | (go_at_call 28; refine (rPointMay_any _ _ _).mono ?_; rintro e w1 ⟨rfl, hb⟩; obtain ⟨hc0, hf0, hn0, hm0, hl0, hz⟩ := bc1 (H := w.heap.size) hb (by first | assumption | (simp; done) | (simp; omega)); have hB := below_then (w := w) (by first | assumption | exact below_new (by assumption) _ | exact below_new (below_new (by assumption) _) _ | exact below_new (below_new (below_new (by assumption) _) _) _ | exact below_new (below_new (below_new (below_new (by assumption) _) _) _) _ | exact below_new (Below.refl _ _) _) hb; clear hb))
  all_goals
    go_ret
    refine ⟨?_, by assumption⟩
    clear hc0 hf0
    simp_all [boxB, ptB]
    try omega
set_option maxHeartbeats 400000 in
theorem rAround_any (a b c d : Int) (w : World) : Calls Try.prog 44 #[.agg #[.int .i64 a, .int .i64 b], .agg #[.int .i64 c, .int .i64 d]] w fun e w' => e = .returned (.agg #[.int .i64 (min a c), .int .i64 (min b d), .int .i64 (max a c), .int .i64 (max b d)]) ∧ Below w.heap.size w w' := by
  go_enter Try.func44, Try.ntmps44
  go_wp2
  refine bodyPost_ret (v := .agg #[_, _, _, _]) (by simp [results, Try.results44, go_sem]) rfl ⟨rfl, below_new (below_new (below_new (Below.refl _ _) _) _) _⟩
set_option maxHeartbeats 400000 in
theorem rWithin_any (px py a b c d : Int) (w : World) : Calls Try.prog 26 #[.agg #[.int .i64 px, .int .i64 py], .agg #[.int .i64 a, .int .i64 b, .int .i64 c, .int .i64 d]] w fun e w' => e = .returned (.bool (withinB px py a b c d)) ∧ Below w.heap.size w w' := by
  go_enter Try.func26, Try.ntmps26
  go_wp2_with (first | (go_at_call 28; refine (rPointMay_any _ _ _).mono ?_; rintro e w1 ⟨rfl, hb⟩; obtain ⟨hc0, hc1, hf0, hf1, hn0, hn1, hm0, hm1, hl0, hl1, hz⟩ := bc2 (H := w.heap.size) hb (by first | assumption | (simp; done) | (simp; omega)); have hB := below_then (w := w) (by first | assumption | exact below_new (by assumption) _ | exact below_new (below_new (by assumption) _) _ | exact below_new (below_new (below_new (by assumption) _) _) _ | exact below_new (below_new (below_new (below_new (by assumption) _) _) _) _ | exact below_new (below_new (Below.refl _ _) _) _) hb; clear hb) | (go_at_call 27; refine (rBoxMay_any _ _ _ _ _).mono ?_; rintro e w1 ⟨rfl, hb⟩; obtain ⟨hc0, hc1, hf0, hf1, hn0, hn1, hm0, hm1, hl0, hl1, hz⟩ := bc2 (H := w.heap.size) hb (by first | assumption | (simp; done) | (simp; omega)); have hB := below_then (w := w) (by first | assumption | exact below_new (by assumption) _ | exact below_new (below_new (by assumption) _) _ | exact below_new (below_new (below_new (by assumption) _) _) _ | exact below_new (below_new (below_new (below_new (by assumption) _) _) _) _ | exact below_new (below_new (Below.refl _ _) _) _) hb; clear hb))
  all_goals
    go_ret
    refine ⟨?_, by assumption⟩
    clear hc0 hc1 hf0 hf1
    simp_all [withinB]
    try omega
set_option maxHeartbeats 1000000 in
theorem rMeet_any (a0 a1 a2 a3 b0 b1 b2 b3 : Int) (w : World) :
    Calls Try.prog 25 #[.agg #[.int .i64 a0, .int .i64 a1, .int .i64 a2, .int .i64 a3], .agg #[.int .i64 b0, .int .i64 b1, .int .i64 b2, .int .i64 b3]] w fun e w' => e = .returned (.bool (meetB a0 a1 a2 a3 b0 b1 b2 b3)) ∧ Below w.heap.size w w' := by
  go_enter Try.func25, Try.ntmps25
  go_wp2_with (first | (go_at_call 27; refine (rBoxMay_any _ _ _ _ _).mono ?_; rintro e w1 ⟨rfl, hb⟩; obtain ⟨hc0, hc1, hf0, hf1, hn0, hn1, hm0, hm1, hl0, hl1, hz⟩ := bc2 (H := w.heap.size) hb (by first | assumption | (simp; done) | (simp; omega)); have hB := below_then (w := w) (by first | assumption | exact below_new (by assumption) _ | exact below_new (below_new (by assumption) _) _ | exact below_new (below_new (below_new (by assumption) _) _) _ | exact below_new (below_new (below_new (below_new (by assumption) _) _) _) _ | exact below_new (below_new (Below.refl _ _) _) _) hb; clear hb))
  all_goals
    go_ret
    refine ⟨?_, by assumption⟩
    clear hc0 hc1 hf0 hf1
    simp_all [meetB]
    try omega
theorem ret_s {s p q s' p' q' : Int} (hs : s = s') (hp : p = p') (hq : q = q') : Ending.returned (.tuple #[.int .i64 s, .agg #[.int .u64 p, .int .u64 q]]) = Ending.returned (.tuple #[.int .i64 s', .agg #[.int .u64 p', .int .u64 q']]) := by rw [hs, hp, hq]
theorem absZ_cases (a b : Int) : (a < 0 → b < 0 → -a * -b = absZ a b) ∧ (a < 0 → 0 ≤ b → -a * b = absZ a b) ∧ (0 ≤ a → b < 0 → a * -b = absZ a b) ∧ (0 ≤ a → 0 ≤ b → a * b = absZ a b) := by
  unfold absZ
  refine ⟨fun h1 h2 => ?_, fun h1 h2 => ?_, fun h1 h2 => ?_, fun h1 h2 => ?_⟩
  · rw [Int.max_eq_right (by omega), Int.max_eq_right (by omega)]
  · rw [Int.max_eq_right (by omega), Int.max_eq_left (by omega)]
  · rw [Int.max_eq_left (by omega), Int.max_eq_right (by omega)]
  · rw [Int.max_eq_left (by omega), Int.max_eq_left (by omega)]
/-- the sign out of the two signs and of whether the words are zero -/
theorem sg_words (a b s : Int) (h : (hi (absZ a b) = 0 ∧ lo (absZ a b) = 0 ∧ s = 0) ∨ (¬(hi (absZ a b) = 0 ∧ lo (absZ a b) = 0) ∧ ((s = -1 ∧ ((a < 0 ∧ 0 ≤ b) ∨ (0 ≤ a ∧ b < 0))) ∨ (s = 1 ∧ ((a < 0 ∧ b < 0) ∨ (0 ≤ a ∧ 0 ≤ b)))))) : s = sg (a * b) := by
  have hn := num_hi_lo (absZ a b)
  have he := absZ_eq a b
  have hg := neg_mul_iff a b
  unfold num at hn
  unfold sg
  rcases h with ⟨h1, h2, rfl⟩ | ⟨h1, h2⟩
  · rw [h1, h2] at hn
    split at he <;> split <;> omega
  · have hne : a * b ≠ 0 := by
      intro h0
      rw [h0] at he
      apply h1
      rw [he]
      decide
    have ha : a ≠ 0 := fun h => hne (by rw [h]; simp)
    have hb : b ≠ 0 := fun h => hne (by rw [h]; simp)
    by_cases h3 : a * b < 0
    · rw [if_pos h3]
      have := hg.1 h3
      omega
    · rw [if_neg h3, if_pos (by omega)]
      have h4 : ¬ ((a < 0 ∧ 0 < b) ∨ (0 < a ∧ b < 0)) := fun h => h3 (hg.2 h)
      omega
set_option maxHeartbeats 1000000 in
theorem rSigned_any (a b : Int) (w : World) (a0 : -4294967295 ≤ a) (a1 : a ≤ 4294967295) (b0 : -4294967295 ≤ b) (b1 : b ≤ 4294967295) :
    Calls Try.prog 66 #[.int .i64 a, .int .i64 b] w fun e w' => e = .returned (.tuple #[.int .i64 (sg (a * b)), .agg #[.int .u64 (hi (absZ a b)), .int .u64 (lo (absZ a b))]]) ∧ Below w.heap.size w w' := by
  go_enter Try.func66, Try.ntmps66
  go_wp2_with (first | (go_at_call 70; refine (rMul_any _ _ _ (by omega) (by omega) (by omega) (by omega)).mono ?_; rintro e w1 ⟨rfl, hb⟩; obtain ⟨hc0, hf0, hn0, hm0, hl0, hz⟩ := bc1 (H := w.heap.size) hb (by first | assumption | (simp; done) | (simp; omega)); have hB := below_then (w := w) (by first | assumption | exact below_new (by assumption) _ | exact below_new (below_new (by assumption) _) _ | exact below_new (below_new (below_new (by assumption) _) _) _ | exact below_new (below_new (below_new (below_new (by assumption) _) _) _) _ | exact below_new (Below.refl _ _) _) hb; clear hb))
  all_goals go_region
  all_goals
    go_wp2
    refine bodyPost_ret (v := .tuple #[.int .i64 _, .agg #[.int .u64 _, .int .u64 _]]) (by simp [*, results, Try.results66, go_sem]; exact ⟨rfl, rfl, rfl⟩) rfl ⟨ret_s ?_ ?_ ?_, ?_⟩
    · clear hc0 hf0 hn0 hm0 hl0 hz hB
      have hab := absZ_cases a b
      refine sg_words a b _ ?_
      simp_all
    · clear hc0 hf0 hn0 hm0 hl0 hz hB
      have hab := absZ_cases a b
      simp_all
    · clear hc0 hf0 hn0 hm0 hl0 hz hB
      have hab := absZ_cases a b
      simp_all
    · refine Below.drew ?_
      repeat (first | refine Below.setCell ?_ (by simp) _ | refine below_new ?_ _)
      assumption
end Go.Proofs.Ytmednnpmkhgfpaa.GW
end
section
/- What the reference's functions on turns, stretches, boxes and distances answer. Worlds: nothing that was there has changed. -/
namespace Go.Proofs.Ytmednnpmkhgfpaa.GW
open Go Go.RowKit Go.Proofs.Ytmednnpmkhgfpaa.Wd Go.Proofs.Ytmednnpmkhgfpaa.Geo Go.Proofs.YtmednnpmkhgfpaaW.PrintLast
attribute [local go_sem] max2_int min2_int max_two min_two max_three

theorem turn_ways (P Q s : Int) (h : (¬ sg P = sg Q ∧ sg Q < sg P ∧ s = 1) ∨ (¬ sg P = sg Q ∧ sg P ≤ sg Q ∧ s = -1)) : s = sg (P - Q) := by
  unfold sg at h ⊢
  repeat' split at h
  all_goals first | (split <;> first | omega | (split <;> omega)) | omega
theorem turn_same (P Q A B : Int) (hA : A = if P < 0 then -P else P) (hB : B = if Q < 0 then -Q else Q) (h : sg P = sg Q) : sg P * sg (A - B) = sg (P - Q) := by
  unfold sg at *
  repeat' split at h
  all_goals first
    | (exfalso; omega)
    | (repeat' split at hA
       all_goals (repeat' split at hB)
       all_goals first | (exfalso; omega) | skip
       all_goals (subst hA hB)
       all_goals (repeat' split)
       all_goals first | (exfalso; omega) | rfl | (simp; done) | omega)
set_option maxHeartbeats 1000000 in
theorem rTurn0_any (ax ay bx b_y cx cy : Int) (w : World) (ha : ptB ax ay = true) (hb : ptB bx b_y = true) (hc : ptB cx cy = true) :
    Calls Try.prog 63 #[.agg #[.int .i64 ax, .int .i64 ay], .agg #[.int .i64 bx, .int .i64 b_y], .agg #[.int .i64 cx, .int .i64 cy]] w fun e w' => e = .returned (.int .i64 (turnZ ax ay bx b_y cx cy)) ∧ Below w.heap.size w w' := by
  obtain ⟨⟨a0, a1⟩, a2, a3⟩ := ptB_iff.1 ha
  obtain ⟨⟨b0, b1⟩, b2, b3⟩ := ptB_iff.1 hb
  obtain ⟨⟨c0, c1⟩, c2, c3⟩ := ptB_iff.1 hc
  clear ha hb hc
  go_enter Try.func63, Try.ntmps63
  go_wp2_with (first | (go_at_call 66; refine (rSigned_any _ _ _ (by omega) (by omega) (by omega) (by omega)).mono ?_; rintro e w1 ⟨rfl, hb⟩; obtain ⟨hq, hqf⟩ := bcell hb; have hql := hb.size; (try simp at hql); (try replace hql := Nat.lt_of_succ_le hql); obtain ⟨hc0, hc1, hc2, hf0, hf1, hf2, hn0, hn1, hn2, hm0, hm1, hm2, hl0, hl1, hl2, hz⟩ := bc3 (H := w.heap.size) hb (by first | assumption | (simp; done) | (simp; omega)); have hB := below_then (w := w) (by first | assumption | exact below_new (by assumption) _ | exact below_new (below_new (by assumption) _) _ | exact below_new (below_new (below_new (by assumption) _) _) _ | exact below_new (below_new (below_new (below_new (by assumption) _) _) _) _ | exact below_new (below_new (below_new (Below.refl _ _) _) _) _) hb; clear hb) | (go_at_call 67; refine (rCmp_any _ _ _ _ _).mono ?_; rintro e w1 ⟨rfl, hb⟩; obtain ⟨hq, hqf⟩ := bcell hb; have hql := hb.size; (try simp at hql); (try replace hql := Nat.lt_of_succ_le hql); obtain ⟨hc0, hc1, hc2, hf0, hf1, hf2, hn0, hn1, hn2, hm0, hm1, hm2, hl0, hl1, hl2, hz⟩ := bc3 (H := w.heap.size) hb (by first | assumption | (simp; done) | (simp; omega)); have hB := below_then (w := w) (by first | assumption | exact below_new (by assumption) _ | exact below_new (below_new (by assumption) _) _ | exact below_new (below_new (below_new (by assumption) _) _) _ | exact below_new (below_new (below_new (below_new (by assumption) _) _) _) _ | exact below_new (below_new (below_new (Below.refl _ _) _) _) _) hb; clear hb))
  all_goals
    go_ret
    refine ⟨?_, by first | assumption | exact below_new (by assumption) _⟩
    apply ret_int
    rw [show turnZ ax ay bx b_y cx cy = sg ((bx - ax) * (cy - ay) - (b_y - ay) * (cx - ax)) from rfl]
    first
      | (have e : sg ((bx - ax) * (cy - ay)) = sg ((b_y - ay) * (cx - ax)) := by assumption
         have hs := turn_same _ _ _ _ (absZ_eq (bx - ax) (cy - ay)) (absZ_eq (b_y - ay) (cx - ax)) e
         first
           | (rw [cmp_lex, IntWalk.wrap64_in _ (mul_sg _ _)]; exact hs)
           | (rw [cmp_lex, IntWalk.wrap64_in _ (mul_sg _ _), ← e]; exact hs)
           | (rw [← hs, ← cmp_lex]; exact IntWalk.wrap64_in _ (by rw [cmp_lex]; exact mul_sg _ _))
           | (rw [← hs, e, ← cmp_lex]; exact IntWalk.wrap64_in _ (by rw [cmp_lex]; exact mul_sg _ _)))
      | (have h1 : ¬ sg ((bx - ax) * (cy - ay)) = sg ((b_y - ay) * (cx - ax)) := by assumption
         have h2 : (sg ((bx - ax) * (cy - ay)) != sg ((b_y - ay) * (cx - ax))) = true ∧ sg ((b_y - ay) * (cx - ax)) < sg ((bx - ax) * (cy - ay)) := by assumption
         exact turn_ways _ _ _ (Or.inl ⟨h1, h2.2, rfl⟩))
      | (have h1 : ¬ sg ((bx - ax) * (cy - ay)) = sg ((b_y - ay) * (cx - ax)) := by assumption
         have h2 : (sg ((bx - ax) * (cy - ay)) != sg ((b_y - ay) * (cx - ax))) = false ∨ sg ((bx - ax) * (cy - ay)) ≤ sg ((b_y - ay) * (cx - ax)) := by assumption
         exact turn_ways _ _ _ (Or.inr ⟨h1, h2.elim (fun h => absurd (by simpa using h) h1) id, rfl⟩))
set_option maxHeartbeats 1000000 in
theorem rOn_any (px py ax ay bx b_y : Int) (w : World) (hp : ptB px py = true) (ha : ptB ax ay = true) (hb' : ptB bx b_y = true) :
    Calls Try.prog 61 #[.agg #[.int .i64 px, .int .i64 py], .agg #[.int .i64 ax, .int .i64 ay], .agg #[.int .i64 bx, .int .i64 b_y]] w fun e w' => e = .returned (.bool (onB px py ax ay bx b_y)) ∧ Below w.heap.size w w' := by
  have HP := Lib.hid hp; have HA := Lib.hid ha; have HB := Lib.hid hb'
  clear hp ha hb'
  by_cases h0 : turnZ ax ay bx b_y px py = 0
  · have h1 : (turnZ ax ay bx b_y px py == 0) = true := by simpa using h0
    have H0 := Lib.hid h0; clear h0
    go_enter Try.func61, Try.ntmps61
    go_wp2_with fail
    have hB0 : Below w.heap.size w (((w.alloc (.cells #[.int .i64 px, .int .i64 py] 23)).alloc (.cells #[.int .i64 ax, .int .i64 ay] 23)).alloc (.cells #[.int .i64 bx, .int .i64 b_y] 23)).drew := Below.drew (below_new (below_new (below_new (Below.refl _ _) _) _) _)
    go_region_held3 (fun w' => Below w.heap.size w w' ∧ w'.cell? ⟨w.heap.size, 0, none⟩ = some (.int .i64 px) ∧ w'.cell? ⟨w.heap.size, 1, none⟩ = some (.int .i64 py) ∧ w'.cell? ⟨w.heap.size + 1, 0, none⟩ = some (.int .i64 ax) ∧ w'.cell? ⟨w.heap.size + 1, 1, none⟩ = some (.int .i64 ay) ∧ w'.cell? ⟨w.heap.size + 1 + 1, 0, none⟩ = some (.int .i64 bx) ∧ w'.cell? ⟨w.heap.size + 1 + 1, 1, none⟩ = some (.int .i64 b_y))
      (first | (go_split_ands; refine ⟨below_then (by assumption) hb, keeps hb (by assumption), keeps hb (by assumption), keeps hb (by assumption), keeps hb (by assumption), keeps hb (by assumption), keeps hb (by assumption)⟩) | (refine ⟨hB0, ?_, ?_, ?_, ?_, ?_, ?_⟩ <;> go_simp))
      (first | (go_at_call 63; refine (rTurn0_any _ _ _ _ _ _ _ HA.out HB.out HP.out).mono ?_; rintro e w1 ⟨rfl, hb⟩) | (go_at_call 26; refine (rWithin_any _ _ _ _ _ _ _).mono ?_; rintro e w1 ⟨rfl, hb⟩) | (go_at_call 44; refine (rAround_any _ _ _ _ _).mono ?_; rintro e w1 ⟨rfl, hb⟩))
    all_goals
      go_wp2
      go_ret
      exact ⟨by rw [show onB px py ax ay bx b_y = (decide (turnZ ax ay bx b_y px py = 0) && withinB px py (min ax bx) (min ay b_y) (max ax bx) (max ay b_y)) from rfl, decide_eq_true H0.out, Bool.true_and]; rfl, And.left (by assumption : Below w.heap.size w _ ∧ _)⟩
  · have h1 : (turnZ ax ay bx b_y px py == 0) = false := by simpa using h0
    have H0 := Lib.hid h0; clear h0
    go_enter Try.func61, Try.ntmps61
    go_wp2_with fail
    have hS : (fun w' => Below w.heap.size w w' ∧ w'.cell? ⟨w.heap.size, 0, none⟩ = some (.int .i64 px) ∧ w'.cell? ⟨w.heap.size, 1, none⟩ = some (.int .i64 py) ∧ w'.cell? ⟨w.heap.size + 1, 0, none⟩ = some (.int .i64 ax) ∧ w'.cell? ⟨w.heap.size + 1, 1, none⟩ = some (.int .i64 ay) ∧ w'.cell? ⟨w.heap.size + 1 + 1, 0, none⟩ = some (.int .i64 bx) ∧ w'.cell? ⟨w.heap.size + 1 + 1, 1, none⟩ = some (.int .i64 b_y)) (((w.alloc (.cells #[.int .i64 px, .int .i64 py] 23)).alloc (.cells #[.int .i64 ax, .int .i64 ay] 23)).alloc (.cells #[.int .i64 bx, .int .i64 b_y] 23)).drew := by
      refine ⟨Below.drew (below_new (below_new (below_new (Below.refl _ _) _) _) _), ?_, ?_, ?_, ?_, ?_, ?_⟩ <;> go_simp
    refine start_ (n := 13) (S := (fun w' => Below w.heap.size w w' ∧ w'.cell? ⟨w.heap.size, 0, none⟩ = some (.int .i64 px) ∧ w'.cell? ⟨w.heap.size, 1, none⟩ = some (.int .i64 py) ∧ w'.cell? ⟨w.heap.size + 1, 0, none⟩ = some (.int .i64 ax) ∧ w'.cell? ⟨w.heap.size + 1, 1, none⟩ = some (.int .i64 ay) ∧ w'.cell? ⟨w.heap.size + 1 + 1, 0, none⟩ = some (.int .i64 bx) ∧ w'.cell? ⟨w.heap.size + 1 + 1, 1, none⟩ = some (.int .i64 b_y))) (ds := []) #[false, false, false, false, false, false, false, false, false, false, false, false, false] (by kernel_rfl) rfl rfl hS (fun hHeld => ?_)
    refine take_ (i := 0) (N := (some 7)) (v := ?_) (a' := ?_) #[true, false, false, false, false, false, false, false, false, false, false, false, false] rfl rfl (by kernel_rfl) (fun _ _ _ h => h) (Or.inl ⟨by rfl, ?_⟩) hHeld ?_ ?_
    rotate_left
    · intro w' hS'; (try dsimp only at hS'); go_split_ands; go_simp
      all_goals with_reducible rfl
    rotate_left
    · simp only [Act.put, List.setIfInBounds_toArray, List.set_cons_zero, List.set_cons_succ]
      rfl
    refine take_ (i := 1) (N := (some 8)) (v := ?_) (a' := ?_) #[true, true, false, false, false, false, false, false, false, false, false, false, false] rfl rfl (by kernel_rfl) (fun _ _ _ h => h) (Or.inl ⟨by rfl, ?_⟩) hHeld ?_ ?_
    rotate_left
    · intro w' hS'; (try dsimp only at hS'); go_split_ands; go_simp
      all_goals with_reducible rfl
    rotate_left
    · simp only [Act.put, List.setIfInBounds_toArray, List.set_cons_zero, List.set_cons_succ]
      rfl
    refine take_ (i := 2) (N := (some 9)) (v := ?_) (a' := ?_) #[true, true, true, false, false, false, false, false, false, false, false, false, false] rfl rfl (by kernel_rfl) (fun _ _ _ h => h) (Or.inl ⟨by rfl, ?_⟩) hHeld ?_ ?_
    rotate_left
    · intro w' hS'; (try dsimp only at hS'); go_split_ands; go_simp
      all_goals with_reducible rfl
    rotate_left
    · simp only [Act.put, List.setIfInBounds_toArray, List.set_cons_zero, List.set_cons_succ]
      rfl
    refine one_ (i := 3) (N := (some 10)) #[true, true, true, true, false, false, false, false, false, false, false, false, false] rfl rfl (by kernel_rfl) (by decide) (fun K hK => ?_)
    refine goes_ Try.func63 (by kernel_rfl) rfl #[.agg #[.int .i64 ax, .int .i64 ay], .agg #[.int .i64 bx, .int .i64 b_y], .agg #[.int .i64 px, .int .i64 py]] (by rfl) rfl rfl (by first | rfl | (simp only [List.map_toArray, List.map_cons, List.map_nil]; rfl)) ?_
    refine (rTurn0_any _ _ _ _ _ _ _ HA.out HB.out HP.out).mono ?_
    rintro e w1 ⟨rfl, hb⟩
    refine ⟨_, rfl, ?_⟩
    refine hK.out _ _ ⟨below_then hHeld.1 hb, keeps hb hHeld.2.1, keeps hb hHeld.2.2.1, keeps hb hHeld.2.2.2.1, keeps hb hHeld.2.2.2.2.1, keeps hb hHeld.2.2.2.2.2.1, keeps hb hHeld.2.2.2.2.2.2⟩ (fun hHeld => ?_)
    clear hK K
    refine norm_ (a' := ?_) ?_ ?_
    rotate_left
    · show Act.put _ (some 10) _ = _
      simp only [Act.put, List.setIfInBounds_toArray, List.set_cons_zero, List.set_cons_succ]
      rfl
    refine take_ (i := 4) (N := (some 11)) (v := ?_) (a' := ?_) #[true, true, true, true, true, false, false, false, false, false, false, false, false] rfl rfl (by kernel_rfl) (fun _ _ _ h => h) (Or.inl ⟨by rfl, ?_⟩) hHeld ?_ ?_
    rotate_left
    · intro w' hS'; (try dsimp only at hS'); go_split_ands; go_simp
      all_goals with_reducible rfl
    rotate_left
    · simp only [Act.put, List.setIfInBounds_toArray, List.set_cons_zero, List.set_cons_succ]
      rfl
    refine take_ (i := 5) (N := (some 12)) (v := ?_) (a' := ?_) #[true, true, true, true, true, true, false, false, false, false, false, false, false] rfl rfl (by kernel_rfl) (fun _ _ _ h => h) (Or.inl ⟨by rfl, ?_⟩) hHeld ?_ ?_
    rotate_left
    · intro w' hS'; (try dsimp only at hS'); go_split_ands; go_simp
      all_goals with_reducible rfl
    rotate_left
    · simp only [Act.put, List.setIfInBounds_toArray, List.set_cons_zero, List.set_cons_succ]
      rfl
    refine pure_ (i := 6) (N := (some 13)) (v := undef) (a' := ?_) #[true, true, true, true, true, true, true, false, false, false, false, false, false] rfl rfl (by kernel_rfl) (fun _ _ _ h => h) (Or.inr ⟨by rfl, rfl⟩) ?_ ?_
    rotate_left
    · simp only [Act.put, List.setIfInBounds_toArray, List.set_cons_zero, List.set_cons_succ]
      rfl
    refine pure_ (i := 7) (N := (some 14)) (v := undef) (a' := ?_) #[true, true, true, true, true, true, true, true, false, false, false, false, false] rfl rfl (by kernel_rfl) (fun _ _ _ h => h) (Or.inr ⟨by rfl, rfl⟩) ?_ ?_
    rotate_left
    · simp only [Act.put, List.setIfInBounds_toArray, List.set_cons_zero, List.set_cons_succ]
      rfl
    refine pure_ (i := 8) (N := (some 15)) (v := undef) (a' := ?_) #[true, true, true, true, true, true, true, true, true, false, false, false, false] rfl rfl (by kernel_rfl) (fun _ _ _ h => h) (Or.inr ⟨by rfl, rfl⟩) ?_ ?_
    rotate_left
    · simp only [Act.put, List.setIfInBounds_toArray, List.set_cons_zero, List.set_cons_succ]
      rfl
    refine pure_ (i := 9) (N := (some 16)) (v := undef) (a' := ?_) #[true, true, true, true, true, true, true, true, true, true, false, false, false] rfl rfl (by kernel_rfl) (fun _ _ _ h => h) (Or.inr ⟨by rfl, rfl⟩) ?_ ?_
    rotate_left
    · simp only [Act.put, List.setIfInBounds_toArray, List.set_cons_zero, List.set_cons_succ]
      rfl
    refine pure_ (i := 10) (N := (some 17)) (v := undef) (a' := ?_) #[true, true, true, true, true, true, true, true, true, true, true, false, false] rfl rfl (by kernel_rfl) (fun _ _ _ h => h) (Or.inr ⟨by rfl, rfl⟩) ?_ ?_
    rotate_left
    · simp only [Act.put, List.setIfInBounds_toArray, List.set_cons_zero, List.set_cons_succ]
      rfl
    refine take_ (i := 11) (N := (some 18)) (v := ?_) (a' := ?_) #[true, true, true, true, true, true, true, true, true, true, true, true, false] rfl rfl (by kernel_rfl) (fun _ _ _ h => h) (Or.inl ⟨by rfl, ?_⟩) hHeld ?_ ?_
    rotate_left
    · intro w' hS'; (try dsimp only at hS'); go_split_ands; go_simp
      all_goals with_reducible rfl
    rotate_left
    · simp only [Act.put, List.setIfInBounds_toArray, List.set_cons_zero, List.set_cons_succ]
      rfl
    refine take_ (i := 12) (N := (some 6)) (v := ?_) (a' := ?_) #[true, true, true, true, true, true, true, true, true, true, true, true, true] rfl rfl (by kernel_rfl) (fun _ _ _ h => h) (Or.inl ⟨by rfl, ?_⟩) hHeld ?_ ?_
    rotate_left
    · intro w' hS'; (try dsimp only at hS'); go_split_ands; go_simp
      all_goals with_reducible rfl
    rotate_left
    · simp only [Act.put, List.setIfInBounds_toArray, List.set_cons_zero, List.set_cons_succ]
      rfl
    refine done_ (by kernel_rfl) ?_
    go_wp2
    go_ret
    exact ⟨by rw [show onB px py ax ay bx b_y = (decide (turnZ ax ay bx b_y px py = 0) && withinB px py (min ax bx) (min ay b_y) (max ax bx) (max ay b_y)) from rfl, decide_eq_false H0.out, Bool.false_and]; rfl, hHeld.1⟩
set_option maxHeartbeats 1000000 in
theorem rJoin_any (a0 a1 a2 a3 b0 b1 b2 b3 : Int) (w : World) :
    Calls Try.prog 45 #[.agg #[.int .i64 a0, .int .i64 a1, .int .i64 a2, .int .i64 a3], .agg #[.int .i64 b0, .int .i64 b1, .int .i64 b2, .int .i64 b3]] w fun e w' => e = .returned (.tuple #[.agg #[.int .i64 (orZero (joinIs a0 a1 a2 a3 b0 b1 b2 b3) (min a0 b0)), .int .i64 (orZero (joinIs a0 a1 a2 a3 b0 b1 b2 b3) (min a1 b1)), .int .i64 (orZero (joinIs a0 a1 a2 a3 b0 b1 b2 b3) (max a2 b2)), .int .i64 (orZero (joinIs a0 a1 a2 a3 b0 b1 b2 b3) (max a3 b3))], .int .i64 (orErr (joinIs a0 a1 a2 a3 b0 b1 b2 b3) 300)]) ∧ Below w.heap.size w w' := by
  go_enter Try.func45, Try.ntmps45
  go_wp2_with (first | (go_at_call 27; refine (rBoxMay_any _ _ _ _ _).mono ?_; rintro e w1 ⟨rfl, hb⟩; obtain ⟨hc0, hc1, hc2, hf0, hf1, hf2, hn0, hn1, hn2, hm0, hm1, hm2, hl0, hl1, hl2, hz⟩ := bc3 (H := w.heap.size) hb (by first | assumption | (simp; done) | (simp; omega)); have hB := below_then (w := w) (by first | assumption | exact below_new (by assumption) _ | exact below_new (below_new (by assumption) _) _ | exact below_new (below_new (below_new (by assumption) _) _) _ | exact below_new (below_new (below_new (below_new (by assumption) _) _) _) _ | exact below_new (below_new (below_new (Below.refl _ _) _) _) _) hb; clear hb))
  all_goals
    refine bodyPost_ret (v := .tuple #[.agg #[.int .i64 _, .int .i64 _, .int .i64 _, .int .i64 _], .int .i64 _]) (by simp [*, results, Try.results45, go_sem]; exact ⟨⟨rfl, rfl, rfl, rfl⟩, rfl⟩) rfl ⟨?_, ?_⟩
    · clear hc0 hc1 hc2 hf0 hf1 hf2
      apply ret_box_err <;> simp_all [orZero, orErr, joinIs]
    · repeat (refine Below.setCell ?_ (by simp; omega) _)
      assumption
end Go.Proofs.Ytmednnpmkhgfpaa.GW
end
section
/- What the reference's functions on crossings answer. Worlds: nothing that was there has changed. -/
namespace Go.Proofs.Ytmednnpmkhgfpaa.GW
open Go Go.RowKit Go.Proofs.Ytmednnpmkhgfpaa.Wd Go.Proofs.Ytmednnpmkhgfpaa.Geo Go.Proofs.YtmednnpmkhgfpaaW.PrintLast

set_option maxHeartbeats 4000000 in
theorem rCross0_any (ax ay bx b_y cx cy dx dy : Int) (w : World) (ha : ptB ax ay = true) (hb' : ptB bx b_y = true) (hc : ptB cx cy = true) (hd : ptB dx dy = true) :
    Calls Try.prog 49 #[.agg #[.int .i64 ax, .int .i64 ay], .agg #[.int .i64 bx, .int .i64 b_y], .agg #[.int .i64 cx, .int .i64 cy], .agg #[.int .i64 dx, .int .i64 dy]] w fun e w' => e = .returned (.bool (crossB ax ay bx b_y cx cy dx dy)) ∧ Below w.heap.size w w' := by
  by_cases h1 : turnZ ax ay bx b_y cx cy * turnZ ax ay bx b_y dx dy < 0
  · have g1 := decide_eq_true h1
    go_enter Try.func49, Try.ntmps49
    go_wp2_with (first | (go_at_call 61; refine (rOn_any _ _ _ _ _ _ _ (by assumption) (by assumption) (by assumption)).mono ?_; rintro e w1 ⟨rfl, hb⟩; obtain ⟨hc0, hc1, hc2, hc3, hf0, hf1, hf2, hf3, hn0, hn1, hn2, hn3, hm0, hm1, hm2, hm3, hl0, hl1, hl2, hl3, hz⟩ := bc4 (H := w.heap.size) hb (by first | assumption | (simp; done) | (simp; omega)); have hB := below_then (w := w) (by first | assumption | exact below_new (by assumption) _ | exact below_new (below_new (by assumption) _) _ | exact below_new (below_new (below_new (by assumption) _) _) _ | exact below_new (below_new (below_new (below_new (by assumption) _) _) _) _ | exact below_new (below_new (below_new (below_new (Below.refl _ _) _) _) _) _) hb; clear hb))
    all_goals first
      | (go_ret; refine ⟨?_, by assumption⟩; clear hc0 hc1 hc2 hc3 hf0 hf1 hf2 hf3; simp_all [crossB]; done)
      | skip
    have K1 := Lib.hid h1; clear h1
    have e1 : IntKind.i64.wrap (turnZ ax ay bx b_y cx cy * turnZ ax ay bx b_y dx dy) = turnZ ax ay bx b_y cx cy * turnZ ax ay bx b_y dx dy := IntWalk.i64_in _ (mul_sg _ _)
    have e2 : IntKind.i64.wrap (turnZ cx cy dx dy ax ay * turnZ cx cy dx dy bx b_y) = turnZ cx cy dx dy ax ay * turnZ cx cy dx dy bx b_y := IntWalk.i64_in _ (mul_sg _ _)
    go_region_held3 (fun w' => Below w.heap.size w w' ∧ w'.cell? ⟨w.heap.size, 0, none⟩ = some (.int .i64 ax) ∧ w'.cell? ⟨w.heap.size, 1, none⟩ = some (.int .i64 ay) ∧ w'.cell? ⟨w.heap.size + 1, 0, none⟩ = some (.int .i64 bx) ∧ w'.cell? ⟨w.heap.size + 1, 1, none⟩ = some (.int .i64 b_y) ∧ w'.cell? ⟨w.heap.size + 1 + 1, 0, none⟩ = some (.int .i64 cx) ∧ w'.cell? ⟨w.heap.size + 1 + 1, 1, none⟩ = some (.int .i64 cy) ∧ w'.cell? ⟨w.heap.size + 1 + 1 + 1, 0, none⟩ = some (.int .i64 dx) ∧ w'.cell? ⟨w.heap.size + 1 + 1 + 1, 1, none⟩ = some (.int .i64 dy))
      (first | (go_split_ands; refine ⟨below_then (by assumption) hb, keeps hb (by assumption), keeps hb (by assumption), keeps hb (by assumption), keeps hb (by assumption), keeps hb (by assumption), keeps hb (by assumption), keeps hb (by assumption), keeps hb (by assumption)⟩) | (refine ⟨Below.drew (by assumption), ?_, ?_, ?_, ?_, ?_, ?_, ?_, ?_⟩ <;> go_simp))
      (first | (go_at_call 63; refine (rTurn0_any _ _ _ _ _ _ _ (by assumption) (by assumption) (by assumption)).mono ?_; rintro e w1 ⟨rfl, hb⟩))
    all_goals
      clear e1 e2
      go_wp2
      go_ret
      refine ⟨?_, And.left (by assumption : Below w.heap.size w _ ∧ _)⟩
      have G1 := Lib.hid g1; clear g1
      have z : crossB ax ay bx b_y cx cy dx dy = (decide (turnZ ax ay bx b_y cx cy * turnZ ax ay bx b_y dx dy < 0) && decide (turnZ cx cy dx dy ax ay * turnZ cx cy dx dy bx b_y < 0)) := by
        have n1 : onB cx cy ax ay bx b_y = false := by first | assumption | (simpa using ‹¬ onB cx cy ax ay bx b_y = true›)
        have n2 : onB dx dy ax ay bx b_y = false := by first | assumption | (simpa using ‹¬ onB dx dy ax ay bx b_y = true›)
        have n3 : onB ax ay cx cy dx dy = false := by first | assumption | (simpa using ‹¬ onB ax ay cx cy dx dy = true›)
        have n4 : onB bx b_y cx cy dx dy = false := by first | assumption | (simpa using ‹¬ onB bx b_y cx cy dx dy = true›)
        unfold crossB
        rw [n1, n2, n3, n4]; rfl
      rw [z, G1.out]; rfl
  · have g1 := decide_eq_false h1
    go_enter Try.func49, Try.ntmps49
    go_wp2_with (first | (go_at_call 61; refine (rOn_any _ _ _ _ _ _ _ (by assumption) (by assumption) (by assumption)).mono ?_; rintro e w1 ⟨rfl, hb⟩; obtain ⟨hc0, hc1, hc2, hc3, hf0, hf1, hf2, hf3, hn0, hn1, hn2, hn3, hm0, hm1, hm2, hm3, hl0, hl1, hl2, hl3, hz⟩ := bc4 (H := w.heap.size) hb (by first | assumption | (simp; done) | (simp; omega)); have hB := below_then (w := w) (by first | assumption | exact below_new (by assumption) _ | exact below_new (below_new (by assumption) _) _ | exact below_new (below_new (below_new (by assumption) _) _) _ | exact below_new (below_new (below_new (below_new (by assumption) _) _) _) _ | exact below_new (below_new (below_new (below_new (Below.refl _ _) _) _) _) _) hb; clear hb))
    all_goals first
      | (go_ret; refine ⟨?_, by assumption⟩; clear hc0 hc1 hc2 hc3 hf0 hf1 hf2 hf3; simp_all [crossB]; done)
      | skip
    have K1 := Lib.hid h1; clear h1
    have e1 : IntKind.i64.wrap (turnZ ax ay bx b_y cx cy * turnZ ax ay bx b_y dx dy) = turnZ ax ay bx b_y cx cy * turnZ ax ay bx b_y dx dy := IntWalk.i64_in _ (mul_sg _ _)
    have e2 : IntKind.i64.wrap (turnZ cx cy dx dy ax ay * turnZ cx cy dx dy bx b_y) = turnZ cx cy dx dy ax ay * turnZ cx cy dx dy bx b_y := IntWalk.i64_in _ (mul_sg _ _)
    have hS : (fun w' => Below w.heap.size w w' ∧ w'.cell? ⟨w.heap.size, 0, none⟩ = some (.int .i64 ax) ∧ w'.cell? ⟨w.heap.size, 1, none⟩ = some (.int .i64 ay) ∧ w'.cell? ⟨w.heap.size + 1, 0, none⟩ = some (.int .i64 bx) ∧ w'.cell? ⟨w.heap.size + 1, 1, none⟩ = some (.int .i64 b_y) ∧ w'.cell? ⟨w.heap.size + 1 + 1, 0, none⟩ = some (.int .i64 cx) ∧ w'.cell? ⟨w.heap.size + 1 + 1, 1, none⟩ = some (.int .i64 cy) ∧ w'.cell? ⟨w.heap.size + 1 + 1 + 1, 0, none⟩ = some (.int .i64 dx) ∧ w'.cell? ⟨w.heap.size + 1 + 1 + 1, 1, none⟩ = some (.int .i64 dy)) w1.drew := by
      refine ⟨Below.drew (by assumption), ?_, ?_, ?_, ?_, ?_, ?_, ?_, ?_⟩ <;> go_simp
    refine start_ (n := 23) (S := (fun w' => Below w.heap.size w w' ∧ w'.cell? ⟨w.heap.size, 0, none⟩ = some (.int .i64 ax) ∧ w'.cell? ⟨w.heap.size, 1, none⟩ = some (.int .i64 ay) ∧ w'.cell? ⟨w.heap.size + 1, 0, none⟩ = some (.int .i64 bx) ∧ w'.cell? ⟨w.heap.size + 1, 1, none⟩ = some (.int .i64 b_y) ∧ w'.cell? ⟨w.heap.size + 1 + 1, 0, none⟩ = some (.int .i64 cx) ∧ w'.cell? ⟨w.heap.size + 1 + 1, 1, none⟩ = some (.int .i64 cy) ∧ w'.cell? ⟨w.heap.size + 1 + 1 + 1, 0, none⟩ = some (.int .i64 dx) ∧ w'.cell? ⟨w.heap.size + 1 + 1 + 1, 1, none⟩ = some (.int .i64 dy))) (ds := []) #[false, false, false, false, false, false, false, false, false, false, false, false, false, false, false, false, false, false, false, false, false, false, false] (by kernel_rfl) rfl rfl hS (fun hHeld => ?_)
    refine take_ (i := 0) (N := (some 31)) (v := ?_) (a' := ?_) #[true, false, false, false, false, false, false, false, false, false, false, false, false, false, false, false, false, false, false, false, false, false, false] rfl rfl (by kernel_rfl) (fun _ _ _ h => h) (Or.inl ⟨by rfl, ?_⟩) hHeld ?_ ?_
    rotate_left
    · intro w' hS'; (try dsimp only at hS'); go_split_ands; go_simp
      all_goals with_reducible rfl
    rotate_left
    · simp only [Act.put, List.setIfInBounds_toArray, List.set_cons_zero, List.set_cons_succ]
      rfl
    refine take_ (i := 1) (N := (some 32)) (v := ?_) (a' := ?_) #[true, true, false, false, false, false, false, false, false, false, false, false, false, false, false, false, false, false, false, false, false, false, false] rfl rfl (by kernel_rfl) (fun _ _ _ h => h) (Or.inl ⟨by rfl, ?_⟩) hHeld ?_ ?_
    rotate_left
    · intro w' hS'; (try dsimp only at hS'); go_split_ands; go_simp
      all_goals with_reducible rfl
    rotate_left
    · simp only [Act.put, List.setIfInBounds_toArray, List.set_cons_zero, List.set_cons_succ]
      rfl
    refine take_ (i := 2) (N := (some 33)) (v := ?_) (a' := ?_) #[true, true, true, false, false, false, false, false, false, false, false, false, false, false, false, false, false, false, false, false, false, false, false] rfl rfl (by kernel_rfl) (fun _ _ _ h => h) (Or.inl ⟨by rfl, ?_⟩) hHeld ?_ ?_
    rotate_left
    · intro w' hS'; (try dsimp only at hS'); go_split_ands; go_simp
      all_goals with_reducible rfl
    rotate_left
    · simp only [Act.put, List.setIfInBounds_toArray, List.set_cons_zero, List.set_cons_succ]
      rfl
    refine take_ (i := 4) (N := (some 35)) (v := ?_) (a' := ?_) #[true, true, true, false, true, false, false, false, false, false, false, false, false, false, false, false, false, false, false, false, false, false, false] rfl rfl (by kernel_rfl) (fun _ _ _ h => h) (Or.inl ⟨by rfl, ?_⟩) hHeld ?_ ?_
    rotate_left
    · intro w' hS'; (try dsimp only at hS'); go_split_ands; go_simp
      all_goals with_reducible rfl
    rotate_left
    · simp only [Act.put, List.setIfInBounds_toArray, List.set_cons_zero, List.set_cons_succ]
      rfl
    refine take_ (i := 5) (N := (some 36)) (v := ?_) (a' := ?_) #[true, true, true, false, true, true, false, false, false, false, false, false, false, false, false, false, false, false, false, false, false, false, false] rfl rfl (by kernel_rfl) (fun _ _ _ h => h) (Or.inl ⟨by rfl, ?_⟩) hHeld ?_ ?_
    rotate_left
    · intro w' hS'; (try dsimp only at hS'); go_split_ands; go_simp
      all_goals with_reducible rfl
    rotate_left
    · simp only [Act.put, List.setIfInBounds_toArray, List.set_cons_zero, List.set_cons_succ]
      rfl
    refine take_ (i := 6) (N := (some 37)) (v := ?_) (a' := ?_) #[true, true, true, false, true, true, true, false, false, false, false, false, false, false, false, false, false, false, false, false, false, false, false] rfl rfl (by kernel_rfl) (fun _ _ _ h => h) (Or.inl ⟨by rfl, ?_⟩) hHeld ?_ ?_
    rotate_left
    · intro w' hS'; (try dsimp only at hS'); go_split_ands; go_simp
      all_goals with_reducible rfl
    rotate_left
    · simp only [Act.put, List.setIfInBounds_toArray, List.set_cons_zero, List.set_cons_succ]
      rfl
    refine one_ (i := 3) (N := (some 34)) #[true, true, true, true, true, true, true, false, false, false, false, false, false, false, false, false, false, false, false, false, false, false, false] rfl rfl (by kernel_rfl) (by decide) (fun K hK => ?_)
    refine goes_ Try.func63 (by kernel_rfl) rfl #[.agg #[.int .i64 ax, .int .i64 ay], .agg #[.int .i64 bx, .int .i64 b_y], .agg #[.int .i64 cx, .int .i64 cy]] (by rfl) rfl rfl (by first | rfl | (simp only [List.map_toArray, List.map_cons, List.map_nil]; rfl)) ?_
    refine (rTurn0_any _ _ _ _ _ _ _ ha hb' hc).mono ?_
    rintro e w1 ⟨rfl, hb⟩
    refine ⟨_, rfl, ?_⟩
    refine hK.out _ _ ⟨below_then hHeld.1 hb, keeps hb hHeld.2.1, keeps hb hHeld.2.2.1, keeps hb hHeld.2.2.2.1, keeps hb hHeld.2.2.2.2.1, keeps hb hHeld.2.2.2.2.2.1, keeps hb hHeld.2.2.2.2.2.2.1, keeps hb hHeld.2.2.2.2.2.2.2.1, keeps hb hHeld.2.2.2.2.2.2.2.2⟩ (fun hHeld => ?_)
    clear hK K
    refine norm_ (a' := ?_) ?_ ?_
    rotate_left
    · show Act.put _ (some 34) _ = _
      simp only [Act.put, List.setIfInBounds_toArray, List.set_cons_zero, List.set_cons_succ]
      rfl
    refine one_ (i := 7) (N := (some 38)) #[true, true, true, true, true, true, true, true, false, false, false, false, false, false, false, false, false, false, false, false, false, false, false] rfl rfl (by kernel_rfl) (by decide) (fun K hK => ?_)
    refine goes_ Try.func63 (by kernel_rfl) rfl #[.agg #[.int .i64 ax, .int .i64 ay], .agg #[.int .i64 bx, .int .i64 b_y], .agg #[.int .i64 dx, .int .i64 dy]] (by rfl) rfl rfl (by first | rfl | (simp only [List.map_toArray, List.map_cons, List.map_nil]; rfl)) ?_
    refine (rTurn0_any _ _ _ _ _ _ _ ha hb' hd).mono ?_
    rintro e w1 ⟨rfl, hb⟩
    refine ⟨_, rfl, ?_⟩
    refine hK.out _ _ ⟨below_then hHeld.1 hb, keeps hb hHeld.2.1, keeps hb hHeld.2.2.1, keeps hb hHeld.2.2.2.1, keeps hb hHeld.2.2.2.2.1, keeps hb hHeld.2.2.2.2.2.1, keeps hb hHeld.2.2.2.2.2.2.1, keeps hb hHeld.2.2.2.2.2.2.2.1, keeps hb hHeld.2.2.2.2.2.2.2.2⟩ (fun hHeld => ?_)
    clear hK K
    refine norm_ (a' := ?_) ?_ ?_
    rotate_left
    · show Act.put _ (some 38) _ = _
      simp only [Act.put, List.setIfInBounds_toArray, List.set_cons_zero, List.set_cons_succ]
      rfl
    refine take_ (i := 8) (N := (some 39)) (v := ?_) (a' := ?_) #[true, true, true, true, true, true, true, true, true, false, false, false, false, false, false, false, false, false, false, false, false, false, false] rfl rfl (by kernel_rfl) (fun _ _ _ h => h) (Or.inl ⟨by rfl, ?_⟩) hHeld ?_ ?_
    rotate_left
    · intro w' hS'; (try dsimp only at hS'); go_split_ands; go_simp
      all_goals with_reducible rfl
    rotate_left
    · simp only [Act.put, List.setIfInBounds_toArray, List.set_cons_zero, List.set_cons_succ]
      rfl
    refine take_ (i := 9) (N := (some 40)) (v := ?_) (a' := ?_) #[true, true, true, true, true, true, true, true, true, true, false, false, false, false, false, false, false, false, false, false, false, false, false] rfl rfl (by kernel_rfl) (fun _ _ _ h => h) (Or.inl ⟨by rfl, ?_⟩) hHeld ?_ ?_
    rotate_left
    · intro w' hS'; (try dsimp only at hS'); go_split_ands; go_simp
      all_goals with_reducible rfl
    rotate_left
    · simp only [Act.put, List.setIfInBounds_toArray, List.set_cons_zero, List.set_cons_succ]
      rfl
    refine take_ (i := 10) (N := (some 41)) (v := ?_) (a' := ?_) #[true, true, true, true, true, true, true, true, true, true, true, false, false, false, false, false, false, false, false, false, false, false, false] rfl rfl (by kernel_rfl) (fun _ _ _ h => h) (Or.inl ⟨by rfl, ?_⟩) hHeld ?_ ?_
    rotate_left
    · intro w' hS'; (try dsimp only at hS'); go_split_ands; go_simp
      all_goals with_reducible rfl
    rotate_left
    · simp only [Act.put, List.setIfInBounds_toArray, List.set_cons_zero, List.set_cons_succ]
      rfl
    refine pure_ (i := 11) (N := (some 42)) (v := undef) (a' := ?_) #[true, true, true, true, true, true, true, true, true, true, true, true, false, false, false, false, false, false, false, false, false, false, false] rfl rfl (by kernel_rfl) (fun _ _ _ h => h) (Or.inr ⟨by rfl, rfl⟩) ?_ ?_
    rotate_left
    · simp only [Act.put, List.setIfInBounds_toArray, List.set_cons_zero, List.set_cons_succ]
      rfl
    refine pure_ (i := 12) (N := (some 43)) (v := undef) (a' := ?_) #[true, true, true, true, true, true, true, true, true, true, true, true, true, false, false, false, false, false, false, false, false, false, false] rfl rfl (by kernel_rfl) (fun _ _ _ h => h) (Or.inr ⟨by rfl, rfl⟩) ?_ ?_
    rotate_left
    · simp only [Act.put, List.setIfInBounds_toArray, List.set_cons_zero, List.set_cons_succ]
      rfl
    refine pure_ (i := 13) (N := (some 44)) (v := undef) (a' := ?_) #[true, true, true, true, true, true, true, true, true, true, true, true, true, true, false, false, false, false, false, false, false, false, false] rfl rfl (by kernel_rfl) (fun _ _ _ h => h) (Or.inr ⟨by rfl, rfl⟩) ?_ ?_
    rotate_left
    · simp only [Act.put, List.setIfInBounds_toArray, List.set_cons_zero, List.set_cons_succ]
      rfl
    refine pure_ (i := 14) (N := (some 45)) (v := undef) (a' := ?_) #[true, true, true, true, true, true, true, true, true, true, true, true, true, true, true, false, false, false, false, false, false, false, false] rfl rfl (by kernel_rfl) (fun _ _ _ h => h) (Or.inr ⟨by rfl, rfl⟩) ?_ ?_
    rotate_left
    · simp only [Act.put, List.setIfInBounds_toArray, List.set_cons_zero, List.set_cons_succ]
      rfl
    refine pure_ (i := 15) (N := (some 46)) (v := undef) (a' := ?_) #[true, true, true, true, true, true, true, true, true, true, true, true, true, true, true, true, false, false, false, false, false, false, false] rfl rfl (by kernel_rfl) (fun _ _ _ h => h) (Or.inr ⟨by rfl, rfl⟩) ?_ ?_
    rotate_left
    · simp only [Act.put, List.setIfInBounds_toArray, List.set_cons_zero, List.set_cons_succ]
      rfl
    refine pure_ (i := 16) (N := (some 47)) (v := undef) (a' := ?_) #[true, true, true, true, true, true, true, true, true, true, true, true, true, true, true, true, true, false, false, false, false, false, false] rfl rfl (by kernel_rfl) (fun _ _ _ h => h) (Or.inr ⟨by rfl, rfl⟩) ?_ ?_
    rotate_left
    · simp only [Act.put, List.setIfInBounds_toArray, List.set_cons_zero, List.set_cons_succ]
      rfl
    refine pure_ (i := 17) (N := (some 48)) (v := undef) (a' := ?_) #[true, true, true, true, true, true, true, true, true, true, true, true, true, true, true, true, true, true, false, false, false, false, false] rfl rfl (by kernel_rfl) (fun _ _ _ h => h) (Or.inr ⟨by rfl, rfl⟩) ?_ ?_
    rotate_left
    · simp only [Act.put, List.setIfInBounds_toArray, List.set_cons_zero, List.set_cons_succ]
      rfl
    refine pure_ (i := 18) (N := (some 49)) (v := undef) (a' := ?_) #[true, true, true, true, true, true, true, true, true, true, true, true, true, true, true, true, true, true, true, false, false, false, false] rfl rfl (by kernel_rfl) (fun _ _ _ h => h) (Or.inr ⟨by rfl, rfl⟩) ?_ ?_
    rotate_left
    · simp only [Act.put, List.setIfInBounds_toArray, List.set_cons_zero, List.set_cons_succ]
      rfl
    refine pure_ (i := 19) (N := (some 50)) (v := undef) (a' := ?_) #[true, true, true, true, true, true, true, true, true, true, true, true, true, true, true, true, true, true, true, true, false, false, false] rfl rfl (by kernel_rfl) (fun _ _ _ h => h) (Or.inr ⟨by rfl, rfl⟩) ?_ ?_
    rotate_left
    · simp only [Act.put, List.setIfInBounds_toArray, List.set_cons_zero, List.set_cons_succ]
      rfl
    refine pure_ (i := 20) (N := (some 51)) (v := undef) (a' := ?_) #[true, true, true, true, true, true, true, true, true, true, true, true, true, true, true, true, true, true, true, true, true, false, false] rfl rfl (by kernel_rfl) (fun _ _ _ h => h) (Or.inr ⟨by rfl, rfl⟩) ?_ ?_
    rotate_left
    · simp only [Act.put, List.setIfInBounds_toArray, List.set_cons_zero, List.set_cons_succ]
      rfl
    refine take_ (i := 21) (N := (some 52)) (v := ?_) (a' := ?_) #[true, true, true, true, true, true, true, true, true, true, true, true, true, true, true, true, true, true, true, true, true, true, false] rfl rfl (by kernel_rfl) (fun _ _ _ h => h) (Or.inl ⟨by rfl, ?_⟩) hHeld ?_ ?_
    rotate_left
    · intro w' hS'; (try dsimp only at hS'); go_split_ands; go_simp
      all_goals with_reducible rfl
    rotate_left
    · simp only [Act.put, List.setIfInBounds_toArray, List.set_cons_zero, List.set_cons_succ]
      rfl
    refine take_ (i := 22) (N := (some 8)) (v := ?_) (a' := ?_) #[true, true, true, true, true, true, true, true, true, true, true, true, true, true, true, true, true, true, true, true, true, true, true] rfl rfl (by kernel_rfl) (fun _ _ _ h => h) (Or.inl ⟨by rfl, ?_⟩) hHeld ?_ ?_
    rotate_left
    · intro w' hS'; (try dsimp only at hS'); go_split_ands; go_simp
      all_goals with_reducible rfl
    rotate_left
    · simp only [Act.put, List.setIfInBounds_toArray, List.set_cons_zero, List.set_cons_succ]
      rfl
    refine done_ (by kernel_rfl) ?_
    clear e1 e2
    go_wp2
    go_ret
    refine ⟨?_, hHeld.1⟩
    have G1 := Lib.hid g1; clear g1
    have z : crossB ax ay bx b_y cx cy dx dy = (decide (turnZ ax ay bx b_y cx cy * turnZ ax ay bx b_y dx dy < 0) && decide (turnZ cx cy dx dy ax ay * turnZ cx cy dx dy bx b_y < 0)) := by
      have n1 : onB cx cy ax ay bx b_y = false := by first | assumption | (simpa using ‹¬ onB cx cy ax ay bx b_y = true›)
      have n2 : onB dx dy ax ay bx b_y = false := by first | assumption | (simpa using ‹¬ onB dx dy ax ay bx b_y = true›)
      have n3 : onB ax ay cx cy dx dy = false := by first | assumption | (simpa using ‹¬ onB ax ay cx cy dx dy = true›)
      have n4 : onB bx b_y cx cy dx dy = false := by first | assumption | (simpa using ‹¬ onB bx b_y cx cy dx dy = true›)
      unfold crossB
      rw [n1, n2, n3, n4]; rfl
    rw [z, G1.out]; rfl

end Go.Proofs.Ytmednnpmkhgfpaa.GW
end
