/- What the reference's functions on 128 bits, points and boxes answer. Worlds: nothing that was there has changed. -/
import Derived.Test.YtmednnpmkhgfpaaGeoW2
namespace Go.Proofs.Ytmednnpmkhgfpaa.GW
open Go Go.RowKit Go.Proofs.Ytmednnpmkhgfpaa.Wd Go.Proofs.Ytmednnpmkhgfpaa.Geo
attribute [local go_sem] max2_int min2_int max_two min_two max_three

theorem refMulEq (a b : Int) (a0 : 0 ≤ a) (a1 : a < 18446744073709551616) (b0 : 0 ≤ b) (b1 : b < 18446744073709551616) :
    IntKind.u64.wrap ((IntKind.u64.wrap ((IntKind.u64.wrap ((IntKind.u64.wrap ((a / 4294967296) * (b / 4294967296))) + ((IntKind.u64.wrap ((a / 4294967296) * (Go.bits .and .u64 b 4294967295))) / 4294967296))) + ((IntKind.u64.wrap ((Go.bits .and .u64 a 4294967295) * (b / 4294967296))) / 4294967296))) + ((IntKind.u64.wrap ((IntKind.u64.wrap (((IntKind.u64.wrap ((Go.bits .and .u64 a 4294967295) * (Go.bits .and .u64 b 4294967295))) / 4294967296) + (Go.bits .and .u64 (IntKind.u64.wrap ((a / 4294967296) * (Go.bits .and .u64 b 4294967295))) 4294967295))) + (Go.bits .and .u64 (IntKind.u64.wrap ((Go.bits .and .u64 a 4294967295) * (b / 4294967296))) 4294967295))) / 4294967296)) = hi (a * b)
    ∧ Go.bits .or .u64 (IntKind.u64.wrap ((IntKind.u64.wrap ((IntKind.u64.wrap (((IntKind.u64.wrap ((Go.bits .and .u64 a 4294967295) * (Go.bits .and .u64 b 4294967295))) / 4294967296) + (Go.bits .and .u64 (IntKind.u64.wrap ((a / 4294967296) * (Go.bits .and .u64 b 4294967295))) 4294967295))) + (Go.bits .and .u64 (IntKind.u64.wrap ((Go.bits .and .u64 a 4294967295) * (b / 4294967296))) 4294967295))) * 4294967296)) (Go.bits .and .u64 (IntKind.u64.wrap ((Go.bits .and .u64 a 4294967295) * (Go.bits .and .u64 b 4294967295))) 4294967295) = lo (a * b) := by
  have hs := split a b
  rw [andLow a a0 a1, andLow b b0 b1]
  unfold hi lo
  have hp := prodBound (a := a % 4294967296) (b := b % 4294967296) (by omega) (by omega) (by omega) (by omega)
  have hq := prodBound (a := a / 4294967296) (b := b % 4294967296) (by omega) (by omega) (by omega) (by omega)
  have hr := prodBound (a := a % 4294967296) (b := b / 4294967296) (by omega) (by omega) (by omega) (by omega)
  have hS := prodBound (a := a / 4294967296) (b := b / 4294967296) (by omega) (by omega) (by omega) (by omega)
  rw [hs]
  generalize a % 4294967296 * (b % 4294967296) = p at *
  generalize a / 4294967296 * (b % 4294967296) = q at *
  generalize a % 4294967296 * (b / 4294967296) = r at *
  generalize a / 4294967296 * (b / 4294967296) = s at *
  clear hs
  rw [w64_in p (by omega) (by omega), w64_in q (by omega) (by omega), w64_in r (by omega) (by omega), w64_in s (by omega) (by omega)]
  rw [andLow p (by omega) (by omega), andLow q (by omega) (by omega), andLow r (by omega) (by omega)]
  rw [w64_in (p / 4294967296 + q % 4294967296) (by omega) (by omega), w64_in (p / 4294967296 + q % 4294967296 + r % 4294967296) (by omega) (by omega)]
  rw [w64_in (s + q / 4294967296) (by omega) (by omega), w64_in (s + q / 4294967296 + r / 4294967296) (by omega) (by omega)]
  constructor
  · have eh : s + q / 4294967296 + r / 4294967296 + (p / 4294967296 + q % 4294967296 + r % 4294967296) / 4294967296 = (s * 18446744073709551616 + (q + r) * 4294967296 + p) / 18446744073709551616 := by omega
    rw [eh]
    exact w64_in _ (by omega) (by omega)
  · rw [w64]
    rw [orJoin _ _ (by omega) (by omega) (by omega) (by omega) (by omega)]
    omega
set_option maxHeartbeats 400000 in
theorem rMul_any (a b : Int) (w : World) (a0 : 0 ≤ a) (a1 : a < 18446744073709551616) (b0 : 0 ≤ b) (b1 : b < 18446744073709551616) :
    Calls Try.prog 70 #[.int .u64 a, .int .u64 b] w fun e w' => e = .returned (.agg #[.int .u64 (hi (a * b)), .int .u64 (lo (a * b))]) ∧ Below w.heap.size w w' := by
  have h := refMulEq a b a0 a1 b0 b1
  rw [← h.1, ← h.2]
  clear h a0 a1 b0 b1
  go_enter Try.func70, Try.ntmps70
  go_wp2
  refine bodyPost_ret (v := .agg #[_, _]) (by simp [results, Try.results70, go_sem]) rfl ⟨rfl, (Below.refl _ _).alloc (Nat.le_refl _) _⟩
set_option maxHeartbeats 1000000 in
theorem rCmp_any (a b c d : Int) (w : World) : Calls Try.prog 67 #[.agg #[.int .u64 a, .int .u64 b], .agg #[.int .u64 c, .int .u64 d]] w fun e w' => e = .returned (.int .i64 (orZ (sgn a c) (sgn b d))) ∧ Below w.heap.size w w' := by
  go_enter Try.func67, Try.ntmps67
  go_wp2
  all_goals
    go_ret
    refine ⟨?_, below_new (below_new (Below.refl _ _) _) _⟩
    unfold orZ sgn
    apply ret_int
    repeat' split
    all_goals first | rfl | omega
set_option maxHeartbeats 400000 in
theorem rPointMay_any (x y : Int) (w : World) : Calls Try.prog 28 #[.agg #[.int .i64 x, .int .i64 y]] w fun e w' => e = .returned (.bool (ptB x y)) ∧ Below w.heap.size w w' := by
  go_enter Try.func28, Try.ntmps28
  go_wp2
  all_goals
    go_ret
    refine ⟨?_, below_new (Below.refl _ _) _⟩
    simp_all [ptB, coordB]
    try omega
set_option maxHeartbeats 400000 in
theorem rBoxMay_any (a b c d : Int) (w : World) : Calls Try.prog 27 #[.agg #[.int .i64 a, .int .i64 b, .int .i64 c, .int .i64 d]] w fun e w' => e = .returned (.bool (boxB a b c d)) ∧ Below w.heap.size w w' := by
  go_enter Try.func27, Try.ntmps27
  go_wp2_with (first | (go_at_call 28; refine (rPointMay_any _ _ _).mono ?_; rintro e w1 ⟨rfl, hb⟩; obtain ⟨hc0, hf0, hn0, hm0, hl0, hz⟩ := bc1 (H := w.heap.size) hb (by first | assumption | (simp; done) | (simp; omega)); have hB := below_then (w := w) (by first | assumption | exact below_new (by assumption) _ | exact below_new (below_new (by assumption) _) _ | exact below_new (below_new (below_new (by assumption) _) _) _ | exact below_new (below_new (below_new (below_new (by assumption) _) _) _) _ | exact below_new (Below.refl _ _) _) hb; clear hb))
  all_goals
    go_ret
    refine ⟨?_, by assumption⟩
    clear hc0 hf0
    simp_all [boxB, ptB]
    try omega
set_option maxHeartbeats 400000 in
theorem rAround_any (a b c d : Int) (w : World) : Calls Try.prog 44 #[.agg #[.int .i64 a, .int .i64 b], .agg #[.int .i64 c, .int .i64 d]] w fun e w' => e = .returned (.agg #[.int .i64 (min a c), .int .i64 (min b d), .int .i64 (max a c), .int .i64 (max b d)]) ∧ Below w.heap.size w w' := by
  go_enter Try.func44, Try.ntmps44
  go_wp2
  refine bodyPost_ret (v := .agg #[_, _, _, _]) (by simp [results, Try.results44, go_sem]) rfl ⟨rfl, below_new (below_new (below_new (Below.refl _ _) _) _) _⟩
set_option maxHeartbeats 400000 in
theorem rWithin_any (px py a b c d : Int) (w : World) : Calls Try.prog 26 #[.agg #[.int .i64 px, .int .i64 py], .agg #[.int .i64 a, .int .i64 b, .int .i64 c, .int .i64 d]] w fun e w' => e = .returned (.bool (withinB px py a b c d)) ∧ Below w.heap.size w w' := by
  go_enter Try.func26, Try.ntmps26
  go_wp2_with (first | (go_at_call 28; refine (rPointMay_any _ _ _).mono ?_; rintro e w1 ⟨rfl, hb⟩; obtain ⟨hc0, hc1, hf0, hf1, hn0, hn1, hm0, hm1, hl0, hl1, hz⟩ := bc2 (H := w.heap.size) hb (by first | assumption | (simp; done) | (simp; omega)); have hB := below_then (w := w) (by first | assumption | exact below_new (by assumption) _ | exact below_new (below_new (by assumption) _) _ | exact below_new (below_new (below_new (by assumption) _) _) _ | exact below_new (below_new (below_new (below_new (by assumption) _) _) _) _ | exact below_new (below_new (Below.refl _ _) _) _) hb; clear hb) | (go_at_call 27; refine (rBoxMay_any _ _ _ _ _).mono ?_; rintro e w1 ⟨rfl, hb⟩; obtain ⟨hc0, hc1, hf0, hf1, hn0, hn1, hm0, hm1, hl0, hl1, hz⟩ := bc2 (H := w.heap.size) hb (by first | assumption | (simp; done) | (simp; omega)); have hB := below_then (w := w) (by first | assumption | exact below_new (by assumption) _ | exact below_new (below_new (by assumption) _) _ | exact below_new (below_new (below_new (by assumption) _) _) _ | exact below_new (below_new (below_new (below_new (by assumption) _) _) _) _ | exact below_new (below_new (Below.refl _ _) _) _) hb; clear hb))
  all_goals
    go_ret
    refine ⟨?_, by assumption⟩
    clear hc0 hc1 hf0 hf1
    simp_all [withinB]
    try omega
set_option maxHeartbeats 1000000 in
theorem rMeet_any (a0 a1 a2 a3 b0 b1 b2 b3 : Int) (w : World) :
    Calls Try.prog 25 #[.agg #[.int .i64 a0, .int .i64 a1, .int .i64 a2, .int .i64 a3], .agg #[.int .i64 b0, .int .i64 b1, .int .i64 b2, .int .i64 b3]] w fun e w' => e = .returned (.bool (meetB a0 a1 a2 a3 b0 b1 b2 b3)) ∧ Below w.heap.size w w' := by
  go_enter Try.func25, Try.ntmps25
  go_wp2_with (first | (go_at_call 27; refine (rBoxMay_any _ _ _ _ _).mono ?_; rintro e w1 ⟨rfl, hb⟩; obtain ⟨hc0, hc1, hf0, hf1, hn0, hn1, hm0, hm1, hl0, hl1, hz⟩ := bc2 (H := w.heap.size) hb (by first | assumption | (simp; done) | (simp; omega)); have hB := below_then (w := w) (by first | assumption | exact below_new (by assumption) _ | exact below_new (below_new (by assumption) _) _ | exact below_new (below_new (below_new (by assumption) _) _) _ | exact below_new (below_new (below_new (below_new (by assumption) _) _) _) _ | exact below_new (below_new (Below.refl _ _) _) _) hb; clear hb))
  all_goals
    go_ret
    refine ⟨?_, by assumption⟩
    clear hc0 hc1 hf0 hf1
    simp_all [meetB]
    try omega
theorem ret_s {s p q s' p' q' : Int} (hs : s = s') (hp : p = p') (hq : q = q') : Ending.returned (.tuple #[.int .i64 s, .agg #[.int .u64 p, .int .u64 q]]) = Ending.returned (.tuple #[.int .i64 s', .agg #[.int .u64 p', .int .u64 q']]) := by rw [hs, hp, hq]
theorem absZ_cases (a b : Int) : (a < 0 → b < 0 → -a * -b = absZ a b) ∧ (a < 0 → 0 ≤ b → -a * b = absZ a b) ∧ (0 ≤ a → b < 0 → a * -b = absZ a b) ∧ (0 ≤ a → 0 ≤ b → a * b = absZ a b) := by
  unfold absZ
  refine ⟨fun h1 h2 => ?_, fun h1 h2 => ?_, fun h1 h2 => ?_, fun h1 h2 => ?_⟩
  · rw [Int.max_eq_right (by omega), Int.max_eq_right (by omega)]
  · rw [Int.max_eq_right (by omega), Int.max_eq_left (by omega)]
  · rw [Int.max_eq_left (by omega), Int.max_eq_right (by omega)]
  · rw [Int.max_eq_left (by omega), Int.max_eq_left (by omega)]
/-- the sign out of the two signs and of whether the words are zero -/
theorem sg_words (a b s : Int) (h : (hi (absZ a b) = 0 ∧ lo (absZ a b) = 0 ∧ s = 0) ∨ (¬(hi (absZ a b) = 0 ∧ lo (absZ a b) = 0) ∧ ((s = -1 ∧ ((a < 0 ∧ 0 ≤ b) ∨ (0 ≤ a ∧ b < 0))) ∨ (s = 1 ∧ ((a < 0 ∧ b < 0) ∨ (0 ≤ a ∧ 0 ≤ b)))))) : s = sg (a * b) := by
  have hn := num_hi_lo (absZ a b)
  have he := absZ_eq a b
  have hg := neg_mul_iff a b
  unfold num at hn
  unfold sg
  rcases h with ⟨h1, h2, rfl⟩ | ⟨h1, h2⟩
  · rw [h1, h2] at hn
    split at he <;> split <;> omega
  · have hne : a * b ≠ 0 := by
      intro h0
      rw [h0] at he
      apply h1
      rw [he]
      decide
    have ha : a ≠ 0 := fun h => hne (by rw [h]; simp)
    have hb : b ≠ 0 := fun h => hne (by rw [h]; simp)
    by_cases h3 : a * b < 0
    · rw [if_pos h3]
      have := hg.1 h3
      omega
    · rw [if_neg h3, if_pos (by omega)]
      have h4 : ¬ ((a < 0 ∧ 0 < b) ∨ (0 < a ∧ b < 0)) := fun h => h3 (hg.2 h)
      omega
set_option maxHeartbeats 1000000 in
theorem rSigned_any (a b : Int) (w : World) (a0 : -4294967295 ≤ a) (a1 : a ≤ 4294967295) (b0 : -4294967295 ≤ b) (b1 : b ≤ 4294967295) :
    Calls Try.prog 66 #[.int .i64 a, .int .i64 b] w fun e w' => e = .returned (.tuple #[.int .i64 (sg (a * b)), .agg #[.int .u64 (hi (absZ a b)), .int .u64 (lo (absZ a b))]]) ∧ Below w.heap.size w w' := by
  go_enter Try.func66, Try.ntmps66
  go_wp2_with (first | (go_at_call 70; refine (rMul_any _ _ _ (by omega) (by omega) (by omega) (by omega)).mono ?_; rintro e w1 ⟨rfl, hb⟩; obtain ⟨hc0, hf0, hn0, hm0, hl0, hz⟩ := bc1 (H := w.heap.size) hb (by first | assumption | (simp; done) | (simp; omega)); have hB := below_then (w := w) (by first | assumption | exact below_new (by assumption) _ | exact below_new (below_new (by assumption) _) _ | exact below_new (below_new (below_new (by assumption) _) _) _ | exact below_new (below_new (below_new (below_new (by assumption) _) _) _) _ | exact below_new (Below.refl _ _) _) hb; clear hb))
  all_goals go_region
  all_goals
    go_wp2
    refine bodyPost_ret (v := .tuple #[.int .i64 _, .agg #[.int .u64 _, .int .u64 _]]) (by simp [*, results, Try.results66, go_sem]; exact ⟨rfl, rfl, rfl⟩) rfl ⟨ret_s ?_ ?_ ?_, ?_⟩
    · clear hc0 hf0 hn0 hm0 hl0 hz hB
      have hab := absZ_cases a b
      refine sg_words a b _ ?_
      simp_all
    · clear hc0 hf0 hn0 hm0 hl0 hz hB
      have hab := absZ_cases a b
      simp_all
    · clear hc0 hf0 hn0 hm0 hl0 hz hB
      have hab := absZ_cases a b
      simp_all
    · refine Below.drew ?_
      repeat (first | refine Below.setCell ?_ (by simp) _ | refine below_new ?_ _)
      assumption
end Go.Proofs.Ytmednnpmkhgfpaa.GW
