/- What the program's functions of package geom on products and turns answer, at points that may be. Worlds: nothing that was there has changed. -/
import Derived.Test.YtmednnpmkhgfpaaGeoW
import Derived.IntWalk
namespace Go.Proofs.Ytmednnpmkhgfpaa.GW
open Go Go.RowKit Go.Proofs.Ytmednnpmkhgfpaa.Wd Go.Proofs.Ytmednnpmkhgfpaa.Geo
attribute [local go_sem] max2_int min2_int max_two min_two max_three

/-- the size of a product -/
def absZ (a b : Int) : Int := max a (-a) * max b (-b)
theorem ret_b2 {r r' : Bool} {p q p' q' : Int} (hr : r = r') (hp : p = p') (hq : q = q') : Ending.returned (.agg #[.bool r, .int .u64 p, .int .u64 q]) = Ending.returned (.agg #[.bool r', .int .u64 p', .int .u64 q']) := by rw [hp, hq, hr]
theorem ret_int {k : IntKind} {a b : Int} (h : a = b) : Ending.returned (.int k a) = .returned (.int k b) := by rw [h]
theorem neg_mul_iff (a b : Int) : a * b < 0 ↔ (a < 0 ∧ 0 < b) ∨ (0 < a ∧ b < 0) := by
  constructor
  · intro h
    rcases Int.lt_trichotomy a 0 with ha | ha | ha <;> rcases Int.lt_trichotomy b 0 with hb | hb | hb
    · have := Int.mul_pos_of_neg_of_neg ha hb; omega
    · rw [hb] at h; simp at h
    · exact Or.inl ⟨ha, hb⟩
    · rw [ha] at h; simp at h
    · rw [ha] at h; simp at h
    · rw [ha] at h; simp at h
    · exact Or.inr ⟨ha, hb⟩
    · rw [hb] at h; simp at h
    · have := Int.mul_pos ha hb; omega
  · rintro (⟨ha, hb⟩ | ⟨ha, hb⟩)
    · exact Int.mul_neg_of_neg_of_pos ha hb
    · exact Int.mul_neg_of_pos_of_neg ha hb
set_option maxHeartbeats 1000000 in
theorem times_any (a b : Int) (w : World) (a0 : -4294967295 ≤ a) (a1 : a ≤ 4294967295) (b0 : -4294967295 ≤ b) (b1 : b ≤ 4294967295) :
    Calls Try.prog 68 #[.int .i64 a, .int .i64 b] w fun e w' => e = .returned (.agg #[.bool (decide (a * b < 0)), .int .u64 (hi (absZ a b)), .int .u64 (lo (absZ a b))]) ∧ Below w.heap.size w w' := by
  go_enter Try.func68, Try.ntmps68
  go_wp2_with (go_at_call 71; refine (mul_any _ _ _ (by omega) (by omega) (by omega) (by omega)).mono ?_; rintro e w1 ⟨rfl, hb⟩; obtain ⟨hc0, hc1, hf0, hf1, hn0, hn1, hm0, hm1, hl0, hl1, hz⟩ := bc2 (H := w.heap.size) hb (by simp))
  all_goals
    refine bodyPost_ret (v := .agg #[.bool _, .int .u64 _, .int .u64 _]) (by simp [results, Try.results68, go_sem, hc0]; exact ⟨rfl, rfl, rfl⟩) rfl ⟨ret_b2 ?_ ?_ ?_, ?_⟩
    · clear hc0 hc1 hf0 hf1 hz hb
      rw [Bool.eq_iff_iff, decide_eq_true_eq, neg_mul_iff]
      by_cases h1 : a < 0 <;> by_cases h2 : b < 0 <;> simp_all <;> omega
    · first | rfl | (simp_all [absZ]; done)
    · first | rfl | (simp_all [absZ]; done)
    · repeat (refine Below.setCell ?_ (by simp) _)
      exact below_then (below_new (below_new (Below.refl _ _) _) _) hb
set_option maxHeartbeats 400000 in
theorem between_any (a b c d : Int) (w : World) : Calls Try.prog 42 #[.agg #[.int .i64 a, .int .i64 b], .agg #[.int .i64 c, .int .i64 d]] w fun e w' => e = .returned (.agg #[.int .i64 (min a c), .int .i64 (min b d), .int .i64 (max a c), .int .i64 (max b d)]) ∧ Below w.heap.size w w' := by
  go_enter Try.func42, Try.ntmps42
  go_wp2
  refine bodyPost_ret (v := .agg #[_, _, _, _]) (by simp [results, Try.results42, go_sem]) rfl ⟨rfl, (((Below.refl _ _).alloc (Nat.le_refl _) _).alloc (by simp) _).alloc (by simp; omega) _⟩
set_option maxHeartbeats 400000 in
theorem within_any (px py a b c d : Int) (w : World) : Calls Try.prog 36 #[.agg #[.int .i64 px, .int .i64 py], .agg #[.int .i64 a, .int .i64 b, .int .i64 c, .int .i64 d]] w fun e w' => e = .returned (.bool (withinB px py a b c d)) ∧ Below w.heap.size w w' := by
  go_enter Try.func36, Try.ntmps36
  go_wp2_with (first | (go_at_call 29; refine (pointMay_any _ _ _).mono ?_; rintro e w1 ⟨rfl, hb⟩; obtain ⟨hc0, hc1, hf0, hf1, hn0, hn1, hm0, hm1, hl0, hl1, hz⟩ := bc2 (H := w.heap.size) hb (by simp)) | (go_at_call 34; refine (boxMay_any _ _ _ _ _).mono ?_; rintro e w2 ⟨rfl, hb2⟩; obtain ⟨hd0, hd1, hg0, hg1, hn0, hn1, hm0, hm1, hl0, hl1, hz2⟩ := bc2 (H := w.heap.size) hb2 hz))
  all_goals
    go_ret
    refine ⟨?_, ?_⟩
    · simp_all [withinB]
      try omega
    · first
        | exact below_then (below_then (below_new (below_new (Below.refl _ _) _) _) hb) hb2
        | exact below_then (below_new (below_new (Below.refl _ _) _) _) hb

theorem keeps {W w1 : World} {a : Addr} {v : Value} (hb : Below W.heap.size W w1) (h : W.cell? a = some v) : w1.cell? a = some v := by
  rw [hb.cell (p := a) ?_]; exact h
  rcases Nat.lt_or_ge a.block W.heap.size with h' | h'
  · exact h'
  · unfold World.cell? at h; rw [Array.getElem?_eq_none h'] at h; cases h
/-- which one of two products, each with its sign and its size's words, is more -/
def cmpP (m : Bool) (a b : Int) (n : Bool) (c d : Int) : Int :=
  match m, n with
  | true, true => orZ (sgn c a) (sgn d b)
  | true, false => -1
  | false, true => 1
  | false, false => orZ (sgn a c) (sgn b d)
set_option maxHeartbeats 1000000 in
theorem prodCmp_any (m n : Bool) (a b c d : Int) (w : World) : Calls Try.prog 69 #[.agg #[.bool m, .int .u64 a, .int .u64 b], .agg #[.bool n, .int .u64 c, .int .u64 d]] w fun e w' => e = .returned (.int .i64 (cmpP m a b n c d)) ∧ Below w.heap.size w w' := by
  cases m <;> cases n
  all_goals
    go_enter Try.func69, Try.ntmps69
    go_wp2_with (go_at_call 72; refine (cmp_any _ _ _ _ _).mono ?_; rintro e w1 ⟨rfl, hb⟩)
    go_ret
    refine ⟨rfl, ?_⟩
    first
      | exact below_then (below_new (below_new (Below.refl _ _) _) _) hb
      | exact below_new (below_new (Below.refl _ _) _) _

theorem mul_sg (m n : Int) : -9223372036854775808 ≤ sg m * sg n ∧ sg m * sg n ≤ 9223372036854775807 := by
  rcases sg_range m with h | h | h <;> rcases sg_range n with k | k | k <;> rw [h, k] <;> decide
theorem cmp_lex (x y : Int) : orZ (sgn (hi x) (hi y)) (sgn (lo x) (lo y)) = sg (x - y) := by
  unfold orZ sgn sg hi lo
  repeat' split
  all_goals omega
theorem absZ_eq (a b : Int) : absZ a b = if a * b < 0 then -(a * b) else a * b := by
  unfold absZ
  by_cases ha : 0 ≤ a <;> by_cases hb : 0 ≤ b
  · rw [Int.max_eq_left (by omega), Int.max_eq_left (by omega), if_neg (by have := Int.mul_nonneg ha hb; omega)]
  · rw [Int.max_eq_left (by omega), Int.max_eq_right (by omega), Int.mul_neg]
    split
    · rfl
    · have := Int.mul_nonpos_of_nonneg_of_nonpos ha (show b ≤ 0 by omega); omega
  · rw [Int.max_eq_right (by omega), Int.max_eq_left (by omega), Int.neg_mul]
    split
    · rfl
    · have := Int.mul_nonpos_of_nonpos_of_nonneg (show a ≤ 0 by omega) hb; omega
  · rw [Int.max_eq_right (by omega), Int.max_eq_right (by omega), Int.neg_mul_neg, if_neg (by have := Int.mul_pos_of_neg_of_neg (show a < 0 by omega) (show b < 0 by omega); omega)]
theorem cmp_prods (a b c d : Int) : cmpP (decide (a * b < 0)) (hi (absZ a b)) (lo (absZ a b)) (decide (c * d < 0)) (hi (absZ c d)) (lo (absZ c d)) = sg (a * b - c * d) := by
  rw [absZ_eq, absZ_eq]
  by_cases h1 : a * b < 0 <;> by_cases h2 : c * d < 0
  · rw [decide_eq_true h1, decide_eq_true h2, if_pos h1, if_pos h2]; show orZ _ _ = _; rw [cmp_lex]; congr 1; omega
  · rw [decide_eq_true h1, decide_eq_false h2, if_pos h1, if_neg h2]; show -1 = _; unfold sg; rw [if_pos (by omega)]
  · rw [decide_eq_false h1, decide_eq_true h2, if_neg h1, if_pos h2]; show 1 = _; unfold sg; rw [if_neg (by omega), if_pos (by omega)]
  · rw [decide_eq_false h1, decide_eq_false h2, if_neg h1, if_neg h2]; show orZ _ _ = _; rw [cmp_lex]

set_option maxHeartbeats 1000000 in
theorem turn_any (ax ay bx b_y cx cy : Int) (w : World) (ha : ptB ax ay = true) (hb : ptB bx b_y = true) (hc : ptB cx cy = true) :
    Calls Try.prog 64 #[.agg #[.int .i64 ax, .int .i64 ay], .agg #[.int .i64 bx, .int .i64 b_y], .agg #[.int .i64 cx, .int .i64 cy]] w fun e w' => e = .returned (.int .i64 (turnZ ax ay bx b_y cx cy)) ∧ Below w.heap.size w w' := by
  have h1 := cmp_prods (bx - ax) (cy - ay) (b_y - ay) (cx - ax)
  obtain ⟨⟨a0, a1⟩, a2, a3⟩ := ptB_iff.1 ha
  obtain ⟨⟨b0, b1⟩, b2, b3⟩ := ptB_iff.1 hb
  obtain ⟨⟨c0, c1⟩, c2, c3⟩ := ptB_iff.1 hc
  have H1 := Lib.hid h1
  clear ha hb hc h1
  have u1 : -4294967295 ≤ bx - ax := by omega
  have u2 : bx - ax ≤ 4294967295 := by omega
  have u3 : -4294967295 ≤ cy - ay := by omega
  have u4 : cy - ay ≤ 4294967295 := by omega
  have u5 : -4294967295 ≤ b_y - ay := by omega
  have u6 : b_y - ay ≤ 4294967295 := by omega
  have u7 : -4294967295 ≤ cx - ax := by omega
  have u8 : cx - ax ≤ 4294967295 := by omega
  clear a0 a1 a2 a3 b0 b1 b2 b3 c0 c1 c2 c3
  have e1 := IntWalk.i64_in (bx - ax) (by omega)
  have e2 := IntWalk.i64_in (cy - ay) (by omega)
  have e3 := IntWalk.i64_in (b_y - ay) (by omega)
  have e4 := IntWalk.i64_in (cx - ax) (by omega)
  go_enter Try.func64, Try.ntmps64
  go_wp2_with fail
  have hB0 : Below w.heap.size w (((w.alloc (.cells #[.int .i64 ax, .int .i64 ay] 23)).alloc (.cells #[.int .i64 bx, .int .i64 b_y] 23)).alloc (.cells #[.int .i64 cx, .int .i64 cy] 23)).drew := Below.drew (below_new (below_new (below_new (Below.refl _ _) _) _) _)
  go_region_held3 (fun w' => Below w.heap.size w w' ∧ w'.cell? ⟨w.heap.size, 0, none⟩ = some (.int .i64 ax) ∧ w'.cell? ⟨w.heap.size, 1, none⟩ = some (.int .i64 ay) ∧ w'.cell? ⟨w.heap.size + 1, 0, none⟩ = some (.int .i64 bx) ∧ w'.cell? ⟨w.heap.size + 1, 1, none⟩ = some (.int .i64 b_y) ∧ w'.cell? ⟨w.heap.size + 1 + 1, 0, none⟩ = some (.int .i64 cx) ∧ w'.cell? ⟨w.heap.size + 1 + 1, 1, none⟩ = some (.int .i64 cy))
    (first | (go_split_ands; refine ⟨below_then (by assumption) hb, keeps hb (by assumption), keeps hb (by assumption), keeps hb (by assumption), keeps hb (by assumption), keeps hb (by assumption), keeps hb (by assumption)⟩) | (refine ⟨hB0, ?_, ?_, ?_, ?_, ?_, ?_⟩ <;> go_simp))
    (first | (go_at_call 68; refine (times_any _ _ _ (by assumption) (by assumption) (by assumption) (by assumption)).mono ?_; rintro e w1 ⟨rfl, hb⟩) | (go_at_call 69; refine (prodCmp_any _ _ _ _ _ _ _).mono ?_; rintro e w1 ⟨rfl, hb⟩))
  all_goals
    clear e1 e2 e3 e4
    go_wp2
    go_ret
    exact ⟨by rw [show turnZ ax ay bx b_y cx cy = sg ((bx - ax) * (cy - ay) - (b_y - ay) * (cx - ax)) from rfl, ← H1.out]; rfl, And.left (by assumption : Below w.heap.size w _ ∧ _)⟩
end Go.Proofs.Ytmednnpmkhgfpaa.GW
