/- Numbers stand in one row; a sum is not less than its parts: the plain law beneath WideRow, and what the call answers. No condition but that each number is of its kind. -/
import Derived.Test.YtkpmmbcbegpdpaaWideRowA
import Derived.Test.YtkpmmbcbegpdpaaPWideRowx3
namespace Go.Proofs.Ytkpmmbcbegpdpaa.PWideRow
open Go Go.RowKit Go.Proofs.Ytkpmmbcbegpdpaa.Wd Go.Proofs.YtkpmmbcbegpdpaaW.PrintWords Go.Proofs.YtkpmmbcbegpdpaaW.PrintLast

theorem sgn_turn (x y : Int) : wrap64 (-(sgn y x)) = sgn x y := by
  unfold sgn wrap64
  repeat' split
  all_goals omega
theorem sgn_zero (x y : Int) : sgn x y = 0 ↔ x = y := by
  unfold sgn
  repeat' split
  all_goals omega
theorem sgn_le (x y : Int) : sgn x y ≤ 0 ↔ x ≤ y := by
  unfold sgn
  repeat' split
  all_goals omega
theorem sgn_ge (x y : Int) : sgn x y ≥ 0 ↔ y ≤ x := by
  unfold sgn
  repeat' split
  all_goals omega

theorem j1_row (k : Nat) (a0 a1 b0 b1 : Int) (hk : 3 ≤ k) (p0 : 0 ≤ a0) (q0 : a0 < 18446744073709551616) (p1 : 0 ≤ a1) (q1 : a1 < 18446744073709551616) (p2 : 0 ≤ b0) (q2 : b0 < 18446744073709551616) (p3 : 0 ≤ b1) (q3 : b1 < 18446744073709551616) :
    furlonglaw2_WideRow.j0 (k + 2) false a0 a1 b0 b1 = some true := by
  simp only [furlonglaw2_WideRow.j0]
  rw [if_neg (by decide), add_f _ _ _ _ p0 q0 p1 q1 p2 q2 p3 q3, add_f _ _ _ _ p2 q2 p3 q3 p0 q0 p1 q1, Int.add_comm (num b0 b1)]
  have hn : 0 ≤ num a0 a1 := by unfold num; omega
  have hm : 0 ≤ num b0 b1 := by unfold num; omega
  by_cases h : num a0 a1 + num b0 b1 < 340282366920938463463374607431768211456
  · rw [if_pos h, Option.bind_some, Option.bind_some, if_neg (by simp)]
    have e : (!(hi (num a0 a1 + num b0 b1) == hi (num a0 a1 + num b0 b1)) || !(lo (num a0 a1 + num b0 b1) == lo (num a0 a1 + num b0 b1))) = false := by simp
    rw [e]
    simp only [furlonglaw2_WideRow.j1]
    rw [if_neg (by decide), if_pos trivial, cmp_f _ _ _ _ _ hk (lo_bd _).1 (lo_bd _).2 p1 q1, Option.bind_some, num_hi_lo, if_pos ((sgn_ge _ _).2 (by omega)), cmp_f _ _ _ _ _ hk (lo_bd _).1 (lo_bd _).2 p3 q3, Option.bind_some, num_hi_lo]
    rw [decide_eq_true ((sgn_ge _ _).2 (by omega))]
  · rw [if_neg h, Option.bind_some, Option.bind_some, if_neg (by simp)]
    have e : (!((0 : Int) == 0) || !((0 : Int) == 0)) = false := by simp
    rw [e]
    simp only [furlonglaw2_WideRow.j1]
    rw [if_neg (by decide), if_neg (by decide), if_pos (by decide)]

theorem row_f (a0 a1 b0 b1 c0 c1 : Int) (p0 : 0 ≤ a0) (q0 : a0 < 18446744073709551616) (p1 : 0 ≤ a1) (q1 : a1 < 18446744073709551616) (p2 : 0 ≤ b0) (q2 : b0 < 18446744073709551616) (p3 : 0 ≤ b1) (q3 : b1 < 18446744073709551616) (p5 : 0 ≤ c1) (q5 : c1 < 18446744073709551616) :
    furlonglaw2_WideRow.f 10 a0 a1 b0 b1 c0 c1 = some true := by
  unfold furlonglaw2_WideRow.f
  have hj := j1_row 8 a0 a1 b0 b1 (by omega) p0 q0 p1 q1 p2 q2 p3 q3
  rw [awake_f 10 (by omega), Option.bind_some, if_pos rfl]
  rw [cmp_f _ _ _ _ _ (by omega) p1 q1 p3 q3, cmp_f _ _ _ _ _ (by omega) p3 q3 p1 q1, cmp_f _ _ _ _ _ (by omega) p3 q3 p5 q5, cmp_f _ _ _ _ _ (by omega) p1 q1 p5 q5, Option.bind_some, Option.bind_some, sgn_turn, if_pos rfl]
  have e : ((sgn (num a0 a1) (num b0 b1) == 0) != (a0 == b0 && (a1 == b1))) = false := by
    have h1 : (sgn (num a0 a1) (num b0 b1) == 0) = (a0 == b0 && (a1 == b1)) := by
      rw [Bool.eq_iff_iff]
      simp only [beq_iff_eq, Bool.and_eq_true, sgn_zero]
      exact num_inj p1 q1 p3 q3
    rw [h1]; simp
  rw [e, if_neg (by decide), Option.bind_some]
  by_cases h1 : sgn (num a0 a1) (num b0 b1) ≤ 0
  · rw [if_pos h1, Option.bind_some]
    by_cases h2 : sgn (num b0 b1) (num c0 c1) ≤ 0
    · rw [if_pos h2, Option.bind_some]
      have h3 : decide (sgn (num a0 a1) (num c0 c1) > 0) = false := by
        rw [sgn_le] at h1 h2
        have := (sgn_le (num a0 a1) (num c0 c1)).2 (by omega)
        exact decide_eq_false (by omega)
      rw [h3]
      exact hj
    · rw [if_neg h2]; exact hj
  · rw [if_neg h1]; exact hj

theorem row_calls (a0 a1 b0 b1 c0 c1 : Int) (w : World) (wa0 : (Lit.int .u64 a0).wf = true) (wa1 : (Lit.int .u64 a1).wf = true) (wb0 : (Lit.int .u64 b0).wf = true) (wb1 : (Lit.int .u64 b1).wf = true) (_wc0 : (Lit.int .u64 c0).wf = true) (wc1 : (Lit.int .u64 c1).wf = true) :
    Calls Try.prog 7 #[.agg #[.int .u64 a0, .int .u64 a1], .agg #[.int .u64 b0, .int .u64 b1], .agg #[.int .u64 c0, .int .u64 c1]] w fun e w' => e = .returned (.bool true) ∧ Below w.heap.size w w' :=
  furlonglaw2_WideRow.calls 10 a0 a1 b0 b1 c0 c1 true w (row_f a0 a1 b0 b1 c0 c1 (wf64 wa0).1 (wf64 wa0).2 (wf64 wa1).1 (wf64 wa1).2 (wf64 wb0).1 (wf64 wb0).2 (wf64 wb1).1 (wf64 wb1).2 (wf64 wc1).1 (wf64 wc1).2)
end Go.Proofs.Ytkpmmbcbegpdpaa.PWideRow
