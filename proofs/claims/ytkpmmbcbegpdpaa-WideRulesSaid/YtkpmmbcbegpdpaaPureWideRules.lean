/- Products go by their parts, sums and rows are what they must be: the plain law beneath WideRules. No condition but that each number is of its kind. -/
import Derived.Test.YtkpmmbcbegpdpaaWideRulesA
import Derived.Test.YtkpmmbcbegpdpaaPWideRulesx3
namespace Go.Proofs.Ytkpmmbcbegpdpaa.Pure
open Go Go.RowKit Go.Proofs.Ytkpmmbcbegpdpaa.Wd Go.Proofs.Ytkpmmbcbegpdpaa.PWideRules Go.Proofs.YtkpmmbcbegpdpaaW.PrintWords Go.Proofs.YtkpmmbcbegpdpaaW.PrintLast

theorem WideRules : furlonglaw2_WideRules.Pure := by
  intro a b c wa wb wc
  obtain ⟨a0, a1⟩ := wf64 wa
  obtain ⟨b0, b1⟩ := wf64 wb
  obtain ⟨c0, c1⟩ := wf64 wc
  refine ⟨10, ?_⟩
  have hp := mul_bd a0 a1 b0 b1
  have hj1 : ∀ k, 3 ≤ k → furlonglaw2_WideRules.j1 (k + 1) c false (hi (a * b)) (lo (a * b)) = some true := by
    intro k hk
    simp only [furlonglaw2_WideRules.j1]
    rw [if_neg (by decide)]
    have h2 := add_words (a * b) c hp.1 (by omega) c0 (by omega)
    rw [hi_small c0 c1, lo_small c0 c1, if_pos (by omega)] at h2
    rw [h2]
    simp only [Option.bind_some, if_true]
    rw [cmp_words _ _ _ hk]
    simp only [Option.bind_some]
    by_cases hc : c = 0
    · subst hc; simp [sgn]
    · have : sgn (a * b + c) (a * b) = 1 := by unfold sgn; rw [if_neg (by omega), if_pos (by omega)]
      rw [this]; simp [hc]; omega
  have hj0 : ∀ k, 4 ≤ k → furlonglaw2_WideRules.j0 (k + 1) a b c false (hi (a * b)) (lo (a * b)) = some true := by
    intro k hk
    obtain ⟨k, rfl⟩ : ∃ m, k = m + 1 := ⟨k - 1, by omega⟩
    simp only [furlonglaw2_WideRules.j0]
    rw [if_neg (by decide), mul_f a (b / 2) a0 a1 (by omega) (by omega), mul_f a (c / 2) a0 a1 (by omega) (by omega)]
    simp only [Option.bind_some]
    have q1 := mul_bd a0 a1 (b := b / 2) (by omega) (by omega)
    have q2 := mul_bd a0 a1 (b := c / 2) (by omega) (by omega)
    have e : a * (b / 2) + a * (c / 2) = a * (b / 2 + c / 2) := by rw [Int.mul_add]
    have q3 := mul_bd a0 a1 (b := b / 2 + c / 2) (by omega) (by omega)
    rw [add_words _ _ q1.1 (by omega) q2.1 (by omega), if_pos (by omega)]
    simp only [Option.bind_some, if_true]
    rw [w64_in (b / 2 + c / 2) (by omega) (by omega), mul_f a _ a0 a1 (by omega) (by omega)]
    simp only [Option.bind_some]
    rw [e]
    simp only [beq_self_eq_true, Bool.not_true, Bool.or_false]
    exact hj1 k (by omega)
  unfold furlonglaw2_WideRules.f
  rw [awake_f 10 (by omega)]
  simp only [Option.bind_some, if_true]
  rw [mul_f a b a0 a1 b0 b1, mul_f b a b0 b1 a0 a1, mul_f a 1 a0 a1 (by decide) (by decide), mul_f a 0 a0 a1 (by decide) (by decide), Int.mul_comm b a]
  simp only [Option.bind_some, beq_self_eq_true, Bool.not_true, Bool.or_false, Int.mul_one, Int.mul_zero]
  rw [hi_small a0 a1, lo_small a0 a1, hi_small (n := 0) (by decide) (by decide), lo_small (n := 0) (by decide) (by decide), w64]
  have e : ((lo (a * b)) != (a * b % 18446744073709551616)) = false := by unfold lo; simp
  rw [e]
  simp only [beq_self_eq_true, Bool.not_true, Bool.or_false]
  rw [if_neg (by decide), if_neg (by decide), if_neg (by decide)]
  exact hj0 9 (by omega)
end Go.Proofs.Ytkpmmbcbegpdpaa.Pure
