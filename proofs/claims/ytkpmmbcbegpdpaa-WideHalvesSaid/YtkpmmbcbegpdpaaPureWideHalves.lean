/- A product is made of its halves' products: the plain law beneath WideHalves. No condition but that each number is of its kind. -/
import Derived.Test.YtkpmmbcbegpdpaaWideHalvesA
import Derived.Test.YtkpmmbcbegpdpaaPWideHalvesx3
namespace Go.Proofs.Ytkpmmbcbegpdpaa.Pure
open Go Go.RowKit Go.Proofs.Ytkpmmbcbegpdpaa.Wd Go.Proofs.Ytkpmmbcbegpdpaa.PWideHalves Go.Proofs.YtkpmmbcbegpdpaaW.PrintWords Go.Proofs.YtkpmmbcbegpdpaaW.PrintLast

theorem half_mul (a b : Int) (a0 : 0 ≤ a) (a1 : a < 18446744073709551616) (b0 : 0 ≤ b) (b1 : b < 4294967296) : 0 ≤ a * b ∧ a * b ≤ 79228162495817593515539431425 := by
  refine ⟨Int.mul_nonneg a0 b0, ?_⟩
  have := Int.mul_le_mul (show a ≤ 18446744073709551615 by omega) (show b ≤ 4294967295 by omega) b0 (by omega)
  omega
theorem halves (a b : Int) : a * (b % 4294967296) + a * (b / 4294967296) * 4294967296 = a * b := by
  have e2 := Int.mul_ediv_add_emod b 4294967296
  have e3 : a * b = a * (4294967296 * (b / 4294967296) + b % 4294967296) := by rw [e2]
  rw [e3, Int.mul_add, Int.add_comm, Int.mul_assoc, Int.mul_comm (b / 4294967296)]
theorem upHi (y : Int) (h0 : 0 ≤ y) (h1 : y ≤ 79228162495817593515539431425) :
    Go.bits .or .u64 (hi y * 4294967296 % 18446744073709551616) (lo y / 4294967296) = hi (y * 4294967296) := by
  have h2 : hi y * 4294967296 % 18446744073709551616 = hi y * 4294967296 := by unfold hi; omega
  rw [h2, orJoin _ _ (by unfold hi; omega) (by unfold hi; omega) (by unfold hi; omega) (by unfold lo; omega) (by unfold lo; omega)]
  unfold hi lo; omega
theorem upLo (y : Int) : lo y * 4294967296 % 18446744073709551616 = lo (y * 4294967296) := by unfold lo; omega
theorem upTop (y : Int) (h0 : 0 ≤ y) (h1 : y ≤ 79228162495817593515539431425) : hi y / 4294967296 = 0 := by unfold hi; omega

theorem WideHalves : furlonglaw2_WideHalves.Pure := by
  intro a b wa wb
  obtain ⟨a0, a1⟩ := wf64 wa
  obtain ⟨b0, b1⟩ := wf64 wb
  refine ⟨10, ?_⟩
  unfold furlonglaw2_WideHalves.f
  rw [awake_f 10 (by omega), Option.bind_some, if_pos rfl]
  rw [andLow b b0 b1, mul_f a _ a0 a1 (by omega) (by omega), mul_f a (b / 4294967296) a0 a1 (by omega) (by omega), mul_f a b a0 a1 b0 b1]
  rw [Option.bind_some, Option.bind_some]
  have hp := mul_bd a0 a1 b0 b1
  have q1 := half_mul a (b % 4294967296) a0 a1 (by omega) (by omega)
  have q2 := half_mul a (b / 4294967296) a0 a1 (by omega) (by omega)
  rw [w64, w64, upHi _ q2.1 q2.2, upLo, add_words _ _ q1.1 (by omega) (by omega) (by omega), halves, if_pos (by omega)]
  rw [Option.bind_some, if_pos rfl, Option.bind_some]
  rw [if_pos (by simp), if_pos (upTop _ q2.1 q2.2)]
  rfl
end Go.Proofs.Ytkpmmbcbegpdpaa.Pure
