/- The law package's own look at package wide answers true. Condition: enough rounds. -/
import Derived.Test.YtkpmmbcbegpdpaaWidesF
namespace Go.Proofs.Ytkpmmbcbegpdpaa.PWides
open Go Go.RowKit Go.Proofs.Ytkpmmbcbegpdpaa.Wd Go.Proofs.YtkpmmbcbegpdpaaW.PrintWords Go.Proofs.YtkpmmbcbegpdpaaW.PrintLast

theorem awake_f (k : Nat) (hk : 3 ≤ k) : furlonglaw2_awake.f k = some true := by
  unfold furlonglaw2_awake.f furlonglaw0_Num.f
  rw [mul_f _ _ (by decide) (by decide) (by decide) (by decide)]
  simp only [Option.bind_some]
  rw [show hi (9223372036854775808 * 6) = 3 by decide, show lo (9223372036854775808 * 6) = 0 by decide]
  rw [add_f _ _ _ _ (by decide) (by decide) (by decide) (by decide) (by decide) (by decide) (by decide) (by decide), if_pos (by decide)]
  rw [show hi (num 3 0 + num 0 9223372036854775808) = 3 by decide, show lo (num 3 0 + num 0 9223372036854775808) = 9223372036854775808 by decide]
  rw [add_f _ _ _ _ (by decide) (by decide) (by decide) (by decide) (by decide) (by decide) (by decide) (by decide), if_neg (by decide)]
  simp only [Option.bind_some]
  rw [cmp_f _ _ _ _ _ hk (by decide) (by decide) (by decide) (by decide), cmp_f _ _ _ _ _ hk (by decide) (by decide) (by decide) (by decide), cmp_f _ _ _ _ _ hk (by decide) (by decide) (by decide) (by decide)]
  rw [show sgn (num 3 0) (num 3 9223372036854775808) = -1 by decide, show sgn (num 3 9223372036854775808) (num 3 0) = 1 by decide, show sgn (num 3 0) (num 3 0) = 0 by decide]
  rfl

/-- two products, added: their words' sum -/
theorem add_words (x y : Int) (x0 : 0 ≤ x) (x1 : x < 340282366920938463463374607431768211456) (y0 : 0 ≤ y) (y1 : y < 340282366920938463463374607431768211456) :
    wide_Add.f (hi x) (lo x) (hi y) (lo y) = if x + y < 340282366920938463463374607431768211456 then some (hi (x + y), lo (x + y), true) else some (0, 0, false) := by
  rw [add_f _ _ _ _ (hi_bd x0 x1).1 (hi_bd x0 x1).2 (lo_bd x).1 (lo_bd x).2 (hi_bd y0 y1).1 (hi_bd y0 y1).2 (lo_bd y).1 (lo_bd y).2, num_hi_lo, num_hi_lo]
theorem cmp_words (k : Nat) (x y : Int) (hk : 3 ≤ k) : wide_Cmp.f k (hi x) (lo x) (hi y) (lo y) = some (sgn x y) := by
  rw [cmp_f _ _ _ _ _ hk (lo_bd x).1 (lo_bd x).2 (lo_bd y).1 (lo_bd y).2, num_hi_lo, num_hi_lo]
theorem hi_small {n : Int} (h0 : 0 ≤ n) (h1 : n < 18446744073709551616) : hi n = 0 := by unfold hi; omega
theorem lo_small {n : Int} (h0 : 0 ≤ n) (h1 : n < 18446744073709551616) : lo n = n := by unfold lo; omega
end Go.Proofs.Ytkpmmbcbegpdpaa.PWides
