/- What the reference's functions on 128 bits answer, as numbers below 2^128. Conditions: each word is of its kind. -/
import Derived.Test.YtkpmmbcbegpdpaaWidesA
import Derived.Test.YtkpmmbcbegpdpaaPWidesm3
namespace Go.Proofs.Ytkpmmbcbegpdpaa.PWides
open Go Go.RowKit Go.Proofs.Ytkpmmbcbegpdpaa.Wd Go.Proofs.YtkpmmbcbegpdpaaW.PrintWords Go.Proofs.YtkpmmbcbegpdpaaW.PrintLast

theorem refMul_f (a b : Int) (a0 : 0 ≤ a) (a1 : a < 18446744073709551616) (b0 : 0 ≤ b) (b1 : b < 18446744073709551616) :
    furlongref1_Mul.f a b = some (hi (a * b), lo (a * b)) := by
  unfold furlongref1_Mul.f
  have hs := split a b
  rw [andLow a a0 a1, andLow b b0 b1]
  unfold hi lo
  have hp := prodBound (a := a % 4294967296) (b := b % 4294967296) (by omega) (by omega) (by omega) (by omega)
  have hq := prodBound (a := a / 4294967296) (b := b % 4294967296) (by omega) (by omega) (by omega) (by omega)
  have hr := prodBound (a := a % 4294967296) (b := b / 4294967296) (by omega) (by omega) (by omega) (by omega)
  have hS := prodBound (a := a / 4294967296) (b := b / 4294967296) (by omega) (by omega) (by omega) (by omega)
  rw [hs]
  generalize a % 4294967296 * (b % 4294967296) = p at *
  generalize a / 4294967296 * (b % 4294967296) = q at *
  generalize a % 4294967296 * (b / 4294967296) = r at *
  generalize a / 4294967296 * (b / 4294967296) = s at *
  clear hs
  rw [w64_in p (by omega) (by omega), w64_in q (by omega) (by omega), w64_in r (by omega) (by omega), w64_in s (by omega) (by omega)]
  rw [andLow p (by omega) (by omega), andLow q (by omega) (by omega), andLow r (by omega) (by omega)]
  rw [w64_in (p / 4294967296 + q % 4294967296) (by omega) (by omega), w64_in (p / 4294967296 + q % 4294967296 + r % 4294967296) (by omega) (by omega)]
  rw [w64_in (s + q / 4294967296) (by omega) (by omega), w64_in (s + q / 4294967296 + r / 4294967296) (by omega) (by omega)]
  congr 2
  · have eh : s + q / 4294967296 + r / 4294967296 + (p / 4294967296 + q % 4294967296 + r % 4294967296) / 4294967296 = (s * 18446744073709551616 + (q + r) * 4294967296 + p) / 18446744073709551616 := by omega
    rw [eh]
    exact w64_in _ (by omega) (by omega)
  · rw [w64]
    rw [orJoin _ _ (by omega) (by omega) (by omega) (by omega) (by omega)]
    omega

theorem refAdd_f (h l h' l' : Int) (h0 : 0 ≤ h) (h1 : h < 18446744073709551616) (l0 : 0 ≤ l) (l1 : l < 18446744073709551616)
    (h0' : 0 ≤ h') (h1' : h' < 18446744073709551616) (l0' : 0 ≤ l') (l1' : l' < 18446744073709551616) :
    furlongref1_Add.f h l h' l' = if num h l + num h' l' < 340282366920938463463374607431768211456 then some (hi (num h l + num h' l'), lo (num h l + num h' l'), true) else some (0, 0, false) := by
  unfold furlongref1_Add.f num hi lo
  simp only [w64]
  repeat' split
  all_goals first | (exfalso; omega) | (congr 3 <;> omega) | rfl | (congr 1; ext <;> omega)

theorem refCmp_f (h l h' l' : Int) (l0 : 0 ≤ l) (l1 : l < 18446744073709551616) (l0' : 0 ≤ l') (l1' : l' < 18446744073709551616) :
    furlongref1_Cmp.f h l h' l' = some (sgn (num h l) (num h' l')) := by
  unfold furlongref1_Cmp.f
  simp only [Bool.and_eq_true, beq_iff_eq]
  unfold sgn num
  repeat' split
  all_goals first | rfl | (exfalso; omega)
theorem refAdd_words (x y : Int) (x0 : 0 ≤ x) (x1 : x < 340282366920938463463374607431768211456) (y0 : 0 ≤ y) (y1 : y < 340282366920938463463374607431768211456) :
    furlongref1_Add.f (hi x) (lo x) (hi y) (lo y) = if x + y < 340282366920938463463374607431768211456 then some (hi (x + y), lo (x + y), true) else some (0, 0, false) := by
  rw [refAdd_f _ _ _ _ (hi_bd x0 x1).1 (hi_bd x0 x1).2 (lo_bd x).1 (lo_bd x).2 (hi_bd y0 y1).1 (hi_bd y0 y1).2 (lo_bd y).1 (lo_bd y).2, num_hi_lo, num_hi_lo]
theorem refCmp_words (x y : Int) : furlongref1_Cmp.f (hi x) (lo x) (hi y) (lo y) = some (sgn x y) := by
  rw [refCmp_f _ _ _ _ (lo_bd x).1 (lo_bd x).2 (lo_bd y).1 (lo_bd y).2, num_hi_lo, num_hi_lo]
end Go.Proofs.Ytkpmmbcbegpdpaa.PWides
