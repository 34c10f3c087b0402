/- What the printed functions of package wide answer, as numbers below 2^128. Conditions: each word is of its kind; enough rounds. -/
import Derived.Test.YtkpmmbcbegpdpaaWd
import Derived.Test.YtkpmmbcbegpdpaaPWidesm3
namespace Go.Proofs.Ytkpmmbcbegpdpaa.PWides
open Go Go.RowKit Go.Proofs.Ytkpmmbcbegpdpaa.Wd Go.Proofs.YtkpmmbcbegpdpaaW.PrintWords Go.Proofs.YtkpmmbcbegpdpaaW.PrintLast

theorem mul_f (a b : Int) (a0 : 0 ≤ a) (a1 : a < 18446744073709551616) (b0 : 0 ≤ b) (b1 : b < 18446744073709551616) :
    wide_Mul.f a b = some (hi (a * b), lo (a * b)) := by
  unfold wide_Mul.f
  rw [(mulHi a b a0 a1 b0 b1).1, (mulHi a b a0 a1 b0 b1).2]

theorem add_f (h l h' l' : Int) (h0 : 0 ≤ h) (h1 : h < 18446744073709551616) (l0 : 0 ≤ l) (l1 : l < 18446744073709551616)
    (h0' : 0 ≤ h') (h1' : h' < 18446744073709551616) (l0' : 0 ≤ l') (l1' : l' < 18446744073709551616) :
    wide_Add.f h l h' l' = if num h l + num h' l' < 340282366920938463463374607431768211456 then some (hi (num h l + num h' l'), lo (num h l + num h' l'), true) else some (0, 0, false) := by
  unfold wide_Add.f num hi lo
  simp only [w64]
  repeat' split
  all_goals first | (exfalso; omega) | (congr 3 <;> omega) | rfl | (congr 1; ext <;> omega)

theorem or_two (k : Nat) (x y : Int) (hk : 3 ≤ k) : cmp_Or_int.f k [x, y] = some (if x = 0 then y else x) := by
  obtain ⟨k, rfl⟩ : ∃ m, k = m + 3 := ⟨k - 3, by omega⟩
  have w0 : wrap64 1 = 1 := by unfold wrap64; rfl
  have w2 : wrap64 2 = 2 := by unfold wrap64; rfl
  by_cases hx : x = 0 <;> by_cases hy : y = 0 <;> simp [cmp_Or_int.f, cmp_Or_int.l0, rd, hx, hy, w0, w2]

theorem compare_f (a b : Int) : cmp_Compare_uint64.f a b = some (if a < b then -1 else if a > b then 1 else 0) := by
  unfold cmp_Compare_uint64.f cmp_isNaN_uint64.f
  simp
  repeat' split
  all_goals first | rfl | omega

/-- less, the same, more -/
def sgn (a b : Int) : Int := if a < b then -1 else if b < a then 1 else 0

theorem cmp_f (k : Nat) (h l h' l' : Int) (hk : 3 ≤ k) (l0 : 0 ≤ l) (l1 : l < 18446744073709551616) (l0' : 0 ≤ l') (l1' : l' < 18446744073709551616) :
    wide_Cmp.f k h l h' l' = some (sgn (num h l) (num h' l')) := by
  unfold wide_Cmp.f
  rw [compare_f, compare_f]
  simp only [Option.bind_some]
  rw [or_two _ _ _ hk]
  simp only [Option.bind_some, Option.some.injEq]
  unfold sgn num
  repeat' split
  all_goals omega
end Go.Proofs.Ytkpmmbcbegpdpaa.PWides
