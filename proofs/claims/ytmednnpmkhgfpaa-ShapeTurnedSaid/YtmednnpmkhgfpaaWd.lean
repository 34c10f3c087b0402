/- Plain arithmetic beneath package wide: what the two texts of a product, of a sum and of a comparison come to, as numbers below 2^128. No condition. -/
import Derived.RowKit
import Derived.Laws.BitsLemmas
namespace Go.Proofs.Ytmednnpmkhgfpaa.Wd
open Go

theorem w64 (n : Int) : IntKind.u64.wrap n = n % 18446744073709551616 := by simp [IntKind.wrap, IntKind.bits, IntKind.signed]
theorem w64_in (n : Int) (h0 : 0 ≤ n) (h1 : n < 18446744073709551616) : IntKind.u64.wrap n = n := by rw [w64]; omega
theorem wf64 {n : Int} (h : (Lit.int .u64 n).wf = true) : 0 ≤ n ∧ n < 18446744073709551616 := by
  have e : IntKind.u64.min ≤ n ∧ n ≤ IntKind.u64.max := by simpa [Lit.wf] using h
  simp [IntKind.min, IntKind.max, IntKind.bits, IntKind.signed] at e
  omega
theorem andLow (x : Int) (h0 : 0 ≤ x) (h1 : x < 18446744073709551616) : Go.bits .and .u64 x 4294967295 = x % 4294967296 := by
  have := bits_mask .u64 64 (by decide) (fun n a b => w64_in n a (by simpa using b)) 32 (by decide) x h0 (by simpa using h1)
  simpa using this
theorem orJoin (x y : Int) (hx0 : 0 ≤ x) (hx : x % 4294967296 = 0) (hx1 : x < 18446744073709551616) (hy0 : 0 ≤ y) (hy : y < 4294967296) : Go.bits .or .u64 x y = x + y :=
  bits_join .u64 64 (by decide) (fun n a b => w64_in n a (by simpa using b)) 32 x y hx0 (by simpa using hx) (by simpa using hx1) hy0 (by simpa using hy) (by simp; omega)

theorem prodBound {a b : Int} (ha : 0 ≤ a) (ha' : a < 4294967296) (hb : 0 ≤ b) (hb' : b < 4294967296) : 0 ≤ a * b ∧ a * b ≤ 18446744065119617025 := by
  refine ⟨Int.mul_nonneg ha hb, ?_⟩
  have := Int.mul_le_mul (show a ≤ 4294967295 by omega) (show b ≤ 4294967295 by omega) hb (by omega)
  omega

/-- the product of two numbers below 2^64, of its halves' products -/
theorem split (a b : Int) : a * b = (a / 4294967296 * (b / 4294967296)) * 18446744073709551616 + (a / 4294967296 * (b % 4294967296) + a % 4294967296 * (b / 4294967296)) * 4294967296 + a % 4294967296 * (b % 4294967296) := by
  have e1 := Int.mul_ediv_add_emod a 4294967296
  have e2 := Int.mul_ediv_add_emod b 4294967296
  generalize a / 4294967296 = ah at *
  generalize a % 4294967296 = al at *
  generalize b / 4294967296 = bh at *
  generalize b % 4294967296 = bl at *
  subst e1 e2
  grind

/-- the high and the low word of a product -/
def hi (n : Int) : Int := n / 18446744073709551616
def lo (n : Int) : Int := n % 18446744073709551616

theorem mulHi (a b : Int) (a0 : 0 ≤ a) (a1 : a < 18446744073709551616) (b0 : 0 ≤ b) (b1 : b < 18446744073709551616) :
    IntKind.u64.wrap ((IntKind.u64.wrap ((IntKind.u64.wrap ((a / 4294967296) * (b / 4294967296))) + ((IntKind.u64.wrap ((IntKind.u64.wrap ((a / 4294967296) * (Go.bits .and .u64 b 4294967295))) + ((IntKind.u64.wrap ((Go.bits .and .u64 a 4294967295) * (Go.bits .and .u64 b 4294967295))) / 4294967296))) / 4294967296))) + ((IntKind.u64.wrap ((IntKind.u64.wrap ((Go.bits .and .u64 a 4294967295) * (b / 4294967296))) + (Go.bits .and .u64 (IntKind.u64.wrap ((IntKind.u64.wrap ((a / 4294967296) * (Go.bits .and .u64 b 4294967295))) + ((IntKind.u64.wrap ((Go.bits .and .u64 a 4294967295) * (Go.bits .and .u64 b 4294967295))) / 4294967296))) 4294967295))) / 4294967296)) = hi (a * b)
    ∧ Go.bits .or .u64 (IntKind.u64.wrap ((IntKind.u64.wrap ((IntKind.u64.wrap ((Go.bits .and .u64 a 4294967295) * (b / 4294967296))) + (Go.bits .and .u64 (IntKind.u64.wrap ((IntKind.u64.wrap ((a / 4294967296) * (Go.bits .and .u64 b 4294967295))) + ((IntKind.u64.wrap ((Go.bits .and .u64 a 4294967295) * (Go.bits .and .u64 b 4294967295))) / 4294967296))) 4294967295))) * 4294967296)) (Go.bits .and .u64 (IntKind.u64.wrap ((Go.bits .and .u64 a 4294967295) * (Go.bits .and .u64 b 4294967295))) 4294967295) = lo (a * b) := by
  have hs := split a b
  rw [andLow a a0 a1, andLow b b0 b1]
  unfold hi lo
  have hp := prodBound (a := a % 4294967296) (b := b % 4294967296) (by omega) (by omega) (by omega) (by omega)
  have hq := prodBound (a := a / 4294967296) (b := b % 4294967296) (by omega) (by omega) (by omega) (by omega)
  have hr := prodBound (a := a % 4294967296) (b := b / 4294967296) (by omega) (by omega) (by omega) (by omega)
  have hS := prodBound (a := a / 4294967296) (b := b / 4294967296) (by omega) (by omega) (by omega) (by omega)
  rw [hs]
  generalize a % 4294967296 * (b % 4294967296) = p at *
  generalize a / 4294967296 * (b % 4294967296) = q at *
  generalize a % 4294967296 * (b / 4294967296) = r at *
  generalize a / 4294967296 * (b / 4294967296) = s at *
  clear hs
  rw [w64_in p (by omega) (by omega), w64_in q (by omega) (by omega), w64_in r (by omega) (by omega), w64_in s (by omega) (by omega)]
  rw [w64_in (q + p / 4294967296) (by omega) (by omega)]
  rw [andLow (q + p / 4294967296) (by omega) (by omega), andLow p (by omega) (by omega)]
  rw [w64_in (r + (q + p / 4294967296) % 4294967296) (by omega) (by omega)]
  rw [w64_in (s + (q + p / 4294967296) / 4294967296) (by omega) (by omega)]
  constructor
  · have eh : s + (q + p / 4294967296) / 4294967296 + (r + (q + p / 4294967296) % 4294967296) / 4294967296 = (s * 18446744073709551616 + (q + r) * 4294967296 + p) / 18446744073709551616 := by omega
    rw [eh]
    exact w64_in _ (by omega) (by omega)
  · rw [w64]
    rw [orJoin _ _ (by omega) (by omega) (by omega) (by omega) (by omega)]
    omega

/-- the number that two words make -/
def num (h l : Int) : Int := h * 18446744073709551616 + l
theorem num_hi_lo (n : Int) : num (hi n) (lo n) = n := by unfold num hi lo; omega
theorem lo_bd (n : Int) : 0 ≤ lo n ∧ lo n < 18446744073709551616 := by unfold lo; omega
theorem hi_bd {n : Int} (h0 : 0 ≤ n) (h1 : n < 340282366920938463463374607431768211456) : 0 ≤ hi n ∧ hi n < 18446744073709551616 := by unfold hi; omega
theorem hi_num {h l : Int} (l0 : 0 ≤ l) (l1 : l < 18446744073709551616) : hi (num h l) = h := by unfold num hi; omega
theorem lo_num {h l : Int} (l0 : 0 ≤ l) (l1 : l < 18446744073709551616) : lo (num h l) = l := by unfold num lo; omega
theorem num_inj {h l h' l' : Int} (l0 : 0 ≤ l) (l1 : l < 18446744073709551616) (l0' : 0 ≤ l') (l1' : l' < 18446744073709551616) : num h l = num h' l' ↔ h = h' ∧ l = l' := by unfold num; omega
theorem mul_bd {a b : Int} (a0 : 0 ≤ a) (a1 : a < 18446744073709551616) (b0 : 0 ≤ b) (b1 : b < 18446744073709551616) : 0 ≤ a * b ∧ a * b ≤ 340282366920938463426481119284349108225 := by
  refine ⟨Int.mul_nonneg a0 b0, ?_⟩
  have := Int.mul_le_mul (show a ≤ 18446744073709551615 by omega) (show b ≤ 18446744073709551615 by omega) b0 (by omega)
  omega
end Go.Proofs.Ytmednnpmkhgfpaa.Wd
