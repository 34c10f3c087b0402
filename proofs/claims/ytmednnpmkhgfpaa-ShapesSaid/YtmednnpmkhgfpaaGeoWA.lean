/- Plain arithmetic beneath package wide: what the two texts of a product, of a sum and of a comparison come to, as numbers below 2^128. No condition. -/
import Derived.RowKit
import Derived.Laws.BitsLemmas
import Derived.Test.YtmednnpmkhgfpaaProg
import Derived.Test.YtmednnpmkhgfpaaGeoA0
import Derived.WalkKit
import Derived.Deep.QuietTactic
import Derived.BigQuiet
import Derived.Below
import Derived.Lib.Hide
import Derived.WalkLawsBesides
import Derived.WalkSpells
import Derived.Laws.ResultCell
import Derived.Deep.RegionHeld3
import Derived.Deep.DrawnRows
import Derived.Deep.LoopGhost
import Derived.KernelRfl
import Derived.Outline
import Derived.IntWalk
import Derived.Test.YtmednnpmkhgfpaaWLast
section
namespace Go.Proofs.Ytmednnpmkhgfpaa.Wd
open Go

theorem w64 (n : Int) : IntKind.u64.wrap n = n % 18446744073709551616 := by simp [IntKind.wrap, IntKind.bits, IntKind.signed]
theorem w64_in (n : Int) (h0 : 0 ≤ n) (h1 : n < 18446744073709551616) : IntKind.u64.wrap n = n := by rw [w64]; omega
theorem wf64 {n : Int} (h : (Lit.int .u64 n).wf = true) : 0 ≤ n ∧ n < 18446744073709551616 := by
  have e : IntKind.u64.min ≤ n ∧ n ≤ IntKind.u64.max := by simpa [Lit.wf] using h
  simp [IntKind.min, IntKind.max, IntKind.bits, IntKind.signed] at e
  omega
theorem andLow (x : Int) (h0 : 0 ≤ x) (h1 : x < 18446744073709551616) : Go.bits .and .u64 x 4294967295 = x % 4294967296 := by
  have := bits_mask .u64 64 (by decide) (fun n a b => w64_in n a (by simpa using b)) 32 (by decide) x h0 (by simpa using h1)
  simpa using this
theorem orJoin (x y : Int) (hx0 : 0 ≤ x) (hx : x % 4294967296 = 0) (hx1 : x < 18446744073709551616) (hy0 : 0 ≤ y) (hy : y < 4294967296) : Go.bits .or .u64 x y = x + y :=
  bits_join .u64 64 (by decide) (fun n a b => w64_in n a (by simpa using b)) 32 x y hx0 (by simpa using hx) (by simpa using hx1) hy0 (by simpa using hy) (by simp; omega)

theorem prodBound {a b : Int} (ha : 0 ≤ a) (ha' : a < 4294967296) (hb : 0 ≤ b) (hb' : b < 4294967296) : 0 ≤ a * b ∧ a * b ≤ 18446744065119617025 := by
  refine ⟨Int.mul_nonneg ha hb, ?_⟩
  have := Int.mul_le_mul (show a ≤ 4294967295 by omega) (show b ≤ 4294967295 by omega) hb (by omega)
  omega

/-- the product of two numbers below 2^64, of its halves' products -/
theorem split (a b : Int) : a * b = (a / 4294967296 * (b / 4294967296)) * 18446744073709551616 + (a / 4294967296 * (b % 4294967296) + a % 4294967296 * (b / 4294967296)) * 4294967296 + a % 4294967296 * (b % 4294967296) := by
  have e1 := Int.mul_ediv_add_emod a 4294967296
  have e2 := Int.mul_ediv_add_emod b 4294967296
  generalize a / 4294967296 = ah at *
  generalize a % 4294967296 = al at *
  generalize b / 4294967296 = bh at *
  generalize b % 4294967296 = bl at *
  subst e1 e2
  grind

/-- the high and the low word of a product -/
def hi (n : Int) : Int := n / 18446744073709551616
def lo (n : Int) : Int := n % 18446744073709551616

theorem mulHi (a b : Int) (a0 : 0 ≤ a) (a1 : a < 18446744073709551616) (b0 : 0 ≤ b) (b1 : b < 18446744073709551616) :
    IntKind.u64.wrap ((IntKind.u64.wrap ((IntKind.u64.wrap ((a / 4294967296) * (b / 4294967296))) + ((IntKind.u64.wrap ((IntKind.u64.wrap ((a / 4294967296) * (Go.bits .and .u64 b 4294967295))) + ((IntKind.u64.wrap ((Go.bits .and .u64 a 4294967295) * (Go.bits .and .u64 b 4294967295))) / 4294967296))) / 4294967296))) + ((IntKind.u64.wrap ((IntKind.u64.wrap ((Go.bits .and .u64 a 4294967295) * (b / 4294967296))) + (Go.bits .and .u64 (IntKind.u64.wrap ((IntKind.u64.wrap ((a / 4294967296) * (Go.bits .and .u64 b 4294967295))) + ((IntKind.u64.wrap ((Go.bits .and .u64 a 4294967295) * (Go.bits .and .u64 b 4294967295))) / 4294967296))) 4294967295))) / 4294967296)) = hi (a * b)
    ∧ Go.bits .or .u64 (IntKind.u64.wrap ((IntKind.u64.wrap ((IntKind.u64.wrap ((Go.bits .and .u64 a 4294967295) * (b / 4294967296))) + (Go.bits .and .u64 (IntKind.u64.wrap ((IntKind.u64.wrap ((a / 4294967296) * (Go.bits .and .u64 b 4294967295))) + ((IntKind.u64.wrap ((Go.bits .and .u64 a 4294967295) * (Go.bits .and .u64 b 4294967295))) / 4294967296))) 4294967295))) * 4294967296)) (Go.bits .and .u64 (IntKind.u64.wrap ((Go.bits .and .u64 a 4294967295) * (Go.bits .and .u64 b 4294967295))) 4294967295) = lo (a * b) := by
  have hs := split a b
  rw [andLow a a0 a1, andLow b b0 b1]
  unfold hi lo
  have hp := prodBound (a := a % 4294967296) (b := b % 4294967296) (by omega) (by omega) (by omega) (by omega)
  have hq := prodBound (a := a / 4294967296) (b := b % 4294967296) (by omega) (by omega) (by omega) (by omega)
  have hr := prodBound (a := a % 4294967296) (b := b / 4294967296) (by omega) (by omega) (by omega) (by omega)
  have hS := prodBound (a := a / 4294967296) (b := b / 4294967296) (by omega) (by omega) (by omega) (by omega)
  rw [hs]
  generalize a % 4294967296 * (b % 4294967296) = p at *
  generalize a / 4294967296 * (b % 4294967296) = q at *
  generalize a % 4294967296 * (b / 4294967296) = r at *
  generalize a / 4294967296 * (b / 4294967296) = s at *
  clear hs
  rw [w64_in p (by omega) (by omega), w64_in q (by omega) (by omega), w64_in r (by omega) (by omega), w64_in s (by omega) (by omega)]
  rw [w64_in (q + p / 4294967296) (by omega) (by omega)]
  rw [andLow (q + p / 4294967296) (by omega) (by omega), andLow p (by omega) (by omega)]
  rw [w64_in (r + (q + p / 4294967296) % 4294967296) (by omega) (by omega)]
  rw [w64_in (s + (q + p / 4294967296) / 4294967296) (by omega) (by omega)]
  constructor
  · have eh : s + (q + p / 4294967296) / 4294967296 + (r + (q + p / 4294967296) % 4294967296) / 4294967296 = (s * 18446744073709551616 + (q + r) * 4294967296 + p) / 18446744073709551616 := by omega
    rw [eh]
    exact w64_in _ (by omega) (by omega)
  · rw [w64]
    rw [orJoin _ _ (by omega) (by omega) (by omega) (by omega) (by omega)]
    omega

/-- the number that two words make -/
def num (h l : Int) : Int := h * 18446744073709551616 + l
theorem num_hi_lo (n : Int) : num (hi n) (lo n) = n := by unfold num hi lo; omega
theorem lo_bd (n : Int) : 0 ≤ lo n ∧ lo n < 18446744073709551616 := by unfold lo; omega
theorem hi_bd {n : Int} (h0 : 0 ≤ n) (h1 : n < 340282366920938463463374607431768211456) : 0 ≤ hi n ∧ hi n < 18446744073709551616 := by unfold hi; omega
theorem hi_num {h l : Int} (l0 : 0 ≤ l) (l1 : l < 18446744073709551616) : hi (num h l) = h := by unfold num hi; omega
theorem lo_num {h l : Int} (l0 : 0 ≤ l) (l1 : l < 18446744073709551616) : lo (num h l) = l := by unfold num lo; omega
theorem num_inj {h l h' l' : Int} (l0 : 0 ≤ l) (l1 : l < 18446744073709551616) (l0' : 0 ≤ l') (l1' : l' < 18446744073709551616) : num h l = num h' l' ↔ h = h' ∧ l = l' := by unfold num; omega
theorem mul_bd {a b : Int} (a0 : 0 ≤ a) (a1 : a < 18446744073709551616) (b0 : 0 ≤ b) (b1 : b < 18446744073709551616) : 0 ≤ a * b ∧ a * b ≤ 340282366920938463426481119284349108225 := by
  refine ⟨Int.mul_nonneg a0 b0, ?_⟩
  have := Int.mul_le_mul (show a ≤ 18446744073709551615 by omega) (show b ≤ 18446744073709551615 by omega) b0 (by omega)
  omega
end Go.Proofs.Ytmednnpmkhgfpaa.Wd
end
section
/- What the program's functions of packages wide and geom answer, called with any values (points that may be, where the code says so). Worlds: nothing that was there has changed. -/
namespace Go.Proofs.Ytmednnpmkhgfpaa.GW
open Go Go.RowKit Go.Proofs.Ytmednnpmkhgfpaa.Wd Go.Proofs.Ytmednnpmkhgfpaa.Geo

theorem max2_int (k k' : IntKind) (x y : Int) : Builtin.max2 (.int k x) (.int k' y) = pure (.int k (max x y)) := by
  simp only [Builtin.max2, gt_iff_lt, Int.max_def]
  by_cases h : x < y
  · rw [if_pos h, if_pos (by omega)]
  · rw [if_neg h]; by_cases e : x = y
    · rw [if_pos (by omega), e]
    · rw [if_neg (by omega)]
theorem min2_int (k k' : IntKind) (x y : Int) : Builtin.min2 (.int k x) (.int k' y) = pure (.int k (min x y)) := by
  simp only [Builtin.min2, Int.min_def]
  by_cases h : y < x
  · rw [if_pos h, if_neg (by omega)]
  · rw [if_neg h, if_pos (by omega)]
theorem min_two (ats : Array TypeId) (ty : TypeId) (a b : Value) : Builtin.min_ ats ty #[a, b] = (Builtin.min2 a b >>= fun s => pure s) := by simp only [Builtin.min_, List.foldlM_cons, List.foldlM_nil]
theorem max_two (ats : Array TypeId) (ty : TypeId) (a b : Value) : Builtin.max_ ats ty #[a, b] = (Builtin.max2 a b >>= fun s => pure s) := by simp only [Builtin.max_, List.foldlM_cons, List.foldlM_nil]
theorem max_three (ats : Array TypeId) (ty : TypeId) (a b c : Value) : Builtin.max_ ats ty #[a, b, c] = (Builtin.max2 a b >>= fun s => Builtin.max2 s c >>= fun s => pure s) := by simp only [Builtin.max_, List.foldlM_cons, List.foldlM_nil]
attribute [local go_sem] max2_int min2_int max_two min_two max_three

/-- what a call that only makes memory leaves as it was -/
theorem bcell {W w1 : World} (hb : Below W.heap.size W w1) : (∀ b o, b < W.heap.size → w1.cell? ⟨b, o, none⟩ = W.cell? ⟨b, o, none⟩) ∧ (∀ b o, b < W.heap.size → w1.frozen? ⟨b, o, none⟩ = W.frozen? ⟨b, o, none⟩) :=
  ⟨fun b o h => hb.cell (p := ⟨b, o, none⟩) h, fun b o h => hb.frozen (p := ⟨b, o, none⟩) h⟩

theorem bcell' {B : Nat} {W w1 : World} (hb : Below B W w1) : (∀ b o, b < B → w1.cell? ⟨b, o, none⟩ = W.cell? ⟨b, o, none⟩) ∧ (∀ b o, b < B → w1.frozen? ⟨b, o, none⟩ = W.frozen? ⟨b, o, none⟩) :=
  ⟨fun b o h => hb.cell (p := ⟨b, o, none⟩) h, fun b o h => hb.frozen (p := ⟨b, o, none⟩) h⟩
/-- n boxes of a call behind a further call that only makes memory: each reads as it did, each may be written as it might -/
theorem bc1 {H : Nat} {W w1 : World} (hb : Below W.heap.size W w1) (h : H + 1 ≤ W.heap.size) : (∀ o, w1.cell? ⟨H, o, none⟩ = W.cell? ⟨H, o, none⟩) ∧ (∀ o, w1.frozen? ⟨H, o, none⟩ = W.frozen? ⟨H, o, none⟩) ∧ H ≠ w1.heap.size ∧ w1.heap.size ≠ H ∧ H < w1.heap.size ∧ H + 1 ≤ w1.heap.size := by
  have hs : H + 1 ≤ w1.heap.size := Nat.le_trans h hb.size
  exact ⟨fun o => hb.cell (p := ⟨H, o, none⟩) (Nat.lt_of_lt_of_le (by show H < H + 1; omega) h), fun o => hb.frozen (p := ⟨H, o, none⟩) (Nat.lt_of_lt_of_le (by show H < H + 1; omega) h), by omega, by omega, by omega, hs⟩
theorem bc2 {H : Nat} {W w1 : World} (hb : Below W.heap.size W w1) (h : H + 1 + 1 ≤ W.heap.size) : (∀ o, w1.cell? ⟨H, o, none⟩ = W.cell? ⟨H, o, none⟩) ∧ (∀ o, w1.cell? ⟨H + 1, o, none⟩ = W.cell? ⟨H + 1, o, none⟩) ∧ (∀ o, w1.frozen? ⟨H, o, none⟩ = W.frozen? ⟨H, o, none⟩) ∧ (∀ o, w1.frozen? ⟨H + 1, o, none⟩ = W.frozen? ⟨H + 1, o, none⟩) ∧ H ≠ w1.heap.size ∧ H + 1 ≠ w1.heap.size ∧ w1.heap.size ≠ H ∧ w1.heap.size ≠ H + 1 ∧ H < w1.heap.size ∧ H + 1 < w1.heap.size ∧ H + 1 + 1 ≤ w1.heap.size := by
  have hs : H + 1 + 1 ≤ w1.heap.size := Nat.le_trans h hb.size
  exact ⟨fun o => hb.cell (p := ⟨H, o, none⟩) (Nat.lt_of_lt_of_le (by show H < H + 1 + 1; omega) h), fun o => hb.cell (p := ⟨H + 1, o, none⟩) (Nat.lt_of_lt_of_le (by show H + 1 < H + 1 + 1; omega) h), fun o => hb.frozen (p := ⟨H, o, none⟩) (Nat.lt_of_lt_of_le (by show H < H + 1 + 1; omega) h), fun o => hb.frozen (p := ⟨H + 1, o, none⟩) (Nat.lt_of_lt_of_le (by show H + 1 < H + 1 + 1; omega) h), by omega, by omega, by omega, by omega, by omega, by omega, hs⟩
theorem bc3 {H : Nat} {W w1 : World} (hb : Below W.heap.size W w1) (h : H + 1 + 1 + 1 ≤ W.heap.size) : (∀ o, w1.cell? ⟨H, o, none⟩ = W.cell? ⟨H, o, none⟩) ∧ (∀ o, w1.cell? ⟨H + 1, o, none⟩ = W.cell? ⟨H + 1, o, none⟩) ∧ (∀ o, w1.cell? ⟨H + 1 + 1, o, none⟩ = W.cell? ⟨H + 1 + 1, o, none⟩) ∧ (∀ o, w1.frozen? ⟨H, o, none⟩ = W.frozen? ⟨H, o, none⟩) ∧ (∀ o, w1.frozen? ⟨H + 1, o, none⟩ = W.frozen? ⟨H + 1, o, none⟩) ∧ (∀ o, w1.frozen? ⟨H + 1 + 1, o, none⟩ = W.frozen? ⟨H + 1 + 1, o, none⟩) ∧ H ≠ w1.heap.size ∧ H + 1 ≠ w1.heap.size ∧ H + 1 + 1 ≠ w1.heap.size ∧ w1.heap.size ≠ H ∧ w1.heap.size ≠ H + 1 ∧ w1.heap.size ≠ H + 1 + 1 ∧ H < w1.heap.size ∧ H + 1 < w1.heap.size ∧ H + 1 + 1 < w1.heap.size ∧ H + 1 + 1 + 1 ≤ w1.heap.size := by
  have hs : H + 1 + 1 + 1 ≤ w1.heap.size := Nat.le_trans h hb.size
  exact ⟨fun o => hb.cell (p := ⟨H, o, none⟩) (Nat.lt_of_lt_of_le (by show H < H + 1 + 1 + 1; omega) h), fun o => hb.cell (p := ⟨H + 1, o, none⟩) (Nat.lt_of_lt_of_le (by show H + 1 < H + 1 + 1 + 1; omega) h), fun o => hb.cell (p := ⟨H + 1 + 1, o, none⟩) (Nat.lt_of_lt_of_le (by show H + 1 + 1 < H + 1 + 1 + 1; omega) h), fun o => hb.frozen (p := ⟨H, o, none⟩) (Nat.lt_of_lt_of_le (by show H < H + 1 + 1 + 1; omega) h), fun o => hb.frozen (p := ⟨H + 1, o, none⟩) (Nat.lt_of_lt_of_le (by show H + 1 < H + 1 + 1 + 1; omega) h), fun o => hb.frozen (p := ⟨H + 1 + 1, o, none⟩) (Nat.lt_of_lt_of_le (by show H + 1 + 1 < H + 1 + 1 + 1; omega) h), by omega, by omega, by omega, by omega, by omega, by omega, by omega, by omega, by omega, hs⟩
theorem bc4 {H : Nat} {W w1 : World} (hb : Below W.heap.size W w1) (h : H + 1 + 1 + 1 + 1 ≤ W.heap.size) : (∀ o, w1.cell? ⟨H, o, none⟩ = W.cell? ⟨H, o, none⟩) ∧ (∀ o, w1.cell? ⟨H + 1, o, none⟩ = W.cell? ⟨H + 1, o, none⟩) ∧ (∀ o, w1.cell? ⟨H + 1 + 1, o, none⟩ = W.cell? ⟨H + 1 + 1, o, none⟩) ∧ (∀ o, w1.cell? ⟨H + 1 + 1 + 1, o, none⟩ = W.cell? ⟨H + 1 + 1 + 1, o, none⟩) ∧ (∀ o, w1.frozen? ⟨H, o, none⟩ = W.frozen? ⟨H, o, none⟩) ∧ (∀ o, w1.frozen? ⟨H + 1, o, none⟩ = W.frozen? ⟨H + 1, o, none⟩) ∧ (∀ o, w1.frozen? ⟨H + 1 + 1, o, none⟩ = W.frozen? ⟨H + 1 + 1, o, none⟩) ∧ (∀ o, w1.frozen? ⟨H + 1 + 1 + 1, o, none⟩ = W.frozen? ⟨H + 1 + 1 + 1, o, none⟩) ∧ H ≠ w1.heap.size ∧ H + 1 ≠ w1.heap.size ∧ H + 1 + 1 ≠ w1.heap.size ∧ H + 1 + 1 + 1 ≠ w1.heap.size ∧ w1.heap.size ≠ H ∧ w1.heap.size ≠ H + 1 ∧ w1.heap.size ≠ H + 1 + 1 ∧ w1.heap.size ≠ H + 1 + 1 + 1 ∧ H < w1.heap.size ∧ H + 1 < w1.heap.size ∧ H + 1 + 1 < w1.heap.size ∧ H + 1 + 1 + 1 < w1.heap.size ∧ H + 1 + 1 + 1 + 1 ≤ w1.heap.size := by
  have hs : H + 1 + 1 + 1 + 1 ≤ w1.heap.size := Nat.le_trans h hb.size
  exact ⟨fun o => hb.cell (p := ⟨H, o, none⟩) (Nat.lt_of_lt_of_le (by show H < H + 1 + 1 + 1 + 1; omega) h), fun o => hb.cell (p := ⟨H + 1, o, none⟩) (Nat.lt_of_lt_of_le (by show H + 1 < H + 1 + 1 + 1 + 1; omega) h), fun o => hb.cell (p := ⟨H + 1 + 1, o, none⟩) (Nat.lt_of_lt_of_le (by show H + 1 + 1 < H + 1 + 1 + 1 + 1; omega) h), fun o => hb.cell (p := ⟨H + 1 + 1 + 1, o, none⟩) (Nat.lt_of_lt_of_le (by show H + 1 + 1 + 1 < H + 1 + 1 + 1 + 1; omega) h), fun o => hb.frozen (p := ⟨H, o, none⟩) (Nat.lt_of_lt_of_le (by show H < H + 1 + 1 + 1 + 1; omega) h), fun o => hb.frozen (p := ⟨H + 1, o, none⟩) (Nat.lt_of_lt_of_le (by show H + 1 < H + 1 + 1 + 1 + 1; omega) h), fun o => hb.frozen (p := ⟨H + 1 + 1, o, none⟩) (Nat.lt_of_lt_of_le (by show H + 1 + 1 < H + 1 + 1 + 1 + 1; omega) h), fun o => hb.frozen (p := ⟨H + 1 + 1 + 1, o, none⟩) (Nat.lt_of_lt_of_le (by show H + 1 + 1 + 1 < H + 1 + 1 + 1 + 1; omega) h), by omega, by omega, by omega, by omega, by omega, by omega, by omega, by omega, by omega, by omega, by omega, by omega, hs⟩
theorem bc5 {H : Nat} {W w1 : World} (hb : Below W.heap.size W w1) (h : H + 1 + 1 + 1 + 1 + 1 ≤ W.heap.size) : (∀ o, w1.cell? ⟨H, o, none⟩ = W.cell? ⟨H, o, none⟩) ∧ (∀ o, w1.cell? ⟨H + 1, o, none⟩ = W.cell? ⟨H + 1, o, none⟩) ∧ (∀ o, w1.cell? ⟨H + 1 + 1, o, none⟩ = W.cell? ⟨H + 1 + 1, o, none⟩) ∧ (∀ o, w1.cell? ⟨H + 1 + 1 + 1, o, none⟩ = W.cell? ⟨H + 1 + 1 + 1, o, none⟩) ∧ (∀ o, w1.cell? ⟨H + 1 + 1 + 1 + 1, o, none⟩ = W.cell? ⟨H + 1 + 1 + 1 + 1, o, none⟩) ∧ (∀ o, w1.frozen? ⟨H, o, none⟩ = W.frozen? ⟨H, o, none⟩) ∧ (∀ o, w1.frozen? ⟨H + 1, o, none⟩ = W.frozen? ⟨H + 1, o, none⟩) ∧ (∀ o, w1.frozen? ⟨H + 1 + 1, o, none⟩ = W.frozen? ⟨H + 1 + 1, o, none⟩) ∧ (∀ o, w1.frozen? ⟨H + 1 + 1 + 1, o, none⟩ = W.frozen? ⟨H + 1 + 1 + 1, o, none⟩) ∧ (∀ o, w1.frozen? ⟨H + 1 + 1 + 1 + 1, o, none⟩ = W.frozen? ⟨H + 1 + 1 + 1 + 1, o, none⟩) ∧ H ≠ w1.heap.size ∧ H + 1 ≠ w1.heap.size ∧ H + 1 + 1 ≠ w1.heap.size ∧ H + 1 + 1 + 1 ≠ w1.heap.size ∧ H + 1 + 1 + 1 + 1 ≠ w1.heap.size ∧ w1.heap.size ≠ H ∧ w1.heap.size ≠ H + 1 ∧ w1.heap.size ≠ H + 1 + 1 ∧ w1.heap.size ≠ H + 1 + 1 + 1 ∧ w1.heap.size ≠ H + 1 + 1 + 1 + 1 ∧ H < w1.heap.size ∧ H + 1 < w1.heap.size ∧ H + 1 + 1 < w1.heap.size ∧ H + 1 + 1 + 1 < w1.heap.size ∧ H + 1 + 1 + 1 + 1 < w1.heap.size ∧ H + 1 + 1 + 1 + 1 + 1 ≤ w1.heap.size := by
  have hs : H + 1 + 1 + 1 + 1 + 1 ≤ w1.heap.size := Nat.le_trans h hb.size
  exact ⟨fun o => hb.cell (p := ⟨H, o, none⟩) (Nat.lt_of_lt_of_le (by show H < H + 1 + 1 + 1 + 1 + 1; omega) h), fun o => hb.cell (p := ⟨H + 1, o, none⟩) (Nat.lt_of_lt_of_le (by show H + 1 < H + 1 + 1 + 1 + 1 + 1; omega) h), fun o => hb.cell (p := ⟨H + 1 + 1, o, none⟩) (Nat.lt_of_lt_of_le (by show H + 1 + 1 < H + 1 + 1 + 1 + 1 + 1; omega) h), fun o => hb.cell (p := ⟨H + 1 + 1 + 1, o, none⟩) (Nat.lt_of_lt_of_le (by show H + 1 + 1 + 1 < H + 1 + 1 + 1 + 1 + 1; omega) h), fun o => hb.cell (p := ⟨H + 1 + 1 + 1 + 1, o, none⟩) (Nat.lt_of_lt_of_le (by show H + 1 + 1 + 1 + 1 < H + 1 + 1 + 1 + 1 + 1; omega) h), fun o => hb.frozen (p := ⟨H, o, none⟩) (Nat.lt_of_lt_of_le (by show H < H + 1 + 1 + 1 + 1 + 1; omega) h), fun o => hb.frozen (p := ⟨H + 1, o, none⟩) (Nat.lt_of_lt_of_le (by show H + 1 < H + 1 + 1 + 1 + 1 + 1; omega) h), fun o => hb.frozen (p := ⟨H + 1 + 1, o, none⟩) (Nat.lt_of_lt_of_le (by show H + 1 + 1 < H + 1 + 1 + 1 + 1 + 1; omega) h), fun o => hb.frozen (p := ⟨H + 1 + 1 + 1, o, none⟩) (Nat.lt_of_lt_of_le (by show H + 1 + 1 + 1 < H + 1 + 1 + 1 + 1 + 1; omega) h), fun o => hb.frozen (p := ⟨H + 1 + 1 + 1 + 1, o, none⟩) (Nat.lt_of_lt_of_le (by show H + 1 + 1 + 1 + 1 < H + 1 + 1 + 1 + 1 + 1; omega) h), by omega, by omega, by omega, by omega, by omega, by omega, by omega, by omega, by omega, by omega, by omega, by omega, by omega, by omega, by omega, hs⟩
theorem bc6 {H : Nat} {W w1 : World} (hb : Below W.heap.size W w1) (h : H + 1 + 1 + 1 + 1 + 1 + 1 ≤ W.heap.size) : (∀ o, w1.cell? ⟨H, o, none⟩ = W.cell? ⟨H, o, none⟩) ∧ (∀ o, w1.cell? ⟨H + 1, o, none⟩ = W.cell? ⟨H + 1, o, none⟩) ∧ (∀ o, w1.cell? ⟨H + 1 + 1, o, none⟩ = W.cell? ⟨H + 1 + 1, o, none⟩) ∧ (∀ o, w1.cell? ⟨H + 1 + 1 + 1, o, none⟩ = W.cell? ⟨H + 1 + 1 + 1, o, none⟩) ∧ (∀ o, w1.cell? ⟨H + 1 + 1 + 1 + 1, o, none⟩ = W.cell? ⟨H + 1 + 1 + 1 + 1, o, none⟩) ∧ (∀ o, w1.cell? ⟨H + 1 + 1 + 1 + 1 + 1, o, none⟩ = W.cell? ⟨H + 1 + 1 + 1 + 1 + 1, o, none⟩) ∧ (∀ o, w1.frozen? ⟨H, o, none⟩ = W.frozen? ⟨H, o, none⟩) ∧ (∀ o, w1.frozen? ⟨H + 1, o, none⟩ = W.frozen? ⟨H + 1, o, none⟩) ∧ (∀ o, w1.frozen? ⟨H + 1 + 1, o, none⟩ = W.frozen? ⟨H + 1 + 1, o, none⟩) ∧ (∀ o, w1.frozen? ⟨H + 1 + 1 + 1, o, none⟩ = W.frozen? ⟨H + 1 + 1 + 1, o, none⟩) ∧ (∀ o, w1.frozen? ⟨H + 1 + 1 + 1 + 1, o, none⟩ = W.frozen? ⟨H + 1 + 1 + 1 + 1, o, none⟩) ∧ (∀ o, w1.frozen? ⟨H + 1 + 1 + 1 + 1 + 1, o, none⟩ = W.frozen? ⟨H + 1 + 1 + 1 + 1 + 1, o, none⟩) ∧ H ≠ w1.heap.size ∧ H + 1 ≠ w1.heap.size ∧ H + 1 + 1 ≠ w1.heap.size ∧ H + 1 + 1 + 1 ≠ w1.heap.size ∧ H + 1 + 1 + 1 + 1 ≠ w1.heap.size ∧ H + 1 + 1 + 1 + 1 + 1 ≠ w1.heap.size ∧ w1.heap.size ≠ H ∧ w1.heap.size ≠ H + 1 ∧ w1.heap.size ≠ H + 1 + 1 ∧ w1.heap.size ≠ H + 1 + 1 + 1 ∧ w1.heap.size ≠ H + 1 + 1 + 1 + 1 ∧ w1.heap.size ≠ H + 1 + 1 + 1 + 1 + 1 ∧ H < w1.heap.size ∧ H + 1 < w1.heap.size ∧ H + 1 + 1 < w1.heap.size ∧ H + 1 + 1 + 1 < w1.heap.size ∧ H + 1 + 1 + 1 + 1 < w1.heap.size ∧ H + 1 + 1 + 1 + 1 + 1 < w1.heap.size ∧ H + 1 + 1 + 1 + 1 + 1 + 1 ≤ w1.heap.size := by
  have hs : H + 1 + 1 + 1 + 1 + 1 + 1 ≤ w1.heap.size := Nat.le_trans h hb.size
  exact ⟨fun o => hb.cell (p := ⟨H, o, none⟩) (Nat.lt_of_lt_of_le (by show H < H + 1 + 1 + 1 + 1 + 1 + 1; omega) h), fun o => hb.cell (p := ⟨H + 1, o, none⟩) (Nat.lt_of_lt_of_le (by show H + 1 < H + 1 + 1 + 1 + 1 + 1 + 1; omega) h), fun o => hb.cell (p := ⟨H + 1 + 1, o, none⟩) (Nat.lt_of_lt_of_le (by show H + 1 + 1 < H + 1 + 1 + 1 + 1 + 1 + 1; omega) h), fun o => hb.cell (p := ⟨H + 1 + 1 + 1, o, none⟩) (Nat.lt_of_lt_of_le (by show H + 1 + 1 + 1 < H + 1 + 1 + 1 + 1 + 1 + 1; omega) h), fun o => hb.cell (p := ⟨H + 1 + 1 + 1 + 1, o, none⟩) (Nat.lt_of_lt_of_le (by show H + 1 + 1 + 1 + 1 < H + 1 + 1 + 1 + 1 + 1 + 1; omega) h), fun o => hb.cell (p := ⟨H + 1 + 1 + 1 + 1 + 1, o, none⟩) (Nat.lt_of_lt_of_le (by show H + 1 + 1 + 1 + 1 + 1 < H + 1 + 1 + 1 + 1 + 1 + 1; omega) h), fun o => hb.frozen (p := ⟨H, o, none⟩) (Nat.lt_of_lt_of_le (by show H < H + 1 + 1 + 1 + 1 + 1 + 1; omega) h), fun o => hb.frozen (p := ⟨H + 1, o, none⟩) (Nat.lt_of_lt_of_le (by show H + 1 < H + 1 + 1 + 1 + 1 + 1 + 1; omega) h), fun o => hb.frozen (p := ⟨H + 1 + 1, o, none⟩) (Nat.lt_of_lt_of_le (by show H + 1 + 1 < H + 1 + 1 + 1 + 1 + 1 + 1; omega) h), fun o => hb.frozen (p := ⟨H + 1 + 1 + 1, o, none⟩) (Nat.lt_of_lt_of_le (by show H + 1 + 1 + 1 < H + 1 + 1 + 1 + 1 + 1 + 1; omega) h), fun o => hb.frozen (p := ⟨H + 1 + 1 + 1 + 1, o, none⟩) (Nat.lt_of_lt_of_le (by show H + 1 + 1 + 1 + 1 < H + 1 + 1 + 1 + 1 + 1 + 1; omega) h), fun o => hb.frozen (p := ⟨H + 1 + 1 + 1 + 1 + 1, o, none⟩) (Nat.lt_of_lt_of_le (by show H + 1 + 1 + 1 + 1 + 1 < H + 1 + 1 + 1 + 1 + 1 + 1; omega) h), by omega, by omega, by omega, by omega, by omega, by omega, by omega, by omega, by omega, by omega, by omega, by omega, by omega, by omega, by omega, by omega, by omega, by omega, hs⟩
theorem bcx {g : Nat} {W w1 : World} (hb : Below W.heap.size W w1) (h : g < W.heap.size) : (∀ o, w1.cell? ⟨g, o, none⟩ = W.cell? ⟨g, o, none⟩) ∧ g < w1.heap.size :=
  ⟨fun o => hb.cell (p := ⟨g, o, none⟩) h, Nat.lt_of_lt_of_le h hb.size⟩
theorem below_then {w W w1 : World} (h : Below w.heap.size w W) (hb : Below W.heap.size W w1) : Below w.heap.size w w1 := h.trans (hb.mono h.size)
theorem below_new {w W : World} (h : Below w.heap.size w W) (o : Obj) : Below w.heap.size w (W.alloc o) := h.alloc h.size o

set_option maxHeartbeats 400000 in
theorem coord_any (x : Int) (w : World) : Calls Try.prog 53 #[.int .i64 x] w fun e w' => e = .returned (.bool (coordB x)) ∧ w = w' := by
  by_cases h : x ≥ 0
  · go_enter Try.func53, Try.ntmps53
    go_wp2
    go_ret
    exact ⟨by simp [coordB]; omega, rfl⟩
  · go_enter Try.func53, Try.ntmps53
    go_wp2
    go_ret
    exact ⟨by simp [coordB]; omega, rfl⟩

set_option maxHeartbeats 400000 in
theorem pointMay_any (x y : Int) (w : World) : Calls Try.prog 29 #[.agg #[.int .i64 x, .int .i64 y]] w fun e w' => e = .returned (.bool (ptB x y)) ∧ Below w.heap.size w w' := by
  go_enter Try.func29, Try.ntmps29
  go_wp2_with (go_at_call 53; refine (coord_any _ _).mono ?_; rintro e w' ⟨rfl, rfl⟩)
  all_goals
    go_ret
    refine ⟨?_, (Below.refl _ _).alloc (Nat.le_refl _) _⟩
    simp_all [ptB]

set_option maxHeartbeats 400000 in
theorem boxMay_any (a b c d : Int) (w : World) : Calls Try.prog 34 #[.agg #[.int .i64 a, .int .i64 b, .int .i64 c, .int .i64 d]] w fun e w' => e = .returned (.bool (boxB a b c d)) ∧ Below w.heap.size w w' := by
  go_enter Try.func34, Try.ntmps34
  go_wp2_with (go_at_call 53; refine (coord_any _ _).mono ?_; rintro e w' ⟨rfl, rfl⟩)
  all_goals
    go_ret
    refine ⟨?_, (Below.refl _ _).alloc (Nat.le_refl _) _⟩
    simp_all [boxB]
    try omega

set_option maxHeartbeats 400000 in
theorem mul_any (a b : Int) (w : World) (a0 : 0 ≤ a) (a1 : a < 18446744073709551616) (b0 : 0 ≤ b) (b1 : b < 18446744073709551616) :
    Calls Try.prog 71 #[.int .u64 a, .int .u64 b] w fun e w' => e = .returned (.agg #[.int .u64 (hi (a * b)), .int .u64 (lo (a * b))]) ∧ Below w.heap.size w w' := by
  have h := mulHi a b a0 a1 b0 b1
  rw [← h.1, ← h.2]
  clear h a0 a1 b0 b1
  go_enter Try.func71, Try.ntmps71
  go_wp2
  refine bodyPost_ret (v := .agg #[_, _]) (by simp [results, Try.results71, go_sem]) rfl ⟨rfl, (Below.refl _ _).alloc (Nat.le_refl _) _⟩

theorem ret_wide_is {p q p' q' : Int} {r r' : Bool} (hp : p = p') (hq : q = q') (hr : r = r') : Ending.returned (.tuple #[.agg #[.int .u64 p, .int .u64 q], .bool r]) = Ending.returned (.tuple #[.agg #[.int .u64 p', .int .u64 q'], .bool r']) := by rw [hp, hq, hr]

/-- a sum's words, or zero where it has too many -/
def sumHi (x y : Int) : Int := if x + y < 340282366920938463463374607431768211456 then hi (x + y) else 0
def sumLo (x y : Int) : Int := if x + y < 340282366920938463463374607431768211456 then lo (x + y) else 0
def sumIs (x y : Int) : Bool := decide (x + y < 340282366920938463463374607431768211456)
/-- less, the same, more -/
def sgn (a b : Int) : Int := if a < b then -1 else if b < a then 1 else 0
set_option maxHeartbeats 400000 in
theorem nan_any (a : Int) (w : World) : Calls Try.prog 75 #[.int .u64 a] w fun e w' => e = .returned (.bool false) ∧ w = w' := by
  go_enter Try.func75, Try.ntmps75
  go_wp2
  go_ret
  exact ⟨by simp, rfl⟩
set_option maxHeartbeats 400000 in
theorem compare_any (a b : Int) (w : World) : Calls Try.prog 74 #[.int .u64 a, .int .u64 b] w fun e w' => e = .returned (.int .i64 (sgn a b)) ∧ w = w' := by
  go_enter Try.func74, Try.ntmps74
  go_wp2_with (go_at_call 75; refine (nan_any _ _).mono ?_; rintro e w' ⟨rfl, rfl⟩)
  all_goals
    go_ret
    refine ⟨?_, rfl⟩
    unfold sgn
    simp_all
    try omega
theorem ne_no {x : Int} (h : (x != 0) = false) : x = 0 := by simpa using h
def orZ (x y : Int) : Int := if x = 0 then y else x
set_option maxHeartbeats 400000 in
theorem or_any (x y : Int) (g : Nat) (w : World) (h0 : w.cell? ⟨g, 0, none⟩ = some (.int .i64 x)) (h1 : w.cell? ⟨g, 1, none⟩ = some (.int .i64 y)) :
    Calls Try.prog 73 #[.slice (some ⟨g, 0, none⟩) 2 2] w fun e w' => e = .returned (.int .i64 (orZ x y)) ∧ w = w' := by
  go_enter Try.func73, Try.ntmps73
  go_wp2
  go_loop [8] (fun i => ∃ k : Int, (k = 0 ∨ k = 1 ∧ Hid (x = 0) ∨ k = 2 ∧ Hid (x = 0) ∧ Hid (y = 0)) ∧ i = .int .i64 k) (fun i => 2 - (intOf i).toNat)
  case atStart => exact ⟨0, Or.inl rfl, rfl⟩
  case round =>
    obtain ⟨k, hk, rfl⟩ := hrel
    rcases hk with rfl | ⟨rfl, hx⟩ | ⟨rfl, hx, hy⟩
    · go_wp2
      · go_ret
        refine ⟨?_, rfl⟩
        have h : (x != 0) = true := by assumption
        unfold orZ; rw [if_neg (by simpa using h)]; rfl
      · go_round
        case rel => exact ⟨1, Or.inr (Or.inl ⟨rfl, Lib.hid (ne_no (by assumption))⟩), rfl⟩
        case measure => simp [intOf]
    · go_wp2
      · go_ret
        refine ⟨?_, rfl⟩
        unfold orZ; rw [if_pos hx.out]; rfl
      · go_round
        case rel => exact ⟨2, Or.inr (Or.inr ⟨rfl, hx, Lib.hid (ne_no (by assumption))⟩), rfl⟩
        case measure => simp [intOf]
    · go_wp2
      go_ret
      refine ⟨?_, rfl⟩
      unfold orZ; rw [if_pos hx.out, hy.out]; rfl
set_option maxHeartbeats 1000000 in
theorem cmp_any (a b c d : Int) (w : World) : Calls Try.prog 72 #[.agg #[.int .u64 a, .int .u64 b], .agg #[.int .u64 c, .int .u64 d]] w fun e w' => e = .returned (.int .i64 (orZ (sgn a c) (sgn b d))) ∧ Below w.heap.size w w' := by
  go_enter Try.func72, Try.ntmps72
  go_wp2_with fail
  go_region_held3 (fun w' => w'.cell? ⟨w.heap.size, 0, none⟩ = some (.int .u64 a) ∧ w'.cell? ⟨w.heap.size, 1, none⟩ = some (.int .u64 b) ∧ w'.cell? ⟨w.heap.size + 1, 0, none⟩ = some (.int .u64 c) ∧ w'.cell? ⟨w.heap.size + 1, 1, none⟩ = some (.int .u64 d)) (go_keep)
    (first | (go_at_call 74; refine (compare_any _ _ _).mono ?_; rintro e w' ⟨rfl, rfl⟩) | (go_at_call 73; refine (or_any (sgn a c) (sgn b d) _ _ ?_ ?_).mono ?_; (go_simp); (go_simp); rintro e w' ⟨rfl, rfl⟩))
  all_goals
    go_wp2
    go_ret
    exact ⟨rfl, ((((Below.refl _ _).alloc (Nat.le_refl _) _).alloc (by simp) _).alloc (by simp; omega) _).drew⟩
end Go.Proofs.Ytmednnpmkhgfpaa.GW
end
section
/- What the program's functions of package geom on products and turns answer, at points that may be. Worlds: nothing that was there has changed. -/
namespace Go.Proofs.Ytmednnpmkhgfpaa.GW
open Go Go.RowKit Go.Proofs.Ytmednnpmkhgfpaa.Wd Go.Proofs.Ytmednnpmkhgfpaa.Geo
attribute [local go_sem] max2_int min2_int max_two min_two max_three

/-- the size of a product -/
def absZ (a b : Int) : Int := max a (-a) * max b (-b)
theorem ret_b2 {r r' : Bool} {p q p' q' : Int} (hr : r = r') (hp : p = p') (hq : q = q') : Ending.returned (.agg #[.bool r, .int .u64 p, .int .u64 q]) = Ending.returned (.agg #[.bool r', .int .u64 p', .int .u64 q']) := by rw [hp, hq, hr]
theorem ret_int {k : IntKind} {a b : Int} (h : a = b) : Ending.returned (.int k a) = .returned (.int k b) := by rw [h]
theorem neg_mul_iff (a b : Int) : a * b < 0 ↔ (a < 0 ∧ 0 < b) ∨ (0 < a ∧ b < 0) := by
  constructor
  · intro h
    rcases Int.lt_trichotomy a 0 with ha | ha | ha <;> rcases Int.lt_trichotomy b 0 with hb | hb | hb
    · have := Int.mul_pos_of_neg_of_neg ha hb; omega
    · rw [hb] at h; simp at h
    · exact Or.inl ⟨ha, hb⟩
    · rw [ha] at h; simp at h
    · rw [ha] at h; simp at h
    · rw [ha] at h; simp at h
    · exact Or.inr ⟨ha, hb⟩
    · rw [hb] at h; simp at h
    · have := Int.mul_pos ha hb; omega
  · rintro (⟨ha, hb⟩ | ⟨ha, hb⟩)
    · exact Int.mul_neg_of_neg_of_pos ha hb
    · exact Int.mul_neg_of_pos_of_neg ha hb
set_option maxHeartbeats 1000000 in
theorem times_any (a b : Int) (w : World) (a0 : -4294967295 ≤ a) (a1 : a ≤ 4294967295) (b0 : -4294967295 ≤ b) (b1 : b ≤ 4294967295) :
    Calls Try.prog 68 #[.int .i64 a, .int .i64 b] w fun e w' => e = .returned (.agg #[.bool (decide (a * b < 0)), .int .u64 (hi (absZ a b)), .int .u64 (lo (absZ a b))]) ∧ Below w.heap.size w w' := by
  go_enter Try.func68, Try.ntmps68
  go_wp2_with (go_at_call 71; refine (mul_any _ _ _ (by omega) (by omega) (by omega) (by omega)).mono ?_; rintro e w1 ⟨rfl, hb⟩; obtain ⟨hc0, hc1, hf0, hf1, hn0, hn1, hm0, hm1, hl0, hl1, hz⟩ := bc2 (H := w.heap.size) hb (by simp))
  all_goals
    refine bodyPost_ret (v := .agg #[.bool _, .int .u64 _, .int .u64 _]) (by simp [results, Try.results68, go_sem, hc0]; exact ⟨rfl, rfl, rfl⟩) rfl ⟨ret_b2 ?_ ?_ ?_, ?_⟩
    · clear hc0 hc1 hf0 hf1 hz hb
      rw [Bool.eq_iff_iff, decide_eq_true_eq, neg_mul_iff]
      by_cases h1 : a < 0 <;> by_cases h2 : b < 0 <;> simp_all <;> omega
    · first | rfl | (simp_all [absZ]; done)
    · first | rfl | (simp_all [absZ]; done)
    · repeat (refine Below.setCell ?_ (by simp) _)
      exact below_then (below_new (below_new (Below.refl _ _) _) _) hb
set_option maxHeartbeats 400000 in
theorem between_any (a b c d : Int) (w : World) : Calls Try.prog 42 #[.agg #[.int .i64 a, .int .i64 b], .agg #[.int .i64 c, .int .i64 d]] w fun e w' => e = .returned (.agg #[.int .i64 (min a c), .int .i64 (min b d), .int .i64 (max a c), .int .i64 (max b d)]) ∧ Below w.heap.size w w' := by
  go_enter Try.func42, Try.ntmps42
  go_wp2
  refine bodyPost_ret (v := .agg #[_, _, _, _]) (by simp [results, Try.results42, go_sem]) rfl ⟨rfl, (((Below.refl _ _).alloc (Nat.le_refl _) _).alloc (by simp) _).alloc (by simp; omega) _⟩
set_option maxHeartbeats 400000 in
theorem within_any (px py a b c d : Int) (w : World) : Calls Try.prog 36 #[.agg #[.int .i64 px, .int .i64 py], .agg #[.int .i64 a, .int .i64 b, .int .i64 c, .int .i64 d]] w fun e w' => e = .returned (.bool (withinB px py a b c d)) ∧ Below w.heap.size w w' := by
  go_enter Try.func36, Try.ntmps36
  go_wp2_with (first | (go_at_call 29; refine (pointMay_any _ _ _).mono ?_; rintro e w1 ⟨rfl, hb⟩; obtain ⟨hc0, hc1, hf0, hf1, hn0, hn1, hm0, hm1, hl0, hl1, hz⟩ := bc2 (H := w.heap.size) hb (by simp)) | (go_at_call 34; refine (boxMay_any _ _ _ _ _).mono ?_; rintro e w2 ⟨rfl, hb2⟩; obtain ⟨hd0, hd1, hg0, hg1, hn0, hn1, hm0, hm1, hl0, hl1, hz2⟩ := bc2 (H := w.heap.size) hb2 hz))
  all_goals
    go_ret
    refine ⟨?_, ?_⟩
    · simp_all [withinB]
      try omega
    · first
        | exact below_then (below_then (below_new (below_new (Below.refl _ _) _) _) hb) hb2
        | exact below_then (below_new (below_new (Below.refl _ _) _) _) hb

theorem keeps {W w1 : World} {a : Addr} {v : Value} (hb : Below W.heap.size W w1) (h : W.cell? a = some v) : w1.cell? a = some v := by
  rw [hb.cell (p := a) ?_]; exact h
  rcases Nat.lt_or_ge a.block W.heap.size with h' | h'
  · exact h'
  · unfold World.cell? at h; rw [Array.getElem?_eq_none h'] at h; cases h
/-- which one of two products, each with its sign and its size's words, is more -/
def cmpP (m : Bool) (a b : Int) (n : Bool) (c d : Int) : Int :=
  match m, n with
  | true, true => orZ (sgn c a) (sgn d b)
  | true, false => -1
  | false, true => 1
  | false, false => orZ (sgn a c) (sgn b d)
set_option maxHeartbeats 1000000 in
theorem prodCmp_any (m n : Bool) (a b c d : Int) (w : World) : Calls Try.prog 69 #[.agg #[.bool m, .int .u64 a, .int .u64 b], .agg #[.bool n, .int .u64 c, .int .u64 d]] w fun e w' => e = .returned (.int .i64 (cmpP m a b n c d)) ∧ Below w.heap.size w w' := by
  cases m <;> cases n
  all_goals
    go_enter Try.func69, Try.ntmps69
    go_wp2_with (go_at_call 72; refine (cmp_any _ _ _ _ _).mono ?_; rintro e w1 ⟨rfl, hb⟩)
    go_ret
    refine ⟨rfl, ?_⟩
    first
      | exact below_then (below_new (below_new (Below.refl _ _) _) _) hb
      | exact below_new (below_new (Below.refl _ _) _) _

theorem mul_sg (m n : Int) : -9223372036854775808 ≤ sg m * sg n ∧ sg m * sg n ≤ 9223372036854775807 := by
  rcases sg_range m with h | h | h <;> rcases sg_range n with k | k | k <;> rw [h, k] <;> decide
theorem cmp_lex (x y : Int) : orZ (sgn (hi x) (hi y)) (sgn (lo x) (lo y)) = sg (x - y) := by
  unfold orZ sgn sg hi lo
  repeat' split
  all_goals omega
theorem absZ_eq (a b : Int) : absZ a b = if a * b < 0 then -(a * b) else a * b := by
  unfold absZ
  by_cases ha : 0 ≤ a <;> by_cases hb : 0 ≤ b
  · rw [Int.max_eq_left (by omega), Int.max_eq_left (by omega), if_neg (by have := Int.mul_nonneg ha hb; omega)]
  · rw [Int.max_eq_left (by omega), Int.max_eq_right (by omega), Int.mul_neg]
    split
    · rfl
    · have := Int.mul_nonpos_of_nonneg_of_nonpos ha (show b ≤ 0 by omega); omega
  · rw [Int.max_eq_right (by omega), Int.max_eq_left (by omega), Int.neg_mul]
    split
    · rfl
    · have := Int.mul_nonpos_of_nonpos_of_nonneg (show a ≤ 0 by omega) hb; omega
  · rw [Int.max_eq_right (by omega), Int.max_eq_right (by omega), Int.neg_mul_neg, if_neg (by have := Int.mul_pos_of_neg_of_neg (show a < 0 by omega) (show b < 0 by omega); omega)]
theorem cmp_prods (a b c d : Int) : cmpP (decide (a * b < 0)) (hi (absZ a b)) (lo (absZ a b)) (decide (c * d < 0)) (hi (absZ c d)) (lo (absZ c d)) = sg (a * b - c * d) := by
  rw [absZ_eq, absZ_eq]
  by_cases h1 : a * b < 0 <;> by_cases h2 : c * d < 0
  · rw [decide_eq_true h1, decide_eq_true h2, if_pos h1, if_pos h2]; show orZ _ _ = _; rw [cmp_lex]; congr 1; omega
  · rw [decide_eq_true h1, decide_eq_false h2, if_pos h1, if_neg h2]; show -1 = _; unfold sg; rw [if_pos (by omega)]
  · rw [decide_eq_false h1, decide_eq_true h2, if_neg h1, if_pos h2]; show 1 = _; unfold sg; rw [if_neg (by omega), if_pos (by omega)]
  · rw [decide_eq_false h1, decide_eq_false h2, if_neg h1, if_neg h2]; show orZ _ _ = _; rw [cmp_lex]

set_option maxHeartbeats 1000000 in
theorem turn_any (ax ay bx b_y cx cy : Int) (w : World) (ha : ptB ax ay = true) (hb : ptB bx b_y = true) (hc : ptB cx cy = true) :
    Calls Try.prog 64 #[.agg #[.int .i64 ax, .int .i64 ay], .agg #[.int .i64 bx, .int .i64 b_y], .agg #[.int .i64 cx, .int .i64 cy]] w fun e w' => e = .returned (.int .i64 (turnZ ax ay bx b_y cx cy)) ∧ Below w.heap.size w w' := by
  have h1 := cmp_prods (bx - ax) (cy - ay) (b_y - ay) (cx - ax)
  obtain ⟨⟨a0, a1⟩, a2, a3⟩ := ptB_iff.1 ha
  obtain ⟨⟨b0, b1⟩, b2, b3⟩ := ptB_iff.1 hb
  obtain ⟨⟨c0, c1⟩, c2, c3⟩ := ptB_iff.1 hc
  have H1 := Lib.hid h1
  clear ha hb hc h1
  have u1 : -4294967295 ≤ bx - ax := by omega
  have u2 : bx - ax ≤ 4294967295 := by omega
  have u3 : -4294967295 ≤ cy - ay := by omega
  have u4 : cy - ay ≤ 4294967295 := by omega
  have u5 : -4294967295 ≤ b_y - ay := by omega
  have u6 : b_y - ay ≤ 4294967295 := by omega
  have u7 : -4294967295 ≤ cx - ax := by omega
  have u8 : cx - ax ≤ 4294967295 := by omega
  clear a0 a1 a2 a3 b0 b1 b2 b3 c0 c1 c2 c3
  have e1 := IntWalk.i64_in (bx - ax) (by omega)
  have e2 := IntWalk.i64_in (cy - ay) (by omega)
  have e3 := IntWalk.i64_in (b_y - ay) (by omega)
  have e4 := IntWalk.i64_in (cx - ax) (by omega)
  go_enter Try.func64, Try.ntmps64
  go_wp2_with fail
  have hB0 : Below w.heap.size w (((w.alloc (.cells #[.int .i64 ax, .int .i64 ay] 23)).alloc (.cells #[.int .i64 bx, .int .i64 b_y] 23)).alloc (.cells #[.int .i64 cx, .int .i64 cy] 23)).drew := Below.drew (below_new (below_new (below_new (Below.refl _ _) _) _) _)
  go_region_held3 (fun w' => Below w.heap.size w w' ∧ w'.cell? ⟨w.heap.size, 0, none⟩ = some (.int .i64 ax) ∧ w'.cell? ⟨w.heap.size, 1, none⟩ = some (.int .i64 ay) ∧ w'.cell? ⟨w.heap.size + 1, 0, none⟩ = some (.int .i64 bx) ∧ w'.cell? ⟨w.heap.size + 1, 1, none⟩ = some (.int .i64 b_y) ∧ w'.cell? ⟨w.heap.size + 1 + 1, 0, none⟩ = some (.int .i64 cx) ∧ w'.cell? ⟨w.heap.size + 1 + 1, 1, none⟩ = some (.int .i64 cy))
    (first | (go_split_ands; refine ⟨below_then (by assumption) hb, keeps hb (by assumption), keeps hb (by assumption), keeps hb (by assumption), keeps hb (by assumption), keeps hb (by assumption), keeps hb (by assumption)⟩) | (refine ⟨hB0, ?_, ?_, ?_, ?_, ?_, ?_⟩ <;> go_simp))
    (first | (go_at_call 68; refine (times_any _ _ _ (by assumption) (by assumption) (by assumption) (by assumption)).mono ?_; rintro e w1 ⟨rfl, hb⟩) | (go_at_call 69; refine (prodCmp_any _ _ _ _ _ _ _).mono ?_; rintro e w1 ⟨rfl, hb⟩))
  all_goals
    clear e1 e2 e3 e4
    go_wp2
    go_ret
    exact ⟨by rw [show turnZ ax ay bx b_y cx cy = sg ((bx - ax) * (cy - ay) - (b_y - ay) * (cx - ax)) from rfl, ← H1.out]; rfl, And.left (by assumption : Below w.heap.size w _ ∧ _)⟩
end Go.Proofs.Ytmednnpmkhgfpaa.GW
end
section
/- What the program's functions of package geom on turns, stretches, boxes and distances answer. Worlds: nothing that was there has changed. -/
namespace Go.Proofs.Ytmednnpmkhgfpaa.GW
open Go Go.RowKit Go.Proofs.Ytmednnpmkhgfpaa.Wd Go.Proofs.Ytmednnpmkhgfpaa.Geo Go.Proofs.YtmednnpmkhgfpaaW.PrintLast
attribute [local go_sem] max2_int min2_int max_two min_two max_three

theorem not_no {b : Bool} (h : (!b) = false) : b = true := by simpa using h
def may3 (ax ay bx b_y cx cy : Int) : Bool := ptB ax ay && ptB bx b_y && ptB cx cy
def turnA (ax ay bx b_y cx cy : Int) : Int := if may3 ax ay bx b_y cx cy = true then turnZ ax ay bx b_y cx cy else 0
def turnE (ax ay bx b_y cx cy : Int) : Int := if may3 ax ay bx b_y cx cy = true then 0 else 300
set_option maxHeartbeats 1000000 in
theorem Turn_any (ax ay bx b_y cx cy : Int) (w : World) :
    Calls Try.prog 65 #[.agg #[.int .i64 ax, .int .i64 ay], .agg #[.int .i64 bx, .int .i64 b_y], .agg #[.int .i64 cx, .int .i64 cy]] w fun e w' => e = .returned (.tuple #[.int .i64 (turnA ax ay bx b_y cx cy), .int .i64 (turnE ax ay bx b_y cx cy)]) ∧ Below w.heap.size w w' := by
  go_enter Try.func65, Try.ntmps65
  go_wp2_with (first | (go_at_call 29; refine (pointMay_any _ _ _).mono ?_; rintro e w1 ⟨rfl, hb⟩; obtain ⟨hc0, hc1, hc2, hf0, hf1, hf2, hn0, hn1, hn2, hm0, hm1, hm2, hl0, hl1, hl2, hz⟩ := bc3 (H := w.heap.size) hb (by first | assumption | (simp; done) | (simp; omega)); have hB := below_then (w := w) (by first | assumption | exact below_new (by assumption) _ | exact below_new (below_new (by assumption) _) _ | exact below_new (below_new (below_new (by assumption) _) _) _ | exact below_new (below_new (below_new (below_new (by assumption) _) _) _) _ | exact below_new (below_new (below_new (Below.refl _ _) _) _) _) hb; clear hb) | (go_at_call 64; refine (turn_any _ _ _ _ _ _ _ (by first | assumption | exact not_no (by assumption)) (by first | assumption | exact not_no (by assumption)) (by first | assumption | exact not_no (by assumption))).mono ?_; rintro e w1 ⟨rfl, hb⟩; obtain ⟨hc0, hc1, hc2, hf0, hf1, hf2, hn0, hn1, hn2, hm0, hm1, hm2, hl0, hl1, hl2, hz⟩ := bc3 (H := w.heap.size) hb (by first | assumption | (simp; done) | (simp; omega)); have hB := below_then (w := w) (by first | assumption | exact below_new (by assumption) _ | exact below_new (below_new (by assumption) _) _ | exact below_new (below_new (below_new (by assumption) _) _) _ | exact below_new (below_new (below_new (below_new (by assumption) _) _) _) _ | exact below_new (below_new (below_new (Below.refl _ _) _) _) _) hb; clear hb))
  all_goals
    go_ret2
    refine ⟨?_, by assumption⟩
    clear hc0 hc1 hc2 hf0 hf1 hf2
    simp_all [turnA, turnE, may3]

set_option maxHeartbeats 1000000 in
theorem on_any (px py ax ay bx b_y : Int) (w : World) (hp : ptB px py = true) (ha : ptB ax ay = true) (hb' : ptB bx b_y = true) :
    Calls Try.prog 54 #[.agg #[.int .i64 px, .int .i64 py], .agg #[.int .i64 ax, .int .i64 ay], .agg #[.int .i64 bx, .int .i64 b_y]] w fun e w' => e = .returned (.bool (onB px py ax ay bx b_y)) ∧ Below w.heap.size w w' := by
  have HP := Lib.hid hp; have HA := Lib.hid ha; have HB := Lib.hid hb'
  clear hp ha hb'
  by_cases h0 : turnZ ax ay bx b_y px py = 0
  · have h1 : (turnZ ax ay bx b_y px py == 0) = true := by simpa using h0
    have H0 := Lib.hid h0; clear h0
    go_enter Try.func54, Try.ntmps54
    go_wp2_with fail
    have hB0 : Below w.heap.size w (((w.alloc (.cells #[.int .i64 px, .int .i64 py] 23)).alloc (.cells #[.int .i64 ax, .int .i64 ay] 23)).alloc (.cells #[.int .i64 bx, .int .i64 b_y] 23)).drew := Below.drew (below_new (below_new (below_new (Below.refl _ _) _) _) _)
    go_region_held3 (fun w' => Below w.heap.size w w' ∧ w'.cell? ⟨w.heap.size, 0, none⟩ = some (.int .i64 px) ∧ w'.cell? ⟨w.heap.size, 1, none⟩ = some (.int .i64 py) ∧ w'.cell? ⟨w.heap.size + 1, 0, none⟩ = some (.int .i64 ax) ∧ w'.cell? ⟨w.heap.size + 1, 1, none⟩ = some (.int .i64 ay) ∧ w'.cell? ⟨w.heap.size + 1 + 1, 0, none⟩ = some (.int .i64 bx) ∧ w'.cell? ⟨w.heap.size + 1 + 1, 1, none⟩ = some (.int .i64 b_y))
      (first | (go_split_ands; refine ⟨below_then (by assumption) hb, keeps hb (by assumption), keeps hb (by assumption), keeps hb (by assumption), keeps hb (by assumption), keeps hb (by assumption), keeps hb (by assumption)⟩) | (refine ⟨hB0, ?_, ?_, ?_, ?_, ?_, ?_⟩ <;> go_simp))
      (first | (go_at_call 64; refine (turn_any _ _ _ _ _ _ _ HA.out HB.out HP.out).mono ?_; rintro e w1 ⟨rfl, hb⟩) | (go_at_call 36; refine (within_any _ _ _ _ _ _ _).mono ?_; rintro e w1 ⟨rfl, hb⟩) | (go_at_call 42; refine (between_any _ _ _ _ _).mono ?_; rintro e w1 ⟨rfl, hb⟩))
    all_goals
      go_wp2
      go_ret
      exact ⟨by rw [show onB px py ax ay bx b_y = (decide (turnZ ax ay bx b_y px py = 0) && withinB px py (min ax bx) (min ay b_y) (max ax bx) (max ay b_y)) from rfl, decide_eq_true H0.out, Bool.true_and]; rfl, And.left (by assumption : Below w.heap.size w _ ∧ _)⟩
  · have h1 : (turnZ ax ay bx b_y px py == 0) = false := by simpa using h0
    have H0 := Lib.hid h0; clear h0
    go_enter Try.func54, Try.ntmps54
    go_wp2_with fail
    have hS : (fun w' => Below w.heap.size w w' ∧ w'.cell? ⟨w.heap.size, 0, none⟩ = some (.int .i64 px) ∧ w'.cell? ⟨w.heap.size, 1, none⟩ = some (.int .i64 py) ∧ w'.cell? ⟨w.heap.size + 1, 0, none⟩ = some (.int .i64 ax) ∧ w'.cell? ⟨w.heap.size + 1, 1, none⟩ = some (.int .i64 ay) ∧ w'.cell? ⟨w.heap.size + 1 + 1, 0, none⟩ = some (.int .i64 bx) ∧ w'.cell? ⟨w.heap.size + 1 + 1, 1, none⟩ = some (.int .i64 b_y)) (((w.alloc (.cells #[.int .i64 px, .int .i64 py] 23)).alloc (.cells #[.int .i64 ax, .int .i64 ay] 23)).alloc (.cells #[.int .i64 bx, .int .i64 b_y] 23)).drew := by
      refine ⟨Below.drew (below_new (below_new (below_new (Below.refl _ _) _) _) _), ?_, ?_, ?_, ?_, ?_, ?_⟩ <;> go_simp
    refine start_ (n := 13) (S := (fun w' => Below w.heap.size w w' ∧ w'.cell? ⟨w.heap.size, 0, none⟩ = some (.int .i64 px) ∧ w'.cell? ⟨w.heap.size, 1, none⟩ = some (.int .i64 py) ∧ w'.cell? ⟨w.heap.size + 1, 0, none⟩ = some (.int .i64 ax) ∧ w'.cell? ⟨w.heap.size + 1, 1, none⟩ = some (.int .i64 ay) ∧ w'.cell? ⟨w.heap.size + 1 + 1, 0, none⟩ = some (.int .i64 bx) ∧ w'.cell? ⟨w.heap.size + 1 + 1, 1, none⟩ = some (.int .i64 b_y))) (ds := []) #[false, false, false, false, false, false, false, false, false, false, false, false, false] (by kernel_rfl) rfl rfl hS (fun hHeld => ?_)
    refine take_ (i := 0) (N := (some 7)) (v := ?_) (a' := ?_) #[true, false, false, false, false, false, false, false, false, false, false, false, false] rfl rfl (by kernel_rfl) (fun _ _ _ h => h) (Or.inl ⟨by rfl, ?_⟩) hHeld ?_ ?_
    rotate_left
    · intro w' hS'; (try dsimp only at hS'); go_split_ands; go_simp
      all_goals with_reducible rfl
    rotate_left
    · simp only [Act.put, List.setIfInBounds_toArray, List.set_cons_zero, List.set_cons_succ]
      rfl
    refine take_ (i := 1) (N := (some 8)) (v := ?_) (a' := ?_) #[true, true, false, false, false, false, false, false, false, false, false, false, false] rfl rfl (by kernel_rfl) (fun _ _ _ h => h) (Or.inl ⟨by rfl, ?_⟩) hHeld ?_ ?_
    rotate_left
    · intro w' hS'; (try dsimp only at hS'); go_split_ands; go_simp
      all_goals with_reducible rfl
    rotate_left
    · simp only [Act.put, List.setIfInBounds_toArray, List.set_cons_zero, List.set_cons_succ]
      rfl
    refine take_ (i := 2) (N := (some 9)) (v := ?_) (a' := ?_) #[true, true, true, false, false, false, false, false, false, false, false, false, false] rfl rfl (by kernel_rfl) (fun _ _ _ h => h) (Or.inl ⟨by rfl, ?_⟩) hHeld ?_ ?_
    rotate_left
    · intro w' hS'; (try dsimp only at hS'); go_split_ands; go_simp
      all_goals with_reducible rfl
    rotate_left
    · simp only [Act.put, List.setIfInBounds_toArray, List.set_cons_zero, List.set_cons_succ]
      rfl
    refine one_ (i := 3) (N := (some 10)) #[true, true, true, true, false, false, false, false, false, false, false, false, false] rfl rfl (by kernel_rfl) (by decide) (fun K hK => ?_)
    refine goes_ Try.func64 (by kernel_rfl) rfl #[.agg #[.int .i64 ax, .int .i64 ay], .agg #[.int .i64 bx, .int .i64 b_y], .agg #[.int .i64 px, .int .i64 py]] (by rfl) rfl rfl (by first | rfl | (simp only [List.map_toArray, List.map_cons, List.map_nil]; rfl)) ?_
    refine (turn_any _ _ _ _ _ _ _ HA.out HB.out HP.out).mono ?_
    rintro e w1 ⟨rfl, hb⟩
    refine ⟨_, rfl, ?_⟩
    refine hK.out _ _ ⟨below_then hHeld.1 hb, keeps hb hHeld.2.1, keeps hb hHeld.2.2.1, keeps hb hHeld.2.2.2.1, keeps hb hHeld.2.2.2.2.1, keeps hb hHeld.2.2.2.2.2.1, keeps hb hHeld.2.2.2.2.2.2⟩ (fun hHeld => ?_)
    clear hK K
    refine norm_ (a' := ?_) ?_ ?_
    rotate_left
    · show Act.put _ (some 10) _ = _
      simp only [Act.put, List.setIfInBounds_toArray, List.set_cons_zero, List.set_cons_succ]
      rfl
    refine take_ (i := 4) (N := (some 11)) (v := ?_) (a' := ?_) #[true, true, true, true, true, false, false, false, false, false, false, false, false] rfl rfl (by kernel_rfl) (fun _ _ _ h => h) (Or.inl ⟨by rfl, ?_⟩) hHeld ?_ ?_
    rotate_left
    · intro w' hS'; (try dsimp only at hS'); go_split_ands; go_simp
      all_goals with_reducible rfl
    rotate_left
    · simp only [Act.put, List.setIfInBounds_toArray, List.set_cons_zero, List.set_cons_succ]
      rfl
    refine take_ (i := 5) (N := (some 12)) (v := ?_) (a' := ?_) #[true, true, true, true, true, true, false, false, false, false, false, false, false] rfl rfl (by kernel_rfl) (fun _ _ _ h => h) (Or.inl ⟨by rfl, ?_⟩) hHeld ?_ ?_
    rotate_left
    · intro w' hS'; (try dsimp only at hS'); go_split_ands; go_simp
      all_goals with_reducible rfl
    rotate_left
    · simp only [Act.put, List.setIfInBounds_toArray, List.set_cons_zero, List.set_cons_succ]
      rfl
    refine pure_ (i := 6) (N := (some 13)) (v := undef) (a' := ?_) #[true, true, true, true, true, true, true, false, false, false, false, false, false] rfl rfl (by kernel_rfl) (fun _ _ _ h => h) (Or.inr ⟨by rfl, rfl⟩) ?_ ?_
    rotate_left
    · simp only [Act.put, List.setIfInBounds_toArray, List.set_cons_zero, List.set_cons_succ]
      rfl
    refine pure_ (i := 7) (N := (some 14)) (v := undef) (a' := ?_) #[true, true, true, true, true, true, true, true, false, false, false, false, false] rfl rfl (by kernel_rfl) (fun _ _ _ h => h) (Or.inr ⟨by rfl, rfl⟩) ?_ ?_
    rotate_left
    · simp only [Act.put, List.setIfInBounds_toArray, List.set_cons_zero, List.set_cons_succ]
      rfl
    refine pure_ (i := 8) (N := (some 15)) (v := undef) (a' := ?_) #[true, true, true, true, true, true, true, true, true, false, false, false, false] rfl rfl (by kernel_rfl) (fun _ _ _ h => h) (Or.inr ⟨by rfl, rfl⟩) ?_ ?_
    rotate_left
    · simp only [Act.put, List.setIfInBounds_toArray, List.set_cons_zero, List.set_cons_succ]
      rfl
    refine pure_ (i := 9) (N := (some 16)) (v := undef) (a' := ?_) #[true, true, true, true, true, true, true, true, true, true, false, false, false] rfl rfl (by kernel_rfl) (fun _ _ _ h => h) (Or.inr ⟨by rfl, rfl⟩) ?_ ?_
    rotate_left
    · simp only [Act.put, List.setIfInBounds_toArray, List.set_cons_zero, List.set_cons_succ]
      rfl
    refine pure_ (i := 10) (N := (some 17)) (v := undef) (a' := ?_) #[true, true, true, true, true, true, true, true, true, true, true, false, false] rfl rfl (by kernel_rfl) (fun _ _ _ h => h) (Or.inr ⟨by rfl, rfl⟩) ?_ ?_
    rotate_left
    · simp only [Act.put, List.setIfInBounds_toArray, List.set_cons_zero, List.set_cons_succ]
      rfl
    refine take_ (i := 11) (N := (some 18)) (v := ?_) (a' := ?_) #[true, true, true, true, true, true, true, true, true, true, true, true, false] rfl rfl (by kernel_rfl) (fun _ _ _ h => h) (Or.inl ⟨by rfl, ?_⟩) hHeld ?_ ?_
    rotate_left
    · intro w' hS'; (try dsimp only at hS'); go_split_ands; go_simp
      all_goals with_reducible rfl
    rotate_left
    · simp only [Act.put, List.setIfInBounds_toArray, List.set_cons_zero, List.set_cons_succ]
      rfl
    refine take_ (i := 12) (N := (some 6)) (v := ?_) (a' := ?_) #[true, true, true, true, true, true, true, true, true, true, true, true, true] rfl rfl (by kernel_rfl) (fun _ _ _ h => h) (Or.inl ⟨by rfl, ?_⟩) hHeld ?_ ?_
    rotate_left
    · intro w' hS'; (try dsimp only at hS'); go_split_ands; go_simp
      all_goals with_reducible rfl
    rotate_left
    · simp only [Act.put, List.setIfInBounds_toArray, List.set_cons_zero, List.set_cons_succ]
      rfl
    refine done_ (by kernel_rfl) ?_
    go_wp2
    go_ret
    exact ⟨by rw [show onB px py ax ay bx b_y = (decide (turnZ ax ay bx b_y px py = 0) && withinB px py (min ax bx) (min ay b_y) (max ax bx) (max ay b_y)) from rfl, decide_eq_false H0.out, Bool.false_and]; rfl, hHeld.1⟩
def joinIs (a0 a1 a2 a3 b0 b1 b2 b3 : Int) : Bool := boxB a0 a1 a2 a3 && boxB b0 b1 b2 b3
def orZero (b : Bool) (x : Int) : Int := if b = true then x else 0
def orErr (b : Bool) (x : Int) : Int := if b = true then 0 else x
theorem ret_box_err {a b c d e a' b' c' d' e' : Int} (h0 : a = a') (h1 : b = b') (h2 : c = c') (h3 : d = d') (h4 : e = e') : Ending.returned (.tuple #[.agg #[.int .i64 a, .int .i64 b, .int .i64 c, .int .i64 d], .int .i64 e]) = Ending.returned (.tuple #[.agg #[.int .i64 a', .int .i64 b', .int .i64 c', .int .i64 d'], .int .i64 e']) := by rw [h0, h1, h2, h3, h4]
theorem ret_wide_err {a b e a' b' e' : Int} (h0 : a = a') (h1 : b = b') (h4 : e = e') : Ending.returned (.tuple #[.agg #[.int .u64 a, .int .u64 b], .int .i64 e]) = Ending.returned (.tuple #[.agg #[.int .u64 a', .int .u64 b'], .int .i64 e']) := by rw [h0, h1, h4]
set_option maxHeartbeats 1000000 in
theorem join_any (a0 a1 a2 a3 b0 b1 b2 b3 : Int) (w : World) :
    Calls Try.prog 43 #[.agg #[.int .i64 a0, .int .i64 a1, .int .i64 a2, .int .i64 a3], .agg #[.int .i64 b0, .int .i64 b1, .int .i64 b2, .int .i64 b3]] w fun e w' => e = .returned (.tuple #[.agg #[.int .i64 (orZero (joinIs a0 a1 a2 a3 b0 b1 b2 b3) (min a0 b0)), .int .i64 (orZero (joinIs a0 a1 a2 a3 b0 b1 b2 b3) (min a1 b1)), .int .i64 (orZero (joinIs a0 a1 a2 a3 b0 b1 b2 b3) (max a2 b2)), .int .i64 (orZero (joinIs a0 a1 a2 a3 b0 b1 b2 b3) (max a3 b3))], .int .i64 (orErr (joinIs a0 a1 a2 a3 b0 b1 b2 b3) 300)]) ∧ Below w.heap.size w w' := by
  go_enter Try.func43, Try.ntmps43
  go_wp2_with (first | (go_at_call 34; refine (boxMay_any _ _ _ _ _).mono ?_; rintro e w1 ⟨rfl, hb⟩; obtain ⟨hc0, hc1, hc2, hf0, hf1, hf2, hn0, hn1, hn2, hm0, hm1, hm2, hl0, hl1, hl2, hz⟩ := bc3 (H := w.heap.size) hb (by first | assumption | (simp; done) | (simp; omega)); have hB := below_then (w := w) (by first | assumption | exact below_new (by assumption) _ | exact below_new (below_new (by assumption) _) _ | exact below_new (below_new (below_new (by assumption) _) _) _ | exact below_new (below_new (below_new (below_new (by assumption) _) _) _) _ | exact below_new (below_new (below_new (Below.refl _ _) _) _) _) hb; clear hb))
  all_goals
    refine bodyPost_ret (v := .tuple #[.agg #[.int .i64 _, .int .i64 _, .int .i64 _, .int .i64 _], .int .i64 _]) (by simp [*, results, Try.results43, go_sem]; exact ⟨⟨rfl, rfl, rfl, rfl⟩, rfl⟩) rfl ⟨?_, ?_⟩
    · clear hc0 hc1 hc2 hf0 hf1 hf2
      apply ret_box_err <;> simp_all [orZero, orErr, joinIs]
    · repeat (refine Below.setCell ?_ (by simp; omega) _)
      assumption
def farIs (px py a b c d : Int) : Bool := ptB px py && boxB a b c d
end Go.Proofs.Ytmednnpmkhgfpaa.GW
end
section
/- What the program's function geom.Cross answers. Worlds: nothing that was there has changed. -/
namespace Go.Proofs.Ytmednnpmkhgfpaa.GW
open Go Go.RowKit Go.Proofs.Ytmednnpmkhgfpaa.Wd Go.Proofs.Ytmednnpmkhgfpaa.Geo Go.Proofs.YtmednnpmkhgfpaaW.PrintLast

def may4 (ax ay bx b_y cx cy dx dy : Int) : Bool := ptB ax ay && ptB bx b_y && ptB cx cy && ptB dx dy
def crossA (ax ay bx b_y cx cy dx dy : Int) : Bool := may4 ax ay bx b_y cx cy dx dy && crossB ax ay bx b_y cx cy dx dy
set_option maxHeartbeats 2000000 in
theorem cross_no (ax ay bx b_y cx cy dx dy : Int) (w : World) (h : may4 ax ay bx b_y cx cy dx dy = false) :
    Calls Try.prog 59 #[.agg #[.int .i64 ax, .int .i64 ay], .agg #[.int .i64 bx, .int .i64 b_y], .agg #[.int .i64 cx, .int .i64 cy], .agg #[.int .i64 dx, .int .i64 dy]] w fun e w' => e = .returned (.tuple #[.bool (crossA ax ay bx b_y cx cy dx dy), .int .i64 (orErr (may4 ax ay bx b_y cx cy dx dy) 300)]) ∧ Below w.heap.size w w' := by
  have H := Lib.hid h; clear h
  go_enter Try.func59, Try.ntmps59
  go_wp2_with (first | (go_at_call 29; refine (pointMay_any _ _ _).mono ?_; rintro e w1 ⟨rfl, hb⟩; obtain ⟨hc0, hc1, hc2, hc3, hf0, hf1, hf2, hf3, hn0, hn1, hn2, hn3, hm0, hm1, hm2, hm3, hl0, hl1, hl2, hl3, hz⟩ := bc4 (H := w.heap.size) hb (by first | assumption | (simp; done) | (simp; omega)); have hB := below_then (w := w) (by first | assumption | exact below_new (by assumption) _ | exact below_new (below_new (by assumption) _) _ | exact below_new (below_new (below_new (by assumption) _) _) _ | exact below_new (below_new (below_new (below_new (by assumption) _) _) _) _ | exact below_new (below_new (below_new (below_new (Below.refl _ _) _) _) _) _) hb; clear hb) | (go_at_call 54; exfalso; have h := H.out; simp_all [may4]; done))
  all_goals
    go_ret2
    refine ⟨?_, by assumption⟩
    unfold crossA
    rw [H.out]; rfl
set_option maxHeartbeats 4000000 in
theorem cross_yes (ax ay bx b_y cx cy dx dy : Int) (w : World) (ha : ptB ax ay = true) (hb' : ptB bx b_y = true) (hc : ptB cx cy = true) (hd : ptB dx dy = true) :
    Calls Try.prog 59 #[.agg #[.int .i64 ax, .int .i64 ay], .agg #[.int .i64 bx, .int .i64 b_y], .agg #[.int .i64 cx, .int .i64 cy], .agg #[.int .i64 dx, .int .i64 dy]] w fun e w' => e = .returned (.tuple #[.bool (crossB ax ay bx b_y cx cy dx dy), .int .i64 0]) ∧ Below w.heap.size w w' := by
  by_cases h1 : turnZ ax ay bx b_y cx cy * turnZ ax ay bx b_y dx dy < 0
  · have g1 := decide_eq_true h1
    go_enter Try.func59, Try.ntmps59
    go_wp2_with (first | (go_at_call 29; refine (pointMay_any _ _ _).mono ?_; rintro e w1 ⟨rfl, hb⟩; obtain ⟨hc0, hc1, hc2, hc3, hf0, hf1, hf2, hf3, hn0, hn1, hn2, hn3, hm0, hm1, hm2, hm3, hl0, hl1, hl2, hl3, hz⟩ := bc4 (H := w.heap.size) hb (by first | assumption | (simp; done) | (simp; omega)); have hB := below_then (w := w) (by first | assumption | exact below_new (by assumption) _ | exact below_new (below_new (by assumption) _) _ | exact below_new (below_new (below_new (by assumption) _) _) _ | exact below_new (below_new (below_new (below_new (by assumption) _) _) _) _ | exact below_new (below_new (below_new (below_new (Below.refl _ _) _) _) _) _) hb; clear hb) | (go_at_call 54; refine (on_any _ _ _ _ _ _ _ (by assumption) (by assumption) (by assumption)).mono ?_; rintro e w1 ⟨rfl, hb⟩; obtain ⟨hc0, hc1, hc2, hc3, hf0, hf1, hf2, hf3, hn0, hn1, hn2, hn3, hm0, hm1, hm2, hm3, hl0, hl1, hl2, hl3, hz⟩ := bc4 (H := w.heap.size) hb (by first | assumption | (simp; done) | (simp; omega)); have hB := below_then (w := w) (by first | assumption | exact below_new (by assumption) _ | exact below_new (below_new (by assumption) _) _ | exact below_new (below_new (below_new (by assumption) _) _) _ | exact below_new (below_new (below_new (below_new (by assumption) _) _) _) _ | exact below_new (below_new (below_new (below_new (Below.refl _ _) _) _) _) _) hb; clear hb))
    all_goals first
      | (go_ret2; refine ⟨?_, by assumption⟩; clear hc0 hc1 hc2 hc3 hf0 hf1 hf2 hf3; simp_all [crossB]; done)
      | skip
    have K1 := Lib.hid h1; clear h1
    have e1 : IntKind.i64.wrap (turnZ ax ay bx b_y cx cy * turnZ ax ay bx b_y dx dy) = turnZ ax ay bx b_y cx cy * turnZ ax ay bx b_y dx dy := IntWalk.i64_in _ (mul_sg _ _)
    have e2 : IntKind.i64.wrap (turnZ cx cy dx dy ax ay * turnZ cx cy dx dy bx b_y) = turnZ cx cy dx dy ax ay * turnZ cx cy dx dy bx b_y := IntWalk.i64_in _ (mul_sg _ _)
    go_region_held3 (fun w' => Below w.heap.size w w' ∧ w'.cell? ⟨w.heap.size, 0, none⟩ = some (.int .i64 ax) ∧ w'.cell? ⟨w.heap.size, 1, none⟩ = some (.int .i64 ay) ∧ w'.cell? ⟨w.heap.size + 1, 0, none⟩ = some (.int .i64 bx) ∧ w'.cell? ⟨w.heap.size + 1, 1, none⟩ = some (.int .i64 b_y) ∧ w'.cell? ⟨w.heap.size + 1 + 1, 0, none⟩ = some (.int .i64 cx) ∧ w'.cell? ⟨w.heap.size + 1 + 1, 1, none⟩ = some (.int .i64 cy) ∧ w'.cell? ⟨w.heap.size + 1 + 1 + 1, 0, none⟩ = some (.int .i64 dx) ∧ w'.cell? ⟨w.heap.size + 1 + 1 + 1, 1, none⟩ = some (.int .i64 dy))
      (first | (go_split_ands; refine ⟨below_then (by assumption) hb, keeps hb (by assumption), keeps hb (by assumption), keeps hb (by assumption), keeps hb (by assumption), keeps hb (by assumption), keeps hb (by assumption), keeps hb (by assumption), keeps hb (by assumption)⟩) | (refine ⟨Below.drew (by assumption), ?_, ?_, ?_, ?_, ?_, ?_, ?_, ?_⟩ <;> go_simp))
      (first | (go_at_call 64; refine (turn_any _ _ _ _ _ _ _ (by assumption) (by assumption) (by assumption)).mono ?_; rintro e w1 ⟨rfl, hb⟩))
    all_goals
      clear e1 e2
      go_wp2
      go_ret2
      refine ⟨?_, And.left (by assumption : Below w.heap.size w _ ∧ _)⟩
      have G1 := Lib.hid g1; clear g1
      have z : crossB ax ay bx b_y cx cy dx dy = (decide (turnZ ax ay bx b_y cx cy * turnZ ax ay bx b_y dx dy < 0) && decide (turnZ cx cy dx dy ax ay * turnZ cx cy dx dy bx b_y < 0)) := by
        have n1 : onB cx cy ax ay bx b_y = false := by first | assumption | (simpa using ‹¬ onB cx cy ax ay bx b_y = true›)
        have n2 : onB dx dy ax ay bx b_y = false := by first | assumption | (simpa using ‹¬ onB dx dy ax ay bx b_y = true›)
        have n3 : onB ax ay cx cy dx dy = false := by first | assumption | (simpa using ‹¬ onB ax ay cx cy dx dy = true›)
        have n4 : onB bx b_y cx cy dx dy = false := by first | assumption | (simpa using ‹¬ onB bx b_y cx cy dx dy = true›)
        unfold crossB
        rw [n1, n2, n3, n4]; rfl
      rw [z, G1.out]; rfl
  · have g1 := decide_eq_false h1
    go_enter Try.func59, Try.ntmps59
    go_wp2_with (first | (go_at_call 29; refine (pointMay_any _ _ _).mono ?_; rintro e w1 ⟨rfl, hb⟩; obtain ⟨hc0, hc1, hc2, hc3, hf0, hf1, hf2, hf3, hn0, hn1, hn2, hn3, hm0, hm1, hm2, hm3, hl0, hl1, hl2, hl3, hz⟩ := bc4 (H := w.heap.size) hb (by first | assumption | (simp; done) | (simp; omega)); have hB := below_then (w := w) (by first | assumption | exact below_new (by assumption) _ | exact below_new (below_new (by assumption) _) _ | exact below_new (below_new (below_new (by assumption) _) _) _ | exact below_new (below_new (below_new (below_new (by assumption) _) _) _) _ | exact below_new (below_new (below_new (below_new (Below.refl _ _) _) _) _) _) hb; clear hb) | (go_at_call 54; refine (on_any _ _ _ _ _ _ _ (by assumption) (by assumption) (by assumption)).mono ?_; rintro e w1 ⟨rfl, hb⟩; obtain ⟨hc0, hc1, hc2, hc3, hf0, hf1, hf2, hf3, hn0, hn1, hn2, hn3, hm0, hm1, hm2, hm3, hl0, hl1, hl2, hl3, hz⟩ := bc4 (H := w.heap.size) hb (by first | assumption | (simp; done) | (simp; omega)); have hB := below_then (w := w) (by first | assumption | exact below_new (by assumption) _ | exact below_new (below_new (by assumption) _) _ | exact below_new (below_new (below_new (by assumption) _) _) _ | exact below_new (below_new (below_new (below_new (by assumption) _) _) _) _ | exact below_new (below_new (below_new (below_new (Below.refl _ _) _) _) _) _) hb; clear hb))
    all_goals first
      | (go_ret2; refine ⟨?_, by assumption⟩; clear hc0 hc1 hc2 hc3 hf0 hf1 hf2 hf3; simp_all [crossB]; done)
      | skip
    have K1 := Lib.hid h1; clear h1
    have e1 : IntKind.i64.wrap (turnZ ax ay bx b_y cx cy * turnZ ax ay bx b_y dx dy) = turnZ ax ay bx b_y cx cy * turnZ ax ay bx b_y dx dy := IntWalk.i64_in _ (mul_sg _ _)
    have e2 : IntKind.i64.wrap (turnZ cx cy dx dy ax ay * turnZ cx cy dx dy bx b_y) = turnZ cx cy dx dy ax ay * turnZ cx cy dx dy bx b_y := IntWalk.i64_in _ (mul_sg _ _)
    have hS : (fun w' => Below w.heap.size w w' ∧ w'.cell? ⟨w.heap.size, 0, none⟩ = some (.int .i64 ax) ∧ w'.cell? ⟨w.heap.size, 1, none⟩ = some (.int .i64 ay) ∧ w'.cell? ⟨w.heap.size + 1, 0, none⟩ = some (.int .i64 bx) ∧ w'.cell? ⟨w.heap.size + 1, 1, none⟩ = some (.int .i64 b_y) ∧ w'.cell? ⟨w.heap.size + 1 + 1, 0, none⟩ = some (.int .i64 cx) ∧ w'.cell? ⟨w.heap.size + 1 + 1, 1, none⟩ = some (.int .i64 cy) ∧ w'.cell? ⟨w.heap.size + 1 + 1 + 1, 0, none⟩ = some (.int .i64 dx) ∧ w'.cell? ⟨w.heap.size + 1 + 1 + 1, 1, none⟩ = some (.int .i64 dy)) w1.drew := by
      refine ⟨Below.drew (by assumption), ?_, ?_, ?_, ?_, ?_, ?_, ?_, ?_⟩ <;> go_simp
    refine start_ (n := 24) (S := (fun w' => Below w.heap.size w w' ∧ w'.cell? ⟨w.heap.size, 0, none⟩ = some (.int .i64 ax) ∧ w'.cell? ⟨w.heap.size, 1, none⟩ = some (.int .i64 ay) ∧ w'.cell? ⟨w.heap.size + 1, 0, none⟩ = some (.int .i64 bx) ∧ w'.cell? ⟨w.heap.size + 1, 1, none⟩ = some (.int .i64 b_y) ∧ w'.cell? ⟨w.heap.size + 1 + 1, 0, none⟩ = some (.int .i64 cx) ∧ w'.cell? ⟨w.heap.size + 1 + 1, 1, none⟩ = some (.int .i64 cy) ∧ w'.cell? ⟨w.heap.size + 1 + 1 + 1, 0, none⟩ = some (.int .i64 dx) ∧ w'.cell? ⟨w.heap.size + 1 + 1 + 1, 1, none⟩ = some (.int .i64 dy))) (ds := []) #[false, false, false, false, false, false, false, false, false, false, false, false, false, false, false, false, false, false, false, false, false, false, false, false] (by kernel_rfl) rfl rfl hS (fun hHeld => ?_)
    refine take_ (i := 0) (N := (some 50)) (v := ?_) (a' := ?_) #[true, false, false, false, false, false, false, false, false, false, false, false, false, false, false, false, false, false, false, false, false, false, false, false] rfl rfl (by kernel_rfl) (fun _ _ _ h => h) (Or.inl ⟨by rfl, ?_⟩) hHeld ?_ ?_
    rotate_left
    · intro w' hS'; (try dsimp only at hS'); go_split_ands; go_simp
      all_goals with_reducible rfl
    rotate_left
    · simp only [Act.put, List.setIfInBounds_toArray, List.set_cons_zero, List.set_cons_succ]
      rfl
    refine take_ (i := 1) (N := (some 51)) (v := ?_) (a' := ?_) #[true, true, false, false, false, false, false, false, false, false, false, false, false, false, false, false, false, false, false, false, false, false, false, false] rfl rfl (by kernel_rfl) (fun _ _ _ h => h) (Or.inl ⟨by rfl, ?_⟩) hHeld ?_ ?_
    rotate_left
    · intro w' hS'; (try dsimp only at hS'); go_split_ands; go_simp
      all_goals with_reducible rfl
    rotate_left
    · simp only [Act.put, List.setIfInBounds_toArray, List.set_cons_zero, List.set_cons_succ]
      rfl
    refine take_ (i := 2) (N := (some 52)) (v := ?_) (a' := ?_) #[true, true, true, false, false, false, false, false, false, false, false, false, false, false, false, false, false, false, false, false, false, false, false, false] rfl rfl (by kernel_rfl) (fun _ _ _ h => h) (Or.inl ⟨by rfl, ?_⟩) hHeld ?_ ?_
    rotate_left
    · intro w' hS'; (try dsimp only at hS'); go_split_ands; go_simp
      all_goals with_reducible rfl
    rotate_left
    · simp only [Act.put, List.setIfInBounds_toArray, List.set_cons_zero, List.set_cons_succ]
      rfl
    refine take_ (i := 4) (N := (some 54)) (v := ?_) (a' := ?_) #[true, true, true, false, true, false, false, false, false, false, false, false, false, false, false, false, false, false, false, false, false, false, false, false] rfl rfl (by kernel_rfl) (fun _ _ _ h => h) (Or.inl ⟨by rfl, ?_⟩) hHeld ?_ ?_
    rotate_left
    · intro w' hS'; (try dsimp only at hS'); go_split_ands; go_simp
      all_goals with_reducible rfl
    rotate_left
    · simp only [Act.put, List.setIfInBounds_toArray, List.set_cons_zero, List.set_cons_succ]
      rfl
    refine take_ (i := 5) (N := (some 55)) (v := ?_) (a' := ?_) #[true, true, true, false, true, true, false, false, false, false, false, false, false, false, false, false, false, false, false, false, false, false, false, false] rfl rfl (by kernel_rfl) (fun _ _ _ h => h) (Or.inl ⟨by rfl, ?_⟩) hHeld ?_ ?_
    rotate_left
    · intro w' hS'; (try dsimp only at hS'); go_split_ands; go_simp
      all_goals with_reducible rfl
    rotate_left
    · simp only [Act.put, List.setIfInBounds_toArray, List.set_cons_zero, List.set_cons_succ]
      rfl
    refine take_ (i := 6) (N := (some 56)) (v := ?_) (a' := ?_) #[true, true, true, false, true, true, true, false, false, false, false, false, false, false, false, false, false, false, false, false, false, false, false, false] rfl rfl (by kernel_rfl) (fun _ _ _ h => h) (Or.inl ⟨by rfl, ?_⟩) hHeld ?_ ?_
    rotate_left
    · intro w' hS'; (try dsimp only at hS'); go_split_ands; go_simp
      all_goals with_reducible rfl
    rotate_left
    · simp only [Act.put, List.setIfInBounds_toArray, List.set_cons_zero, List.set_cons_succ]
      rfl
    refine one_ (i := 3) (N := (some 53)) #[true, true, true, true, true, true, true, false, false, false, false, false, false, false, false, false, false, false, false, false, false, false, false, false] rfl rfl (by kernel_rfl) (by decide) (fun K hK => ?_)
    refine goes_ Try.func64 (by kernel_rfl) rfl #[.agg #[.int .i64 ax, .int .i64 ay], .agg #[.int .i64 bx, .int .i64 b_y], .agg #[.int .i64 cx, .int .i64 cy]] (by rfl) rfl rfl (by first | rfl | (simp only [List.map_toArray, List.map_cons, List.map_nil]; rfl)) ?_
    refine (turn_any _ _ _ _ _ _ _ ha hb' hc).mono ?_
    rintro e w1 ⟨rfl, hb⟩
    refine ⟨_, rfl, ?_⟩
    refine hK.out _ _ ⟨below_then hHeld.1 hb, keeps hb hHeld.2.1, keeps hb hHeld.2.2.1, keeps hb hHeld.2.2.2.1, keeps hb hHeld.2.2.2.2.1, keeps hb hHeld.2.2.2.2.2.1, keeps hb hHeld.2.2.2.2.2.2.1, keeps hb hHeld.2.2.2.2.2.2.2.1, keeps hb hHeld.2.2.2.2.2.2.2.2⟩ (fun hHeld => ?_)
    clear hK K
    refine norm_ (a' := ?_) ?_ ?_
    rotate_left
    · show Act.put _ (some 53) _ = _
      simp only [Act.put, List.setIfInBounds_toArray, List.set_cons_zero, List.set_cons_succ]
      rfl
    refine one_ (i := 7) (N := (some 57)) #[true, true, true, true, true, true, true, true, false, false, false, false, false, false, false, false, false, false, false, false, false, false, false, false] rfl rfl (by kernel_rfl) (by decide) (fun K hK => ?_)
    refine goes_ Try.func64 (by kernel_rfl) rfl #[.agg #[.int .i64 ax, .int .i64 ay], .agg #[.int .i64 bx, .int .i64 b_y], .agg #[.int .i64 dx, .int .i64 dy]] (by rfl) rfl rfl (by first | rfl | (simp only [List.map_toArray, List.map_cons, List.map_nil]; rfl)) ?_
    refine (turn_any _ _ _ _ _ _ _ ha hb' hd).mono ?_
    rintro e w1 ⟨rfl, hb⟩
    refine ⟨_, rfl, ?_⟩
    refine hK.out _ _ ⟨below_then hHeld.1 hb, keeps hb hHeld.2.1, keeps hb hHeld.2.2.1, keeps hb hHeld.2.2.2.1, keeps hb hHeld.2.2.2.2.1, keeps hb hHeld.2.2.2.2.2.1, keeps hb hHeld.2.2.2.2.2.2.1, keeps hb hHeld.2.2.2.2.2.2.2.1, keeps hb hHeld.2.2.2.2.2.2.2.2⟩ (fun hHeld => ?_)
    clear hK K
    refine norm_ (a' := ?_) ?_ ?_
    rotate_left
    · show Act.put _ (some 57) _ = _
      simp only [Act.put, List.setIfInBounds_toArray, List.set_cons_zero, List.set_cons_succ]
      rfl
    refine take_ (i := 8) (N := (some 58)) (v := ?_) (a' := ?_) #[true, true, true, true, true, true, true, true, true, false, false, false, false, false, false, false, false, false, false, false, false, false, false, false] rfl rfl (by kernel_rfl) (fun _ _ _ h => h) (Or.inl ⟨by rfl, ?_⟩) hHeld ?_ ?_
    rotate_left
    · intro w' hS'; (try dsimp only at hS'); go_split_ands; go_simp
      all_goals with_reducible rfl
    rotate_left
    · simp only [Act.put, List.setIfInBounds_toArray, List.set_cons_zero, List.set_cons_succ]
      rfl
    refine take_ (i := 9) (N := (some 59)) (v := ?_) (a' := ?_) #[true, true, true, true, true, true, true, true, true, true, false, false, false, false, false, false, false, false, false, false, false, false, false, false] rfl rfl (by kernel_rfl) (fun _ _ _ h => h) (Or.inl ⟨by rfl, ?_⟩) hHeld ?_ ?_
    rotate_left
    · intro w' hS'; (try dsimp only at hS'); go_split_ands; go_simp
      all_goals with_reducible rfl
    rotate_left
    · simp only [Act.put, List.setIfInBounds_toArray, List.set_cons_zero, List.set_cons_succ]
      rfl
    refine take_ (i := 10) (N := (some 60)) (v := ?_) (a' := ?_) #[true, true, true, true, true, true, true, true, true, true, true, false, false, false, false, false, false, false, false, false, false, false, false, false] rfl rfl (by kernel_rfl) (fun _ _ _ h => h) (Or.inl ⟨by rfl, ?_⟩) hHeld ?_ ?_
    rotate_left
    · intro w' hS'; (try dsimp only at hS'); go_split_ands; go_simp
      all_goals with_reducible rfl
    rotate_left
    · simp only [Act.put, List.setIfInBounds_toArray, List.set_cons_zero, List.set_cons_succ]
      rfl
    refine pure_ (i := 11) (N := (some 61)) (v := undef) (a' := ?_) #[true, true, true, true, true, true, true, true, true, true, true, true, false, false, false, false, false, false, false, false, false, false, false, false] rfl rfl (by kernel_rfl) (fun _ _ _ h => h) (Or.inr ⟨by rfl, rfl⟩) ?_ ?_
    rotate_left
    · simp only [Act.put, List.setIfInBounds_toArray, List.set_cons_zero, List.set_cons_succ]
      rfl
    refine pure_ (i := 12) (N := (some 62)) (v := undef) (a' := ?_) #[true, true, true, true, true, true, true, true, true, true, true, true, true, false, false, false, false, false, false, false, false, false, false, false] rfl rfl (by kernel_rfl) (fun _ _ _ h => h) (Or.inr ⟨by rfl, rfl⟩) ?_ ?_
    rotate_left
    · simp only [Act.put, List.setIfInBounds_toArray, List.set_cons_zero, List.set_cons_succ]
      rfl
    refine pure_ (i := 13) (N := (some 63)) (v := undef) (a' := ?_) #[true, true, true, true, true, true, true, true, true, true, true, true, true, true, false, false, false, false, false, false, false, false, false, false] rfl rfl (by kernel_rfl) (fun _ _ _ h => h) (Or.inr ⟨by rfl, rfl⟩) ?_ ?_
    rotate_left
    · simp only [Act.put, List.setIfInBounds_toArray, List.set_cons_zero, List.set_cons_succ]
      rfl
    refine pure_ (i := 14) (N := (some 64)) (v := undef) (a' := ?_) #[true, true, true, true, true, true, true, true, true, true, true, true, true, true, true, false, false, false, false, false, false, false, false, false] rfl rfl (by kernel_rfl) (fun _ _ _ h => h) (Or.inr ⟨by rfl, rfl⟩) ?_ ?_
    rotate_left
    · simp only [Act.put, List.setIfInBounds_toArray, List.set_cons_zero, List.set_cons_succ]
      rfl
    refine pure_ (i := 15) (N := (some 65)) (v := undef) (a' := ?_) #[true, true, true, true, true, true, true, true, true, true, true, true, true, true, true, true, false, false, false, false, false, false, false, false] rfl rfl (by kernel_rfl) (fun _ _ _ h => h) (Or.inr ⟨by rfl, rfl⟩) ?_ ?_
    rotate_left
    · simp only [Act.put, List.setIfInBounds_toArray, List.set_cons_zero, List.set_cons_succ]
      rfl
    refine pure_ (i := 16) (N := (some 66)) (v := undef) (a' := ?_) #[true, true, true, true, true, true, true, true, true, true, true, true, true, true, true, true, true, false, false, false, false, false, false, false] rfl rfl (by kernel_rfl) (fun _ _ _ h => h) (Or.inr ⟨by rfl, rfl⟩) ?_ ?_
    rotate_left
    · simp only [Act.put, List.setIfInBounds_toArray, List.set_cons_zero, List.set_cons_succ]
      rfl
    refine pure_ (i := 17) (N := (some 67)) (v := undef) (a' := ?_) #[true, true, true, true, true, true, true, true, true, true, true, true, true, true, true, true, true, true, false, false, false, false, false, false] rfl rfl (by kernel_rfl) (fun _ _ _ h => h) (Or.inr ⟨by rfl, rfl⟩) ?_ ?_
    rotate_left
    · simp only [Act.put, List.setIfInBounds_toArray, List.set_cons_zero, List.set_cons_succ]
      rfl
    refine pure_ (i := 18) (N := (some 68)) (v := undef) (a' := ?_) #[true, true, true, true, true, true, true, true, true, true, true, true, true, true, true, true, true, true, true, false, false, false, false, false] rfl rfl (by kernel_rfl) (fun _ _ _ h => h) (Or.inr ⟨by rfl, rfl⟩) ?_ ?_
    rotate_left
    · simp only [Act.put, List.setIfInBounds_toArray, List.set_cons_zero, List.set_cons_succ]
      rfl
    refine pure_ (i := 19) (N := (some 69)) (v := undef) (a' := ?_) #[true, true, true, true, true, true, true, true, true, true, true, true, true, true, true, true, true, true, true, true, false, false, false, false] rfl rfl (by kernel_rfl) (fun _ _ _ h => h) (Or.inr ⟨by rfl, rfl⟩) ?_ ?_
    rotate_left
    · simp only [Act.put, List.setIfInBounds_toArray, List.set_cons_zero, List.set_cons_succ]
      rfl
    refine pure_ (i := 20) (N := (some 70)) (v := undef) (a' := ?_) #[true, true, true, true, true, true, true, true, true, true, true, true, true, true, true, true, true, true, true, true, true, false, false, false] rfl rfl (by kernel_rfl) (fun _ _ _ h => h) (Or.inr ⟨by rfl, rfl⟩) ?_ ?_
    rotate_left
    · simp only [Act.put, List.setIfInBounds_toArray, List.set_cons_zero, List.set_cons_succ]
      rfl
    refine take_ (i := 21) (N := (some 71)) (v := ?_) (a' := ?_) #[true, true, true, true, true, true, true, true, true, true, true, true, true, true, true, true, true, true, true, true, true, true, false, false] rfl rfl (by kernel_rfl) (fun _ _ _ h => h) (Or.inl ⟨by rfl, ?_⟩) hHeld ?_ ?_
    rotate_left
    · intro w' hS'; (try dsimp only at hS'); go_split_ands; go_simp
      all_goals with_reducible rfl
    rotate_left
    · simp only [Act.put, List.setIfInBounds_toArray, List.set_cons_zero, List.set_cons_succ]
      rfl
    refine take_ (i := 22) (N := (some 8)) (v := ?_) (a' := ?_) #[true, true, true, true, true, true, true, true, true, true, true, true, true, true, true, true, true, true, true, true, true, true, true, false] rfl rfl (by kernel_rfl) (fun _ _ _ h => h) (Or.inl ⟨by rfl, ?_⟩) hHeld ?_ ?_
    rotate_left
    · intro w' hS'; (try dsimp only at hS'); go_split_ands; go_simp
      all_goals with_reducible rfl
    rotate_left
    · simp only [Act.put, List.setIfInBounds_toArray, List.set_cons_zero, List.set_cons_succ]
      rfl
    refine take_ (i := 23) (N := (some 9)) (v := ?_) (a' := ?_) #[true, true, true, true, true, true, true, true, true, true, true, true, true, true, true, true, true, true, true, true, true, true, true, true] rfl rfl (by kernel_rfl) (fun _ _ _ h => h) (Or.inl ⟨by rfl, ?_⟩) hHeld ?_ ?_
    rotate_left
    · intro w' hS'; (try dsimp only at hS'); go_split_ands; go_simp
      all_goals with_reducible rfl
    rotate_left
    · simp only [Act.put, List.setIfInBounds_toArray, List.set_cons_zero, List.set_cons_succ]
      rfl
    refine done_ (by kernel_rfl) ?_
    clear e1 e2
    go_wp2
    go_ret2
    refine ⟨?_, hHeld.1⟩
    have G1 := Lib.hid g1; clear g1
    have z : crossB ax ay bx b_y cx cy dx dy = (decide (turnZ ax ay bx b_y cx cy * turnZ ax ay bx b_y dx dy < 0) && decide (turnZ cx cy dx dy ax ay * turnZ cx cy dx dy bx b_y < 0)) := by
      have n1 : onB cx cy ax ay bx b_y = false := by first | assumption | (simpa using ‹¬ onB cx cy ax ay bx b_y = true›)
      have n2 : onB dx dy ax ay bx b_y = false := by first | assumption | (simpa using ‹¬ onB dx dy ax ay bx b_y = true›)
      have n3 : onB ax ay cx cy dx dy = false := by first | assumption | (simpa using ‹¬ onB ax ay cx cy dx dy = true›)
      have n4 : onB bx b_y cx cy dx dy = false := by first | assumption | (simpa using ‹¬ onB bx b_y cx cy dx dy = true›)
      unfold crossB
      rw [n1, n2, n3, n4]; rfl
    rw [z, G1.out]; rfl
theorem cross_any (ax ay bx b_y cx cy dx dy : Int) (w : World) :
    Calls Try.prog 59 #[.agg #[.int .i64 ax, .int .i64 ay], .agg #[.int .i64 bx, .int .i64 b_y], .agg #[.int .i64 cx, .int .i64 cy], .agg #[.int .i64 dx, .int .i64 dy]] w fun e w' => e = .returned (.tuple #[.bool (crossA ax ay bx b_y cx cy dx dy), .int .i64 (orErr (may4 ax ay bx b_y cx cy dx dy) 300)]) ∧ Below w.heap.size w w' := by
  cases h : may4 ax ay bx b_y cx cy dx dy with
  | false => rw [← h]; exact cross_no ax ay bx b_y cx cy dx dy w h
  | true =>
    have h' := h
    simp only [may4, Bool.and_eq_true] at h'
    obtain ⟨⟨⟨ha, hb⟩, hc⟩, hd⟩ := h'
    have hx := cross_yes ax ay bx b_y cx cy dx dy w ha hb hc hd
    simpa [crossA, h, orErr] using hx
end Go.Proofs.Ytmednnpmkhgfpaa.GW
end
