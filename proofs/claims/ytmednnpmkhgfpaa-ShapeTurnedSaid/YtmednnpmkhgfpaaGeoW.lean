/- What the program's functions of packages wide and geom answer, called with any values (points that may be, where the code says so). Worlds: nothing that was there has changed. -/
import Derived.Test.YtmednnpmkhgfpaaProg
import Derived.Test.YtmednnpmkhgfpaaWd
import Derived.Test.YtmednnpmkhgfpaaGeo
import Derived.WalkKit
import Derived.Deep.QuietTactic
import Derived.BigQuiet
import Derived.Below
import Derived.Lib.Hide
import Derived.WalkLawsBesides
import Derived.WalkSpells
import Derived.Laws.ResultCell
import Derived.Deep.RegionHeld3
import Derived.Deep.DrawnRows
import Derived.Deep.LoopGhost
import Derived.KernelRfl
import Derived.Outline
namespace Go.Proofs.Ytmednnpmkhgfpaa.GW
open Go Go.RowKit Go.Proofs.Ytmednnpmkhgfpaa.Wd Go.Proofs.Ytmednnpmkhgfpaa.Geo

theorem max2_int (k k' : IntKind) (x y : Int) : Builtin.max2 (.int k x) (.int k' y) = pure (.int k (max x y)) := by
  simp only [Builtin.max2, gt_iff_lt, Int.max_def]
  by_cases h : x < y
  · rw [if_pos h, if_pos (by omega)]
  · rw [if_neg h]; by_cases e : x = y
    · rw [if_pos (by omega), e]
    · rw [if_neg (by omega)]
theorem min2_int (k k' : IntKind) (x y : Int) : Builtin.min2 (.int k x) (.int k' y) = pure (.int k (min x y)) := by
  simp only [Builtin.min2, Int.min_def]
  by_cases h : y < x
  · rw [if_pos h, if_neg (by omega)]
  · rw [if_neg h, if_pos (by omega)]
theorem min_two (ats : Array TypeId) (ty : TypeId) (a b : Value) : Builtin.min_ ats ty #[a, b] = (Builtin.min2 a b >>= fun s => pure s) := by simp only [Builtin.min_, List.foldlM_cons, List.foldlM_nil]
theorem max_two (ats : Array TypeId) (ty : TypeId) (a b : Value) : Builtin.max_ ats ty #[a, b] = (Builtin.max2 a b >>= fun s => pure s) := by simp only [Builtin.max_, List.foldlM_cons, List.foldlM_nil]
theorem max_three (ats : Array TypeId) (ty : TypeId) (a b c : Value) : Builtin.max_ ats ty #[a, b, c] = (Builtin.max2 a b >>= fun s => Builtin.max2 s c >>= fun s => pure s) := by simp only [Builtin.max_, List.foldlM_cons, List.foldlM_nil]
attribute [local go_sem] max2_int min2_int max_two min_two max_three

/-- what a call that only makes memory leaves as it was -/
theorem bcell {W w1 : World} (hb : Below W.heap.size W w1) : (∀ b o, b < W.heap.size → w1.cell? ⟨b, o, none⟩ = W.cell? ⟨b, o, none⟩) ∧ (∀ b o, b < W.heap.size → w1.frozen? ⟨b, o, none⟩ = W.frozen? ⟨b, o, none⟩) :=
  ⟨fun b o h => hb.cell (p := ⟨b, o, none⟩) h, fun b o h => hb.frozen (p := ⟨b, o, none⟩) h⟩

theorem bcell' {B : Nat} {W w1 : World} (hb : Below B W w1) : (∀ b o, b < B → w1.cell? ⟨b, o, none⟩ = W.cell? ⟨b, o, none⟩) ∧ (∀ b o, b < B → w1.frozen? ⟨b, o, none⟩ = W.frozen? ⟨b, o, none⟩) :=
  ⟨fun b o h => hb.cell (p := ⟨b, o, none⟩) h, fun b o h => hb.frozen (p := ⟨b, o, none⟩) h⟩
/-- n boxes of a call behind a further call that only makes memory: each reads as it did, each may be written as it might -/
theorem bc1 {H : Nat} {W w1 : World} (hb : Below W.heap.size W w1) (h : H + 1 ≤ W.heap.size) : (∀ o, w1.cell? ⟨H, o, none⟩ = W.cell? ⟨H, o, none⟩) ∧ (∀ o, w1.frozen? ⟨H, o, none⟩ = W.frozen? ⟨H, o, none⟩) ∧ H ≠ w1.heap.size ∧ w1.heap.size ≠ H ∧ H < w1.heap.size ∧ H + 1 ≤ w1.heap.size := by
  have hs : H + 1 ≤ w1.heap.size := Nat.le_trans h hb.size
  exact ⟨fun o => hb.cell (p := ⟨H, o, none⟩) (Nat.lt_of_lt_of_le (by show H < H + 1; omega) h), fun o => hb.frozen (p := ⟨H, o, none⟩) (Nat.lt_of_lt_of_le (by show H < H + 1; omega) h), by omega, by omega, by omega, hs⟩
theorem bc2 {H : Nat} {W w1 : World} (hb : Below W.heap.size W w1) (h : H + 1 + 1 ≤ W.heap.size) : (∀ o, w1.cell? ⟨H, o, none⟩ = W.cell? ⟨H, o, none⟩) ∧ (∀ o, w1.cell? ⟨H + 1, o, none⟩ = W.cell? ⟨H + 1, o, none⟩) ∧ (∀ o, w1.frozen? ⟨H, o, none⟩ = W.frozen? ⟨H, o, none⟩) ∧ (∀ o, w1.frozen? ⟨H + 1, o, none⟩ = W.frozen? ⟨H + 1, o, none⟩) ∧ H ≠ w1.heap.size ∧ H + 1 ≠ w1.heap.size ∧ w1.heap.size ≠ H ∧ w1.heap.size ≠ H + 1 ∧ H < w1.heap.size ∧ H + 1 < w1.heap.size ∧ H + 1 + 1 ≤ w1.heap.size := by
  have hs : H + 1 + 1 ≤ w1.heap.size := Nat.le_trans h hb.size
  exact ⟨fun o => hb.cell (p := ⟨H, o, none⟩) (Nat.lt_of_lt_of_le (by show H < H + 1 + 1; omega) h), fun o => hb.cell (p := ⟨H + 1, o, none⟩) (Nat.lt_of_lt_of_le (by show H + 1 < H + 1 + 1; omega) h), fun o => hb.frozen (p := ⟨H, o, none⟩) (Nat.lt_of_lt_of_le (by show H < H + 1 + 1; omega) h), fun o => hb.frozen (p := ⟨H + 1, o, none⟩) (Nat.lt_of_lt_of_le (by show H + 1 < H + 1 + 1; omega) h), by omega, by omega, by omega, by omega, by omega, by omega, hs⟩
theorem bc3 {H : Nat} {W w1 : World} (hb : Below W.heap.size W w1) (h : H + 1 + 1 + 1 ≤ W.heap.size) : (∀ o, w1.cell? ⟨H, o, none⟩ = W.cell? ⟨H, o, none⟩) ∧ (∀ o, w1.cell? ⟨H + 1, o, none⟩ = W.cell? ⟨H + 1, o, none⟩) ∧ (∀ o, w1.cell? ⟨H + 1 + 1, o, none⟩ = W.cell? ⟨H + 1 + 1, o, none⟩) ∧ (∀ o, w1.frozen? ⟨H, o, none⟩ = W.frozen? ⟨H, o, none⟩) ∧ (∀ o, w1.frozen? ⟨H + 1, o, none⟩ = W.frozen? ⟨H + 1, o, none⟩) ∧ (∀ o, w1.frozen? ⟨H + 1 + 1, o, none⟩ = W.frozen? ⟨H + 1 + 1, o, none⟩) ∧ H ≠ w1.heap.size ∧ H + 1 ≠ w1.heap.size ∧ H + 1 + 1 ≠ w1.heap.size ∧ w1.heap.size ≠ H ∧ w1.heap.size ≠ H + 1 ∧ w1.heap.size ≠ H + 1 + 1 ∧ H < w1.heap.size ∧ H + 1 < w1.heap.size ∧ H + 1 + 1 < w1.heap.size ∧ H + 1 + 1 + 1 ≤ w1.heap.size := by
  have hs : H + 1 + 1 + 1 ≤ w1.heap.size := Nat.le_trans h hb.size
  exact ⟨fun o => hb.cell (p := ⟨H, o, none⟩) (Nat.lt_of_lt_of_le (by show H < H + 1 + 1 + 1; omega) h), fun o => hb.cell (p := ⟨H + 1, o, none⟩) (Nat.lt_of_lt_of_le (by show H + 1 < H + 1 + 1 + 1; omega) h), fun o => hb.cell (p := ⟨H + 1 + 1, o, none⟩) (Nat.lt_of_lt_of_le (by show H + 1 + 1 < H + 1 + 1 + 1; omega) h), fun o => hb.frozen (p := ⟨H, o, none⟩) (Nat.lt_of_lt_of_le (by show H < H + 1 + 1 + 1; omega) h), fun o => hb.frozen (p := ⟨H + 1, o, none⟩) (Nat.lt_of_lt_of_le (by show H + 1 < H + 1 + 1 + 1; omega) h), fun o => hb.frozen (p := ⟨H + 1 + 1, o, none⟩) (Nat.lt_of_lt_of_le (by show H + 1 + 1 < H + 1 + 1 + 1; omega) h), by omega, by omega, by omega, by omega, by omega, by omega, by omega, by omega, by omega, hs⟩
theorem bc4 {H : Nat} {W w1 : World} (hb : Below W.heap.size W w1) (h : H + 1 + 1 + 1 + 1 ≤ W.heap.size) : (∀ o, w1.cell? ⟨H, o, none⟩ = W.cell? ⟨H, o, none⟩) ∧ (∀ o, w1.cell? ⟨H + 1, o, none⟩ = W.cell? ⟨H + 1, o, none⟩) ∧ (∀ o, w1.cell? ⟨H + 1 + 1, o, none⟩ = W.cell? ⟨H + 1 + 1, o, none⟩) ∧ (∀ o, w1.cell? ⟨H + 1 + 1 + 1, o, none⟩ = W.cell? ⟨H + 1 + 1 + 1, o, none⟩) ∧ (∀ o, w1.frozen? ⟨H, o, none⟩ = W.frozen? ⟨H, o, none⟩) ∧ (∀ o, w1.frozen? ⟨H + 1, o, none⟩ = W.frozen? ⟨H + 1, o, none⟩) ∧ (∀ o, w1.frozen? ⟨H + 1 + 1, o, none⟩ = W.frozen? ⟨H + 1 + 1, o, none⟩) ∧ (∀ o, w1.frozen? ⟨H + 1 + 1 + 1, o, none⟩ = W.frozen? ⟨H + 1 + 1 + 1, o, none⟩) ∧ H ≠ w1.heap.size ∧ H + 1 ≠ w1.heap.size ∧ H + 1 + 1 ≠ w1.heap.size ∧ H + 1 + 1 + 1 ≠ w1.heap.size ∧ w1.heap.size ≠ H ∧ w1.heap.size ≠ H + 1 ∧ w1.heap.size ≠ H + 1 + 1 ∧ w1.heap.size ≠ H + 1 + 1 + 1 ∧ H < w1.heap.size ∧ H + 1 < w1.heap.size ∧ H + 1 + 1 < w1.heap.size ∧ H + 1 + 1 + 1 < w1.heap.size ∧ H + 1 + 1 + 1 + 1 ≤ w1.heap.size := by
  have hs : H + 1 + 1 + 1 + 1 ≤ w1.heap.size := Nat.le_trans h hb.size
  exact ⟨fun o => hb.cell (p := ⟨H, o, none⟩) (Nat.lt_of_lt_of_le (by show H < H + 1 + 1 + 1 + 1; omega) h), fun o => hb.cell (p := ⟨H + 1, o, none⟩) (Nat.lt_of_lt_of_le (by show H + 1 < H + 1 + 1 + 1 + 1; omega) h), fun o => hb.cell (p := ⟨H + 1 + 1, o, none⟩) (Nat.lt_of_lt_of_le (by show H + 1 + 1 < H + 1 + 1 + 1 + 1; omega) h), fun o => hb.cell (p := ⟨H + 1 + 1 + 1, o, none⟩) (Nat.lt_of_lt_of_le (by show H + 1 + 1 + 1 < H + 1 + 1 + 1 + 1; omega) h), fun o => hb.frozen (p := ⟨H, o, none⟩) (Nat.lt_of_lt_of_le (by show H < H + 1 + 1 + 1 + 1; omega) h), fun o => hb.frozen (p := ⟨H + 1, o, none⟩) (Nat.lt_of_lt_of_le (by show H + 1 < H + 1 + 1 + 1 + 1; omega) h), fun o => hb.frozen (p := ⟨H + 1 + 1, o, none⟩) (Nat.lt_of_lt_of_le (by show H + 1 + 1 < H + 1 + 1 + 1 + 1; omega) h), fun o => hb.frozen (p := ⟨H + 1 + 1 + 1, o, none⟩) (Nat.lt_of_lt_of_le (by show H + 1 + 1 + 1 < H + 1 + 1 + 1 + 1; omega) h), by omega, by omega, by omega, by omega, by omega, by omega, by omega, by omega, by omega, by omega, by omega, by omega, hs⟩
theorem bc5 {H : Nat} {W w1 : World} (hb : Below W.heap.size W w1) (h : H + 1 + 1 + 1 + 1 + 1 ≤ W.heap.size) : (∀ o, w1.cell? ⟨H, o, none⟩ = W.cell? ⟨H, o, none⟩) ∧ (∀ o, w1.cell? ⟨H + 1, o, none⟩ = W.cell? ⟨H + 1, o, none⟩) ∧ (∀ o, w1.cell? ⟨H + 1 + 1, o, none⟩ = W.cell? ⟨H + 1 + 1, o, none⟩) ∧ (∀ o, w1.cell? ⟨H + 1 + 1 + 1, o, none⟩ = W.cell? ⟨H + 1 + 1 + 1, o, none⟩) ∧ (∀ o, w1.cell? ⟨H + 1 + 1 + 1 + 1, o, none⟩ = W.cell? ⟨H + 1 + 1 + 1 + 1, o, none⟩) ∧ (∀ o, w1.frozen? ⟨H, o, none⟩ = W.frozen? ⟨H, o, none⟩) ∧ (∀ o, w1.frozen? ⟨H + 1, o, none⟩ = W.frozen? ⟨H + 1, o, none⟩) ∧ (∀ o, w1.frozen? ⟨H + 1 + 1, o, none⟩ = W.frozen? ⟨H + 1 + 1, o, none⟩) ∧ (∀ o, w1.frozen? ⟨H + 1 + 1 + 1, o, none⟩ = W.frozen? ⟨H + 1 + 1 + 1, o, none⟩) ∧ (∀ o, w1.frozen? ⟨H + 1 + 1 + 1 + 1, o, none⟩ = W.frozen? ⟨H + 1 + 1 + 1 + 1, o, none⟩) ∧ H ≠ w1.heap.size ∧ H + 1 ≠ w1.heap.size ∧ H + 1 + 1 ≠ w1.heap.size ∧ H + 1 + 1 + 1 ≠ w1.heap.size ∧ H + 1 + 1 + 1 + 1 ≠ w1.heap.size ∧ w1.heap.size ≠ H ∧ w1.heap.size ≠ H + 1 ∧ w1.heap.size ≠ H + 1 + 1 ∧ w1.heap.size ≠ H + 1 + 1 + 1 ∧ w1.heap.size ≠ H + 1 + 1 + 1 + 1 ∧ H < w1.heap.size ∧ H + 1 < w1.heap.size ∧ H + 1 + 1 < w1.heap.size ∧ H + 1 + 1 + 1 < w1.heap.size ∧ H + 1 + 1 + 1 + 1 < w1.heap.size ∧ H + 1 + 1 + 1 + 1 + 1 ≤ w1.heap.size := by
  have hs : H + 1 + 1 + 1 + 1 + 1 ≤ w1.heap.size := Nat.le_trans h hb.size
  exact ⟨fun o => hb.cell (p := ⟨H, o, none⟩) (Nat.lt_of_lt_of_le (by show H < H + 1 + 1 + 1 + 1 + 1; omega) h), fun o => hb.cell (p := ⟨H + 1, o, none⟩) (Nat.lt_of_lt_of_le (by show H + 1 < H + 1 + 1 + 1 + 1 + 1; omega) h), fun o => hb.cell (p := ⟨H + 1 + 1, o, none⟩) (Nat.lt_of_lt_of_le (by show H + 1 + 1 < H + 1 + 1 + 1 + 1 + 1; omega) h), fun o => hb.cell (p := ⟨H + 1 + 1 + 1, o, none⟩) (Nat.lt_of_lt_of_le (by show H + 1 + 1 + 1 < H + 1 + 1 + 1 + 1 + 1; omega) h), fun o => hb.cell (p := ⟨H + 1 + 1 + 1 + 1, o, none⟩) (Nat.lt_of_lt_of_le (by show H + 1 + 1 + 1 + 1 < H + 1 + 1 + 1 + 1 + 1; omega) h), fun o => hb.frozen (p := ⟨H, o, none⟩) (Nat.lt_of_lt_of_le (by show H < H + 1 + 1 + 1 + 1 + 1; omega) h), fun o => hb.frozen (p := ⟨H + 1, o, none⟩) (Nat.lt_of_lt_of_le (by show H + 1 < H + 1 + 1 + 1 + 1 + 1; omega) h), fun o => hb.frozen (p := ⟨H + 1 + 1, o, none⟩) (Nat.lt_of_lt_of_le (by show H + 1 + 1 < H + 1 + 1 + 1 + 1 + 1; omega) h), fun o => hb.frozen (p := ⟨H + 1 + 1 + 1, o, none⟩) (Nat.lt_of_lt_of_le (by show H + 1 + 1 + 1 < H + 1 + 1 + 1 + 1 + 1; omega) h), fun o => hb.frozen (p := ⟨H + 1 + 1 + 1 + 1, o, none⟩) (Nat.lt_of_lt_of_le (by show H + 1 + 1 + 1 + 1 < H + 1 + 1 + 1 + 1 + 1; omega) h), by omega, by omega, by omega, by omega, by omega, by omega, by omega, by omega, by omega, by omega, by omega, by omega, by omega, by omega, by omega, hs⟩
theorem bc6 {H : Nat} {W w1 : World} (hb : Below W.heap.size W w1) (h : H + 1 + 1 + 1 + 1 + 1 + 1 ≤ W.heap.size) : (∀ o, w1.cell? ⟨H, o, none⟩ = W.cell? ⟨H, o, none⟩) ∧ (∀ o, w1.cell? ⟨H + 1, o, none⟩ = W.cell? ⟨H + 1, o, none⟩) ∧ (∀ o, w1.cell? ⟨H + 1 + 1, o, none⟩ = W.cell? ⟨H + 1 + 1, o, none⟩) ∧ (∀ o, w1.cell? ⟨H + 1 + 1 + 1, o, none⟩ = W.cell? ⟨H + 1 + 1 + 1, o, none⟩) ∧ (∀ o, w1.cell? ⟨H + 1 + 1 + 1 + 1, o, none⟩ = W.cell? ⟨H + 1 + 1 + 1 + 1, o, none⟩) ∧ (∀ o, w1.cell? ⟨H + 1 + 1 + 1 + 1 + 1, o, none⟩ = W.cell? ⟨H + 1 + 1 + 1 + 1 + 1, o, none⟩) ∧ (∀ o, w1.frozen? ⟨H, o, none⟩ = W.frozen? ⟨H, o, none⟩) ∧ (∀ o, w1.frozen? ⟨H + 1, o, none⟩ = W.frozen? ⟨H + 1, o, none⟩) ∧ (∀ o, w1.frozen? ⟨H + 1 + 1, o, none⟩ = W.frozen? ⟨H + 1 + 1, o, none⟩) ∧ (∀ o, w1.frozen? ⟨H + 1 + 1 + 1, o, none⟩ = W.frozen? ⟨H + 1 + 1 + 1, o, none⟩) ∧ (∀ o, w1.frozen? ⟨H + 1 + 1 + 1 + 1, o, none⟩ = W.frozen? ⟨H + 1 + 1 + 1 + 1, o, none⟩) ∧ (∀ o, w1.frozen? ⟨H + 1 + 1 + 1 + 1 + 1, o, none⟩ = W.frozen? ⟨H + 1 + 1 + 1 + 1 + 1, o, none⟩) ∧ H ≠ w1.heap.size ∧ H + 1 ≠ w1.heap.size ∧ H + 1 + 1 ≠ w1.heap.size ∧ H + 1 + 1 + 1 ≠ w1.heap.size ∧ H + 1 + 1 + 1 + 1 ≠ w1.heap.size ∧ H + 1 + 1 + 1 + 1 + 1 ≠ w1.heap.size ∧ w1.heap.size ≠ H ∧ w1.heap.size ≠ H + 1 ∧ w1.heap.size ≠ H + 1 + 1 ∧ w1.heap.size ≠ H + 1 + 1 + 1 ∧ w1.heap.size ≠ H + 1 + 1 + 1 + 1 ∧ w1.heap.size ≠ H + 1 + 1 + 1 + 1 + 1 ∧ H < w1.heap.size ∧ H + 1 < w1.heap.size ∧ H + 1 + 1 < w1.heap.size ∧ H + 1 + 1 + 1 < w1.heap.size ∧ H + 1 + 1 + 1 + 1 < w1.heap.size ∧ H + 1 + 1 + 1 + 1 + 1 < w1.heap.size ∧ H + 1 + 1 + 1 + 1 + 1 + 1 ≤ w1.heap.size := by
  have hs : H + 1 + 1 + 1 + 1 + 1 + 1 ≤ w1.heap.size := Nat.le_trans h hb.size
  exact ⟨fun o => hb.cell (p := ⟨H, o, none⟩) (Nat.lt_of_lt_of_le (by show H < H + 1 + 1 + 1 + 1 + 1 + 1; omega) h), fun o => hb.cell (p := ⟨H + 1, o, none⟩) (Nat.lt_of_lt_of_le (by show H + 1 < H + 1 + 1 + 1 + 1 + 1 + 1; omega) h), fun o => hb.cell (p := ⟨H + 1 + 1, o, none⟩) (Nat.lt_of_lt_of_le (by show H + 1 + 1 < H + 1 + 1 + 1 + 1 + 1 + 1; omega) h), fun o => hb.cell (p := ⟨H + 1 + 1 + 1, o, none⟩) (Nat.lt_of_lt_of_le (by show H + 1 + 1 + 1 < H + 1 + 1 + 1 + 1 + 1 + 1; omega) h), fun o => hb.cell (p := ⟨H + 1 + 1 + 1 + 1, o, none⟩) (Nat.lt_of_lt_of_le (by show H + 1 + 1 + 1 + 1 < H + 1 + 1 + 1 + 1 + 1 + 1; omega) h), fun o => hb.cell (p := ⟨H + 1 + 1 + 1 + 1 + 1, o, none⟩) (Nat.lt_of_lt_of_le (by show H + 1 + 1 + 1 + 1 + 1 < H + 1 + 1 + 1 + 1 + 1 + 1; omega) h), fun o => hb.frozen (p := ⟨H, o, none⟩) (Nat.lt_of_lt_of_le (by show H < H + 1 + 1 + 1 + 1 + 1 + 1; omega) h), fun o => hb.frozen (p := ⟨H + 1, o, none⟩) (Nat.lt_of_lt_of_le (by show H + 1 < H + 1 + 1 + 1 + 1 + 1 + 1; omega) h), fun o => hb.frozen (p := ⟨H + 1 + 1, o, none⟩) (Nat.lt_of_lt_of_le (by show H + 1 + 1 < H + 1 + 1 + 1 + 1 + 1 + 1; omega) h), fun o => hb.frozen (p := ⟨H + 1 + 1 + 1, o, none⟩) (Nat.lt_of_lt_of_le (by show H + 1 + 1 + 1 < H + 1 + 1 + 1 + 1 + 1 + 1; omega) h), fun o => hb.frozen (p := ⟨H + 1 + 1 + 1 + 1, o, none⟩) (Nat.lt_of_lt_of_le (by show H + 1 + 1 + 1 + 1 < H + 1 + 1 + 1 + 1 + 1 + 1; omega) h), fun o => hb.frozen (p := ⟨H + 1 + 1 + 1 + 1 + 1, o, none⟩) (Nat.lt_of_lt_of_le (by show H + 1 + 1 + 1 + 1 + 1 < H + 1 + 1 + 1 + 1 + 1 + 1; omega) h), by omega, by omega, by omega, by omega, by omega, by omega, by omega, by omega, by omega, by omega, by omega, by omega, by omega, by omega, by omega, by omega, by omega, by omega, hs⟩
theorem bcx {g : Nat} {W w1 : World} (hb : Below W.heap.size W w1) (h : g < W.heap.size) : (∀ o, w1.cell? ⟨g, o, none⟩ = W.cell? ⟨g, o, none⟩) ∧ g < w1.heap.size :=
  ⟨fun o => hb.cell (p := ⟨g, o, none⟩) h, Nat.lt_of_lt_of_le h hb.size⟩
theorem below_then {w W w1 : World} (h : Below w.heap.size w W) (hb : Below W.heap.size W w1) : Below w.heap.size w w1 := h.trans (hb.mono h.size)
theorem below_new {w W : World} (h : Below w.heap.size w W) (o : Obj) : Below w.heap.size w (W.alloc o) := h.alloc h.size o

set_option maxHeartbeats 400000 in
theorem coord_any (x : Int) (w : World) : Calls Try.prog 53 #[.int .i64 x] w fun e w' => e = .returned (.bool (coordB x)) ∧ w = w' := by
  by_cases h : x ≥ 0
  · go_enter Try.func53, Try.ntmps53
    go_wp2
    go_ret
    exact ⟨by simp [coordB]; omega, rfl⟩
  · go_enter Try.func53, Try.ntmps53
    go_wp2
    go_ret
    exact ⟨by simp [coordB]; omega, rfl⟩

set_option maxHeartbeats 400000 in
theorem pointMay_any (x y : Int) (w : World) : Calls Try.prog 29 #[.agg #[.int .i64 x, .int .i64 y]] w fun e w' => e = .returned (.bool (ptB x y)) ∧ Below w.heap.size w w' := by
  go_enter Try.func29, Try.ntmps29
  go_wp2_with (go_at_call 53; refine (coord_any _ _).mono ?_; rintro e w' ⟨rfl, rfl⟩)
  all_goals
    go_ret
    refine ⟨?_, (Below.refl _ _).alloc (Nat.le_refl _) _⟩
    simp_all [ptB]

set_option maxHeartbeats 400000 in
theorem boxMay_any (a b c d : Int) (w : World) : Calls Try.prog 34 #[.agg #[.int .i64 a, .int .i64 b, .int .i64 c, .int .i64 d]] w fun e w' => e = .returned (.bool (boxB a b c d)) ∧ Below w.heap.size w w' := by
  go_enter Try.func34, Try.ntmps34
  go_wp2_with (go_at_call 53; refine (coord_any _ _).mono ?_; rintro e w' ⟨rfl, rfl⟩)
  all_goals
    go_ret
    refine ⟨?_, (Below.refl _ _).alloc (Nat.le_refl _) _⟩
    simp_all [boxB]
    try omega

set_option maxHeartbeats 400000 in
theorem mul_any (a b : Int) (w : World) (a0 : 0 ≤ a) (a1 : a < 18446744073709551616) (b0 : 0 ≤ b) (b1 : b < 18446744073709551616) :
    Calls Try.prog 71 #[.int .u64 a, .int .u64 b] w fun e w' => e = .returned (.agg #[.int .u64 (hi (a * b)), .int .u64 (lo (a * b))]) ∧ Below w.heap.size w w' := by
  have h := mulHi a b a0 a1 b0 b1
  rw [← h.1, ← h.2]
  clear h a0 a1 b0 b1
  go_enter Try.func71, Try.ntmps71
  go_wp2
  refine bodyPost_ret (v := .agg #[_, _]) (by simp [results, Try.results71, go_sem]) rfl ⟨rfl, (Below.refl _ _).alloc (Nat.le_refl _) _⟩

theorem ret_wide_is {p q p' q' : Int} {r r' : Bool} (hp : p = p') (hq : q = q') (hr : r = r') : Ending.returned (.tuple #[.agg #[.int .u64 p, .int .u64 q], .bool r]) = Ending.returned (.tuple #[.agg #[.int .u64 p', .int .u64 q'], .bool r']) := by rw [hp, hq, hr]

/-- a sum's words, or zero where it has too many -/
def sumHi (x y : Int) : Int := if x + y < 340282366920938463463374607431768211456 then hi (x + y) else 0
def sumLo (x y : Int) : Int := if x + y < 340282366920938463463374607431768211456 then lo (x + y) else 0
def sumIs (x y : Int) : Bool := decide (x + y < 340282366920938463463374607431768211456)
/-- less, the same, more -/
def sgn (a b : Int) : Int := if a < b then -1 else if b < a then 1 else 0
set_option maxHeartbeats 400000 in
theorem nan_any (a : Int) (w : World) : Calls Try.prog 75 #[.int .u64 a] w fun e w' => e = .returned (.bool false) ∧ w = w' := by
  go_enter Try.func75, Try.ntmps75
  go_wp2
  go_ret
  exact ⟨by simp, rfl⟩
set_option maxHeartbeats 400000 in
theorem compare_any (a b : Int) (w : World) : Calls Try.prog 74 #[.int .u64 a, .int .u64 b] w fun e w' => e = .returned (.int .i64 (sgn a b)) ∧ w = w' := by
  go_enter Try.func74, Try.ntmps74
  go_wp2_with (go_at_call 75; refine (nan_any _ _).mono ?_; rintro e w' ⟨rfl, rfl⟩)
  all_goals
    go_ret
    refine ⟨?_, rfl⟩
    unfold sgn
    simp_all
    try omega
theorem ne_no {x : Int} (h : (x != 0) = false) : x = 0 := by simpa using h
def orZ (x y : Int) : Int := if x = 0 then y else x
set_option maxHeartbeats 400000 in
theorem or_any (x y : Int) (g : Nat) (w : World) (h0 : w.cell? ⟨g, 0, none⟩ = some (.int .i64 x)) (h1 : w.cell? ⟨g, 1, none⟩ = some (.int .i64 y)) :
    Calls Try.prog 73 #[.slice (some ⟨g, 0, none⟩) 2 2] w fun e w' => e = .returned (.int .i64 (orZ x y)) ∧ w = w' := by
  go_enter Try.func73, Try.ntmps73
  go_wp2
  go_loop [8] (fun i => ∃ k : Int, (k = 0 ∨ k = 1 ∧ Hid (x = 0) ∨ k = 2 ∧ Hid (x = 0) ∧ Hid (y = 0)) ∧ i = .int .i64 k) (fun i => 2 - (intOf i).toNat)
  case atStart => exact ⟨0, Or.inl rfl, rfl⟩
  case round =>
    obtain ⟨k, hk, rfl⟩ := hrel
    rcases hk with rfl | ⟨rfl, hx⟩ | ⟨rfl, hx, hy⟩
    · go_wp2
      · go_ret
        refine ⟨?_, rfl⟩
        have h : (x != 0) = true := by assumption
        unfold orZ; rw [if_neg (by simpa using h)]; rfl
      · go_round
        case rel => exact ⟨1, Or.inr (Or.inl ⟨rfl, Lib.hid (ne_no (by assumption))⟩), rfl⟩
        case measure => simp [intOf]
    · go_wp2
      · go_ret
        refine ⟨?_, rfl⟩
        unfold orZ; rw [if_pos hx.out]; rfl
      · go_round
        case rel => exact ⟨2, Or.inr (Or.inr ⟨rfl, hx, Lib.hid (ne_no (by assumption))⟩), rfl⟩
        case measure => simp [intOf]
    · go_wp2
      go_ret
      refine ⟨?_, rfl⟩
      unfold orZ; rw [if_pos hx.out, hy.out]; rfl
set_option maxHeartbeats 1000000 in
theorem cmp_any (a b c d : Int) (w : World) : Calls Try.prog 72 #[.agg #[.int .u64 a, .int .u64 b], .agg #[.int .u64 c, .int .u64 d]] w fun e w' => e = .returned (.int .i64 (orZ (sgn a c) (sgn b d))) ∧ Below w.heap.size w w' := by
  go_enter Try.func72, Try.ntmps72
  go_wp2_with fail
  go_region_held3 (fun w' => w'.cell? ⟨w.heap.size, 0, none⟩ = some (.int .u64 a) ∧ w'.cell? ⟨w.heap.size, 1, none⟩ = some (.int .u64 b) ∧ w'.cell? ⟨w.heap.size + 1, 0, none⟩ = some (.int .u64 c) ∧ w'.cell? ⟨w.heap.size + 1, 1, none⟩ = some (.int .u64 d)) (go_keep)
    (first | (go_at_call 74; refine (compare_any _ _ _).mono ?_; rintro e w' ⟨rfl, rfl⟩) | (go_at_call 73; refine (or_any (sgn a c) (sgn b d) _ _ ?_ ?_).mono ?_; (go_simp); (go_simp); rintro e w' ⟨rfl, rfl⟩))
  all_goals
    go_wp2
    go_ret
    exact ⟨rfl, ((((Below.refl _ _).alloc (Nat.le_refl _) _).alloc (by simp) _).alloc (by simp; omega) _).drew⟩
end Go.Proofs.Ytmednnpmkhgfpaa.GW
