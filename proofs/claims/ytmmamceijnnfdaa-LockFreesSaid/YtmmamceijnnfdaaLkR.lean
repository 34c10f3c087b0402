/- How the statements on locks are handed their rows of ids and of acts. -/
import Derived.Test.YtmmamceijnnfdaaOpn
import Derived.Test.YtmmamceijnnfdaaLkK
namespace Go.Proofs.Ytmmamceijnnfdaa.LK
open Go Go.RowKit Go.Proofs.YtmmamceijnnfdaaW.PrintWords Go.Proofs.Ytmmamceijnnfdaa.PLockActs Go.Proofs.Ytmmamceijnnfdaa.Opn

theorem bytes3 : Try.prog.bytesOf 3 = 8 := by kernel_rfl
theorem opensInts : Opens Try.prog 31 (Kd.slice 3 (Kd.int .i64)) (fun l => (∀ v ∈ l, (Lit.int .i64 v).wf = true) ∧ l.length * 8 ≤ 140737488351232) :=
  opens_imp (opens_slice Try.underlying31 (by kernel_rfl) (opens_int Try.underlying3)) (fun l h => ⟨h.1, by have := h.2; rw [bytes3] at this; exact this⟩)
theorem frees_row (A0 A1 : Option Addr) (c0 c1 : Nat) (ids other : List Int) (w : World) (hI0 : Kd.C (Kd.int .i64) w A0 ids.length ids) (hI1 : Kd.C (Kd.int .i64) w A1 other.length other)
    (h0 : (∀ v ∈ ids, (Lit.int .i64 v).wf = true) ∧ ids.length * 8 ≤ 140737488351232) (h1 : (∀ v ∈ other, (Lit.int .i64 v).wf = true) ∧ other.length * 8 ≤ 140737488351232) :
    Calls Try.prog 5 #[.slice A0 ids.length c0, .slice A1 other.length c1] w fun e w' => e = .returned (.bool true) ∧ Below w.heap.size w w' :=
  frees_any A0 A1 c0 c1 ids other w hI0 hI1 h0.1 h1.1 h0.2 h1.2
end Go.Proofs.Ytmmamceijnnfdaa.LK
