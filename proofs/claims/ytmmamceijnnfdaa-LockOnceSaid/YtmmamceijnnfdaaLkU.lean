/- How the statements on locks are handed their row of acts. -/
import Derived.Test.YtmmamceijnnfdaaOpn
import Derived.Test.YtmmamceijnnfdaaLkS
namespace Go.Proofs.Ytmmamceijnnfdaa.LK
open Go Go.RowKit Go.Proofs.YtmmamceijnnfdaaW.PrintWords Go.Proofs.Ytmmamceijnnfdaa.PLockActs Go.Proofs.Ytmmamceijnnfdaa.Opn

theorem bytes3 : Try.prog.bytesOf 3 = 8 := by kernel_rfl
theorem opens31 : Opens Try.prog 31 (Kd.slice 3 (Kd.int .i64)) (fun l => (∀ v ∈ l, (Lit.int .i64 v).wf = true) ∧ l.length * 8 ≤ 140737488351232) :=
  opens_imp (opens_slice Try.underlying31 (by kernel_rfl) (opens_int Try.underlying3)) (fun l h => ⟨h.1, by have := h.2; rw [bytes3] at this; exact this⟩)
theorem opens30 : Opens Try.prog 30 k30 wfTx :=
  opens_iso (fun x : S30 => (x.f0, x.f1)) (fun p => ⟨p.1, p.2⟩) (fun _ => rfl) (fun _ h => h)
    (opens_struct Try.underlying30 (by kernel_rfl) (opensF_cons (opens_int Try.underlying3) rfl (by kernel_rfl) (opensF_one (opens_int Try.underlying3) rfl (by kernel_rfl))))
theorem opens33 : Opens Try.prog 33 kAct okAct :=
  opens_iso (fun x : Act => (x.kind, x.tx, x.ids, x.all)) (fun p => ⟨p.1, p.2.1, p.2.2.1, p.2.2.2⟩) (fun _ => rfl) (fun _ h => ⟨h.2.1, h.2.2.1.1, h.2.2.1.2⟩)
    (opens_struct Try.underlying33 (by kernel_rfl) (opensF_cons (opens_int Try.underlying3) rfl (by kernel_rfl) (opensF_cons opens30 rfl (by kernel_rfl) (opensF_cons opens31 rfl (by kernel_rfl) (opensF_one (opens_bool Try.underlying4) rfl (by kernel_rfl))))))
instance : Inhabited Act := ⟨zAct⟩
theorem opensActs : Opens Try.prog 22 (Kd.slice 33 kAct) (fun l => ∀ x ∈ l, okAct x) :=
  opens_imp (opens_slice Try.underlying22 (by kernel_rfl) opens33) (fun _ h => h.1)
end Go.Proofs.Ytmmamceijnnfdaa.LK
