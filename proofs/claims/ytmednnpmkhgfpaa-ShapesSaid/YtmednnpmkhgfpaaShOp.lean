/- How a feature that a statement is handed is read. Condition: it reads as data. -/
import Derived.Test.YtmednnpmkhgfpaaOpn
import Derived.Test.YtmednnpmkhgfpaaShA
import Derived.ChangeSame
import Derived.KernelRfl
namespace Go.Proofs.Ytmednnpmkhgfpaa.SH
open Go Go.RowKit Go.Proofs.YtmednnpmkhgfpaaW.PrintWords Go.Proofs.Ytmednnpmkhgfpaa.PShapes Go.Proofs.Ytmednnpmkhgfpaa.Opn
set_option linter.unusedVariables false

def kFt : Kd Ft := Kd.iso (Kd.pair (Kd.int .i64) (Kd.pair (Kd.int .i64) (Kd.slice 31 (Kd.slice 23 k23)))) (fun f : Ft => (f.id, f.shape, f.rings))
theorem kFt_open {w : World} {f : Ft} {cs : List Value} (h : kFt.K w f cs) : ∃ A c, cs = [.int .i64 f.id, .int .i64 f.shape, .slice A f.rings.length c] ∧ f.rings.length ≤ c ∧ RC w A f.rings := by
  obtain ⟨c1, c2, e, h1, h2⟩ := h
  obtain ⟨c3, c4, e2, h3, h4⟩ := h2
  obtain ⟨A, c, e4, hl, hc⟩ := h4
  have e1 : c1 = [.int .i64 f.id] := h1
  have e3 : c3 = [.int .i64 f.shape] := h3
  refine ⟨A, c, ?_, hl, hc⟩
  rw [e, e2, e1, e3, e4]
  rfl
instance : Inhabited S23 := ⟨z23⟩
set_option maxRecDepth 100000 in
theorem opens23 : Opens Try.prog 23 k23 (fun _ => True) :=
  opens_imp (opens_iso (ok' := fun _ => True) (fun x : S23 => (x.f0, x.f1)) (fun p => ⟨p.1, p.2⟩) (fun _ => rfl) (fun _ _ => trivial)
    (opens_struct Try.underlying23 (by kernel_rfl) (opensF_cons (opens_int Try.underlying3) rfl (by kernel_rfl) (opensF_one (opens_int Try.underlying3) rfl (by kernel_rfl))))) (fun _ _ => trivial)
theorem bytes23 : Try.prog.bytesOf 23 = 16 := by kernel_rfl
theorem bytes31 : Try.prog.bytesOf 31 = 24 := by kernel_rfl
/-- how long rows may be that lie in memory -/
def okR (l : List S23) : Prop := l.length * 16 ≤ 140737488351232
def okRs (l : List (List S23)) : Prop := (∀ r ∈ l, okR r) ∧ l.length * 24 ≤ 140737488351232
theorem opens31 : Opens Try.prog 31 (Kd.slice 23 k23) okR :=
  opens_imp (opens_slice Try.underlying31 (by kernel_rfl) opens23) (fun l h => by have := h.2; rw [bytes23] at this; exact this)
theorem opens25 : Opens Try.prog 25 (Kd.slice 31 (Kd.slice 23 k23)) okRs :=
  opens_imp (opens_slice Try.underlying25 (by kernel_rfl) opens31) (fun l h => ⟨h.1, by have := h.2; rw [bytes31] at this; exact this⟩)
set_option maxRecDepth 100000 in
theorem opensFt : Opens Try.prog 27 kFt (fun f => okRs f.rings) :=
  opens_iso (fun f : Ft => (f.id, f.shape, f.rings)) (fun p => ⟨p.1, p.2.1, p.2.2⟩) (fun _ => rfl) (fun _ h => h.2.2)
    (opens_struct Try.underlying27 (by kernel_rfl) (opensF_cons (opens_int Try.underlying3) rfl (by kernel_rfl) (opensF_cons (opens_int Try.underlying3) rfl (by kernel_rfl) (opensF_one opens25 rfl (by kernel_rfl)))))
end Go.Proofs.Ytmednnpmkhgfpaa.SH
