/- How what a statement is handed is read: whole numbers, bools, structs and slices of such, to any depth, told as plain lists. -/
import Derived.Test.YtmednnpmkhgfpaaWWords
import Derived.Deep.Slices
import Derived.SizedLaws
namespace Go.Proofs.Ytmednnpmkhgfpaa.Opn
open Go Go.RowKit Go.Proofs.YtmednnpmkhgfpaaW.PrintWords
set_option linter.unusedVariables false

/-- Whatever reads as data of type t is told by the kind d, and is good. -/
def Opens {α : Type} (P : Program) (t : TypeId) (d : Kd α) (ok : α → Prop) : Prop :=
  ∀ {H : Type} (enc : TypeId × Value → H) (w : World) (base : Nat) (sp : Nat → Bool) (held : Bool) (fuel : Nat) (cs : List Value) (x : DataW H × List MemPlace),
    DataW.trod enc P w base sp held fuel t cs = some x → (∀ q ∈ DataW.weights P t x.1, q ≤ reachBytes) → ∃ v, d.K w v cs ∧ ok v
theorem opens_int {P : Program} {t : TypeId} {k : IntKind} (ht : P.underlying t = some (.int k)) : Opens P t (Kd.int k) (fun v => (Lit.int k v).wf = true) := by
  intro H enc w base sp held fuel cs x h _
  cases fuel with
  | zero => simp [DataW.trod] at h
  | succ fuel =>
    unfold DataW.trod at h
    rw [ht] at h
    match cs, h with
    | [.int k' n], h =>
      dsimp only at h
      split at h
      · rename_i hc
        obtain ⟨rfl, hw⟩ := hc
        exact ⟨n, rfl, hw⟩
      · cases h
theorem opens_bool {P : Program} {t : TypeId} (ht : P.underlying t = some .bool) : Opens P t Kd.bool (fun _ => True) := by
  intro H enc w base sp held fuel cs x h _
  cases fuel with
  | zero => simp [DataW.trod] at h
  | succ fuel =>
    unfold DataW.trod at h
    rw [ht] at h
    match cs, h with
    | [.bool b], h => exact ⟨b, rfl, trivial⟩
theorem weight_in {H : Type} {P : Program} {e : TypeId} : ∀ {l : List (DataW H)} {d : DataW H} {q : Nat}, d ∈ l → q ∈ DataW.weights P e d → q ∈ DataW.weightsAll P e l
  | [], _, _, h, _ => by cases h
  | x :: l, d, q, h, hq => by
    unfold DataW.weightsAll
    rcases List.mem_cons.1 h with rfl | h
    · exact List.mem_append_left _ hq
    · exact List.mem_append_right _ (weight_in h hq)
theorem opens_slice {α : Type} [Inhabited α] {P : Program} {t e : TypeId} {d : Kd α} {ok : α → Prop} (ht : P.underlying t = some (.slice e)) (hc : P.cellsOf e = d.sz) (ho : Opens P e d ok) :
    Opens P t (Kd.slice e d) (fun l => (∀ v ∈ l, ok v) ∧ l.length * P.bytesOf e ≤ reachBytes) := by
  intro H enc w base sp held fuel cs x h hw
  rcases Deep.open_slice ht h with ⟨rfl, rfl⟩ | ⟨a, len, cap, m, n, D, Pl, rfl, hb, hl, hm, hmm, rfl, hel⟩
  · exact ⟨[], ⟨none, 0, rfl, Nat.le_refl _, Kd.C_nil d w⟩, (fun v hv => by cases hv), (by simp)⟩
  · have hlm : len ≤ m := by rw [hmm]; split <;> omega
    have hw' : ∀ q ∈ (len + (m - len)) * P.bytesOf e :: (DataW.weightsAll P e ((List.range len).map D) ++ DataW.weightsAll P e ((List.range (m - len)).map fun j => D (len + j))), q ≤ reachBytes := by
      intro q hq
      refine hw q ?_
      simpa [DataW.weights, ht] using hq
    have hat : ∀ i, i < len → ∃ v : α, (∃ cs', cs'.length = d.sz ∧ d.K w v cs' ∧ ∀ j u, cs'[j]? = some u → w.cell? (a.add (i * d.sz + j)) = some u) ∧ ok v := by
      intro i hi
      obtain ⟨cs', h1, h2⟩ := hel i (by omega)
      obtain ⟨v, hv, hok⟩ := ho enc w base sp held n cs' _ h2 (fun q hq => hw' q (List.mem_cons_of_mem _ (List.mem_append_left _ (weight_in (List.mem_map.2 ⟨i, List.mem_range.2 hi, rfl⟩) hq))))
      obtain ⟨h3, h4, h5⟩ := World.cells?_some h1
      refine ⟨v, ⟨cs', h4.trans hc, hv, fun j u hu => ?_⟩, hok⟩
      have hj : j < P.cellsOf e := by
        have := (List.getElem?_eq_some_iff.1 hu).1
        omega
      have := h5 j hj
      rw [Deep.add_add, hu, hc] at this
      exact this
    obtain ⟨f, hf⟩ := Deep.choose_lt hat
    refine ⟨(List.range len).map f, ⟨some a, cap, by simp, by simpa using hl, ?_⟩, ?_, ?_⟩
    · refine ⟨by simp, ?_, fun _ => ⟨a, rfl, fun j p hj => ?_⟩⟩
      · have : maxLen = 9223372036854775807 := rfl
        simp
        omega
      · have hj' : j < len := by
          have := (List.getElem?_eq_some_iff.1 hj).1
          simpa using this
        have e1 : p = f j := by
          simp [hj'] at hj
          exact hj.symm
        subst e1
        exact (hf j hj').1
    · intro v hv
      obtain ⟨i, hi, rfl⟩ := List.mem_map.1 hv
      exact (hf i (List.mem_range.1 hi)).2
    · have := hw' _ (List.mem_cons_self ..)
      rw [List.length_map, List.length_range]
      exact Nat.le_trans (Nat.mul_le_mul_right _ (by omega)) this
/-- the fields from cell 'off' on -/
def OpensF {α : Type} (P : Program) (fs : List Field) (off : Nat) (d : Kd α) (ok : α → Prop) : Prop :=
  ∀ {H : Type} (enc : TypeId × Value → H) (w : World) (base : Nat) (sp : Nat → Bool) (held : Bool) (fuel : Nat) (cs : List Value) (xs : List (DataW H × List MemPlace)),
    (fs.mapM fun f => DataW.trod enc P w base sp held fuel f.type ((cs.drop f.offset).take (P.cellsOf f.type))) = some xs → (∀ q ∈ DataW.weightsEach P (fs.map (·.type)) (xs.map (·.1)), q ≤ reachBytes) → ∃ v, d.K w v ((cs.drop off).take d.sz) ∧ ok v
theorem opensF_one {α : Type} {P : Program} {f : Field} {off : Nat} {d : Kd α} {ok : α → Prop} (h : Opens P f.type d ok) (ho : f.offset = off) (hc : P.cellsOf f.type = d.sz) : OpensF P [f] off d ok := by
  intro H enc w base sp held fuel cs xs hx hw
  obtain ⟨x, h1, rfl⟩ : ∃ x, DataW.trod enc P w base sp held fuel f.type ((cs.drop f.offset).take (P.cellsOf f.type)) = some x ∧ xs = [x] := by
    simp [Option.bind_eq_some_iff] at hx
    obtain ⟨x1, x2, h1, h2⟩ := hx
    exact ⟨(x1, x2), h1, h2.symm⟩
  obtain ⟨v, hv, hk⟩ := h enc w base sp held fuel _ x h1 (fun q hq => hw q (by simpa [DataW.weightsEach] using hq))
  rw [ho, hc] at hv
  exact ⟨v, hv, hk⟩
theorem opensF_cons {α β : Type} {P : Program} {f : Field} {fs : List Field} {off : Nat} {d0 : Kd α} {d : Kd β} {ok0 : α → Prop} {ok : β → Prop} (h0 : Opens P f.type d0 ok0) (ho : f.offset = off) (hc : P.cellsOf f.type = d0.sz) (h : OpensF P fs (off + d0.sz) d ok) :
    OpensF P (f :: fs) off (Kd.pair d0 d) (fun v => ok0 v.1 ∧ ok v.2) := by
  intro H enc w base sp held fuel cs xs hx hw
  rw [List.mapM_cons] at hx
  simp only [Option.bind_eq_bind, Option.bind_eq_some_iff, Option.pure_def, Option.some.injEq] at hx
  obtain ⟨x, h1, ys, h2, rfl⟩ := hx
  obtain ⟨v0, hv0, hk0⟩ := h0 enc w base sp held fuel _ x h1 (fun q hq => hw q (by
    simp only [List.map_cons, DataW.weightsEach]
    exact List.mem_append_left _ hq))
  obtain ⟨v, hv, hk⟩ := h enc w base sp held fuel cs ys h2 (fun q hq => hw q (by
    simp only [List.map_cons, DataW.weightsEach]
    exact List.mem_append_right _ hq))
  rw [ho, hc] at hv0
  refine ⟨(v0, v), ⟨_, _, ?_, hv0, hv⟩, hk0, hk⟩
  show (cs.drop off).take (d0.sz + d.sz) = _
  rw [List.take_add, List.drop_drop]
theorem opens_struct {α : Type} {P : Program} {t : TypeId} {fs : Array Field} {d : Kd α} {ok : α → Prop} (ht : P.underlying t = some (.struct fs)) (hc : P.cellsOf t = d.sz) (h : OpensF P fs.toList 0 d ok) : Opens P t d ok := by
  intro H enc w base sp held fuel cs x hx hw
  cases fuel with
  | zero => simp [DataW.trod] at hx
  | succ fuel =>
    unfold DataW.trod at hx
    rw [ht] at hx
    dsimp only at hx
    split at hx
    · rename_i hl
      obtain ⟨xs, h1, rfl⟩ := Option.map_eq_some_iff.1 hx
      obtain ⟨v, hv, hk⟩ := h enc w base sp held fuel cs xs h1 (fun q hq => hw q (by simpa [DataW.weights, ht] using hq))
      rw [List.drop_zero, ← hc, ← hl, List.take_length] at hv
      exact ⟨v, hv, hk⟩
    · cases hx
theorem opens_iso {α β : Type} {P : Program} {t : TypeId} {d : Kd α} {ok : α → Prop} {ok' : β → Prop} (f : β → α) (g : α → β) (hfg : ∀ a, f (g a) = a) (hok : ∀ a, ok a → ok' (g a)) (h : Opens P t d ok) : Opens P t (Kd.iso d f) ok' := by
  intro H enc w base sp held fuel cs x hx hw
  obtain ⟨v, hv, hk⟩ := h enc w base sp held fuel cs x hx hw
  exact ⟨g v, by show d.K w (f (g v)) cs; rw [hfg]; exact hv, hok v hk⟩
theorem opens_imp {α : Type} {P : Program} {t : TypeId} {d : Kd α} {ok ok' : α → Prop} (h : Opens P t d ok) (hi : ∀ v, ok v → ok' v) : Opens P t d ok' := by
  intro H enc w base sp held fuel cs x hx hw
  obtain ⟨v, hv, hk⟩ := h enc w base sp held fuel cs x hx hw
  exact ⟨v, hv, hi v hk⟩
/-- An argument: what it reads as, with the row's own reach. -/
theorem opens_arg {α : Type} {P : Program} {t : TypeId} {d : Kd α} {ok : α → Prop} (h : Opens P t d ok) {H : Type} {enc : TypeId × Value → H} {w : World} {base : Nat} {sp : Nat → Bool} {held : Bool} {v : Value} {x : DataW H} {ps : List MemPlace}
    (ht : DataW.Trod enc P w base sp held t v x ps) {ts : List TypeId} {ds : List (DataW H)} {j : Nat} (hsz : (DataW.weightsEach P ts ds).all (· ≤ reachBytes) = true) (hj : ts[j]? = some t) (hd : ds[j]? = some x) : ∃ y, d.K w y v.cells.toList ∧ ok y := by
  obtain ⟨fuel, hf⟩ := ht
  refine h enc w base sp held fuel _ _ hf (fun q hq => ?_)
  have := List.all_eq_true.1 hsz q (DataW.weights_mem_each hj hd q hq)
  simpa using this
end Go.Proofs.Ytmednnpmkhgfpaa.Opn
