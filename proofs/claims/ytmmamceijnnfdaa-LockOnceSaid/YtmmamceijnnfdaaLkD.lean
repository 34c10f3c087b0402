/- What the program's table of locks answers: New, All, Holder. -/
import Derived.Test.YtmmamceijnnfdaaLkC
import Derived.Carry
namespace Go.Proofs.Ytmmamceijnnfdaa.LK
open Go Go.RowKit Go.Maps Go.Proofs.YtmmamceijnnfdaaW.PrintWords Go.Proofs.YtmmamceijnnfdaaW.PrintLast Go.Proofs.YtmmamceijnnfdaaW.PrintMore Go.Proofs.Ytmmamceijnnfdaa.PLockActs
set_option linter.unusedVariables false
set_option linter.unusedSimpArgs false
attribute [local go_sem high] eqA30

def tab0 : TabS := ⟨fun _ => none, none, []⟩
def NewIs (w : World) (e : Ending) (w' : World) : Prop := ∃ tb, e = .returned (.pointer (some ⟨tb, 0, none⟩)) ∧ Tab w' (fun k => w.heap.size ≤ k) tb 0 tab0 ∧ Below w.heap.size w w'
set_option maxHeartbeats 4000000 in
theorem new_any (w : World) : Calls Try.prog 6 #[] w (NewIs w) := by
  have hmm := @run_makeMap Try.prog
  go_enter Try.func6, Try.ntmps6
  go_wp2
  go_ret
  have h1 := World.ownsMap_made w Try.prog 3 txR
  have h2 := World.ownsMap_made (w.alloc (.map #[] 0)) Try.prog 30 (plainElem (H := Unit) Try.prog 4)
  rw [World.size_alloc] at h2
  refine ⟨_, rfl, ⟨w.heap.size, w.heap.size + 1, .slice none 0 0, .map [], (by show w.heap.size ≤ w.heap.size + 1 + 1; omega), Nat.le_refl _, Nat.le_succ _, by omega, ?_, (h1.alloc _).alloc _, isBy_none, (h2.alloc _).mono (by omega), fun t ht => (by cases ht), Kd.R_nil _ _ _ _ _⟩, below_alloc (below_alloc (below_alloc (Below.refl _ _) _) _) _⟩
  have := blk_new ((w.alloc (.map #[] 0)).alloc (.map #[] 0)) (.cells #[.map (some w.heap.size), .map (some (w.heap.size + 1)), .slice none 0 0] 52)
  rw [World.size_alloc, World.size_alloc] at this
  exact this
/-- .. on what is there: the cells of the table -/
def AllIs (w : World) (l : List S30) (e : Ending) (w' : World) : Prop := ∃ v, e = .returned v ∧ Kd.R k30 30 w' w.heap.size (fun _ => True) v l ∧ Below w.heap.size w w'
set_option maxHeartbeats 4000000 in
theorem tAll_any (tb N : Nat) (ok : Nat → Prop) (S : TabS) (w : World) (h : Tab w ok tb N S) (hl : S.row.length * 16 ≤ 140737488355328) :
    Calls Try.prog 17 #[.pointer (some ⟨tb, 0, none⟩)] w (AllIs w S.row) := by
  obtain ⟨mb, wb, v, D, h1, h2, h3, h4, h5, h6, h7, h8, h9, h10⟩ := h
  obtain ⟨A, c, rfl, hc, hC⟩ := Kd.R_reads h10
  have c2 : w.cell? ⟨tb, 2, none⟩ = some (.slice A S.row.length c) := (blk_cell h5 2).trans rfl
  have HC := Aside0.mk hC
  have Hc := Aside0.mk hc
  have HL := Aside0.mk hl
  clear h1 h2 h3 h4 h5 h6 h7 h8 h9 h10 hC hc hl
  go_enter Try.func17, Try.ntmps17
  go_wp2_with (go_at_call 27; refine (clone_any _ _ S.row _ HC.out Hc.out HL.out).mono ?_; rintro e w1 ⟨v1, rfl, ho, hb⟩; have HO := Aside0.mk ho; have HB := Aside0.mk hb; clear ho hb)
  go_ret
  exact ⟨_, rfl, HO.out, HB.out⟩

theorem lit3_inv (n : Nat) {a : Value} {l : List Lit} (h : Program.keyLits Try.prog (n + 1) 3 [a] = some l) : ∃ x, a = .int .i64 x ∧ (Lit.int .i64 x).wf = true ∧ l = [.int .i64 x] := by
  unfold Program.keyLits at h
  rw [Try.underlying3] at h
  cases a <;> simp at h
  obtain ⟨⟨rfl, hw⟩, rfl⟩ := h
  exact ⟨_, rfl, hw, rfl⟩
theorem lits30_inv (n : Nat) {a b : Value} {ls : List Lit} (h : Program.keyLits Try.prog (n + 2) 30 [a, b] = some ls) : ∃ t : S30, a = .int .i64 t.f0 ∧ b = .int .i64 t.f1 ∧ wfTx t ∧ ls = [.int .i64 t.f0, .int .i64 t.f1] := by
  rw [show n + 2 = (n + 1) + 1 from rfl] at h
  unfold Program.keyLits at h
  rw [Try.underlying30] at h
  simp only [cells30, cells3, List.length_cons, List.length_nil] at h
  simp [Option.bind_eq_some_iff] at h
  obtain ⟨la, ha, _, ⟨lb, hb, rfl⟩, hl⟩ := h
  rw [cells3] at ha hb
  obtain ⟨x, rfl, hx, rfl⟩ := lit3_inv n ha
  obtain ⟨y, rfl, hy, rfl⟩ := lit3_inv n hb
  exact ⟨⟨x, y⟩, rfl, rfl, ⟨hx, hy⟩, by simpa using hl.symm⟩
theorem txK_inv {v : Value} {l : Lit} (h : keyOf Try.prog 30 v = some l) : ∃ t : S30, v = .agg #[.int .i64 t.f0, .int .i64 t.f1] ∧ wfTx t ∧ l = txK t := by
  unfold keyOf at h
  rw [Try.underlying30] at h
  simp only [ktype30, Bool.true_and] at h
  split at h
  · rename_i hf
    cases v <;> simp [Value.formed, Try.underlying30, cells30] at hf
    rename_i xs
    obtain ⟨xs⟩ := xs
    match xs, hf with
    | [a, b], _ =>
      obtain ⟨ls, h1, rfl⟩ := Option.map_eq_some_iff.1 h
      rw [tsz] at h1
      obtain ⟨t, rfl, rfl, hw, rfl⟩ := lits30_inv 78 h1
      exact ⟨t, rfl, hw, rfl⟩
  · cases h
/-- who holds an id, as the table tells it -/
def holderOf (S : TabS) (id : Int) : S30 × Bool :=
  match S.whole with
  | some t => (t, true)
  | none => match S.by_ id with
    | some t => (t, true)
    | none => (z30, false)
def HolderIs (w : World) (r : S30 × Bool) (e : Ending) (w' : World) : Prop := e = .returned (.tuple #[.agg #[.int .i64 r.1.f0, .int .i64 r.1.f1], .bool r.2]) ∧ Below w.heap.size w w'

theorem bool_inv {v : Value} {y : DataW Unit × List MemPlace} (h : plainElem Try.prog 4 v = some y) : ∃ b, v = .bool b := by
  unfold plainElem at h
  rw [Try.underlying4] at h
  cases v <;> simp at h
  exact ⟨_, rfl⟩
theorem has_whole {o : Option S30} {kl : Lit} (h : Maps.has (wholeD o) kl = true) : ∃ t, o = some t ∧ kl = txK t := by
  cases o with
  | none => cases h
  | some t =>
    refine ⟨t, rfl, ?_⟩
    have h1 : (txK t).sameKey kl = true := by simpa [wholeD, Maps.has] using h
    exact (WideAt.sameKey_eq h1).symm
theorem atKey_none {D : DataW Unit} {k : Lit} (hD : IsMap D) (h : Maps.has D k = false) (z : DataW Unit) : D.atKey k z = z := by
  obtain ⟨es, rfl⟩ := hD
  have h1 : es.find? (fun p => p.1.sameKey k) = none := by
    rw [List.find?_eq_none]
    intro p hp
    have := List.any_eq_false.1 h p hp
    simpa using this
  simp [DataW.atKey, h1]
theorem holder_by {S : TabS} {D : DataW Unit} {id x y : Int} (h : IsBy D S.by_) (hid : (Lit.int .i64 id).wf = true) (hw : S.whole = none) (hat : D.atKey (.int .i64 id) (txD ⟨0, 0⟩) = txD ⟨x, y⟩) : holderOf S id = (⟨x, y⟩, Maps.has D (.int .i64 id)) := by
  obtain ⟨h1, h2⟩ := h.2 id hid
  unfold holderOf
  rw [hw]
  cases e : S.by_ id with
  | none =>
    rw [e] at h1
    have h3 : Maps.has D (.int .i64 id) = false := h1
    rw [atKey_none h.1 h3] at hat
    rw [h3, ← txD_inj hat]
    rfl
  | some t =>
    rw [e] at h1
    rw [h2 t e] at hat
    rw [show Maps.has D (.int .i64 id) = true from h1, ← txD_inj hat]
section
variable {P : Program} (w : World) {ops : Array Oper} {rest : List Oper} {o : Oper} {a : Act} {Q : Exit → Act → World → Prop}
/-- 'for tx := range t.whole': the step. -/
theorem wpList_next_whole (hg : o.guard = none) (it : Operand) (hop : o.op = Op.next it false)
    (b r n : Nat) (wh : Option S30) (hit : a.eval it = .pointer (some ⟨r, 0, none⟩)) (hwf : ∀ t, wh = some t → wfTx t) (h : w.ranges Try.prog 30 (plainElem Try.prog 4) b r n (wholeD wh) (Maps.has (wholeD wh)) (Maps.size (wholeD wh)))
    (hDone : wh = none → wpList Try.prog ops Q rest (a.put o.dst (.tuple #[.bool false])) w)
    (hMore : ∀ (t : S30) (c : Value) (w' : World), wh = some t → w.grownBy w' (some r) → w'.heap.size = w.heap.size → (Instr.entry (.pointer (some ⟨r, 0, none⟩))).run Try.prog w' = .ok (.tuple #[.agg #[.int .i64 t.f0, .int .i64 t.f1], c]) w' → wpList Try.prog ops Q rest (a.put o.dst (.tuple #[.bool true, .agg #[.int .i64 t.f0, .int .i64 t.f1], c])) w') :
    wpList Try.prog ops Q (o :: rest) a w :=
  wpList_next_ranges w hg it hop 30 keyed30 (plainElem Try.prog 4) (fun t : S30 => .agg #[.int .i64 t.f0, .int .i64 t.f1]) Value.bool (fun key kl hkey => by obtain ⟨t, rfl, _⟩ := txK_inv hkey; exact ⟨t, rfl⟩) (fun v y hv => bool_inv hv)
    b r n (wholeD wh) (Maps.has (wholeD wh)) (Maps.size (wholeD wh)) hit h
    (fun h0 _ => hDone (by cases wh with | none => rfl | some t => cases h0))
    (fun x c kl y w' cnt' hkey hlk hv hat hrg hlt hgr hsz hen => by
      obtain ⟨t, rfl, rfl⟩ := has_whole hlk
      have := keyed30.inj hkey (txK_is (hwf t rfl))
      simp only [Value.agg.injEq, Array.mk.injEq, List.cons.injEq, Value.int.injEq, true_and, and_true] at this
      have e : x = t := by cases x; cases t; simp_all
      subst e
      exact hMore x (.bool c) w' rfl hgr hsz hen)
end
set_option maxHeartbeats 4000000 in
set_option maxRecDepth 100000 in
theorem tHolder_any (tb N : Nat) (ok : Nat → Prop) (S : TabS) (id : Int) (w : World) (h : Tab w ok tb N S) (hid : (Lit.int .i64 id).wf = true) :
    Calls Try.prog 14 #[.pointer (some ⟨tb, 0, none⟩), .int .i64 id] w (HolderIs w (holderOf S id)) := by
  obtain ⟨mb, wb, v, D, h1, h2, h3, h4, h5, h6, h7, h8, h9, h10⟩ := h
  have c0 : w.cell? ⟨tb, 0, none⟩ = some (.map (some mb)) := (blk_cell h5 0).trans rfl
  have c1 : w.cell? ⟨tb, 1, none⟩ = some (.map (some wb)) := (blk_cell h5 1).trans rfl
  have htl := blk_lt h5
  have hn : tb ≠ w.heap.size := Nat.ne_of_lt htl
  have hn' : w.heap.size ≠ tb := Ne.symm hn
  have H6 := Aside0.mk h6
  have H7 := Aside0.mk h7
  have H8 := Aside0.mk h8
  have H9 := Aside0.mk h9
  have H5 := Aside0.mk h5
  clear h1 h2 h3 h4 h5 h6 h7 h8 h9 h10
  go_enter Try.func14, Try.ntmps14
  go_wp2_with (first
    | (at_range; refine wpList_range_own _ rfl _ 50 rfl 30 4 keyed30 Try.underlying50 _ wb 1 _ rfl (H8.out.alloc _) ?_; intro w0 hrg0 hg0 hs0)
    | go_in)
  go_frame
  rw [World.size_alloc] at hrg0 hs0 ⊢
  have HB0 := Aside0.mk (below_then (below_alloc (Below.refl _ _) _) (by simp) (show Below (w.alloc (.cells #[.int .i64 0, .int .i64 0] 30)).heap.size _ w0 from ⟨hg0.os, hg0.tape, hg0.output, hg0.size, fun k hk => hg0.block k hk (by simp)⟩) : Below w.heap.size w w0)
  have HR0 := Aside0.mk (blk_grown (blk_new w (.cells #[.int .i64 0, .int .i64 0] 30)) hg0 (by simp))
  have HT0 := Aside0.mk ((HB0.out.block tb htl).trans H5.out)
  have HM0 := Aside0.mk (ownsMap_step H6.out (HB0.out.block mb H6.out.lt))
  have HRg := Aside0.mk hrg0
  have Hs := Aside0.mk hs0
  clear hrg0 hg0 hs0 c0 c1
  refine wp_loop_rounds 1 ?_
  rw [rounds_succ]
  go_wp2_with (first
    | (at_next; refine wpList_next_whole _ rfl _ rfl wb (w.heap.size + 1) 1 S.whole rfl H9.out HRg.out ?_ ?_)
    | go_in)
  · intro hw
    have HW := Aside0.mk hw
    clear hw
    have c0 : w0.cell? ⟨tb, 0, none⟩ = some (.map (some mb)) := (blk_cell HT0.out 0).trans rfl
    have r0 : w0.cell? ⟨w.heap.size, 0, none⟩ = some (.int .i64 0) := (blk_cell HR0.out 0).trans rfl
    have r1 : w0.cell? ⟨w.heap.size, 1, none⟩ = some (.int .i64 0) := (blk_cell HR0.out 1).trans rfl
    have f0 : w0.frozen? ⟨w.heap.size, 0, none⟩ = false := blk_frozen HR0.out 0
    have f1 : w0.frozen? ⟨w.heap.size, 1, none⟩ = false := blk_frozen HR0.out 1
    have hn0 : w.heap.size ≠ w0.heap.size := by rw [Hs.out]; omega
    have hn1 : w0.heap.size ≠ w.heap.size := Ne.symm hn0
    have hl0 : w.heap.size < w0.heap.size := by rw [Hs.out]; omega
    go_wp2_with (first
      | (at_lookup; refine wpList_lookup_tx _ rfl _ _ 49 rfl 3 30 keyed3 Try.underlying49 (zero30 _) mb N D rfl HM0.out _ _ rfl (keyOf_int_mk Try.underlying3 hid) ?_; intro x y hat; have HAt := Aside0.mk hat; clear hat)
      | go_in)
    refine bodyPost_ret (v := .tuple #[.agg #[.int .i64 x, .int .i64 y], .bool (Maps.has D (.int .i64 id))]) (by simp [*, results, Try.results14, go_sem]) rfl ⟨?_, by repeat (first | exact HB0.out | apply below_alloc | refine below_set ?_ (Nat.le_refl _))⟩
    rw [holder_by H7.out hid HW.out HAt.out]
  · intro t c w1 hw hg1 hs1 hen
    have HW := Aside0.mk hw
    have HB1 := Aside0.mk (HB0.out.grown hg1 HB0.out.size (fun k hk => by cases hk; omega))
    have HR1 := Aside0.mk (blk_grown HR0.out hg1 (by simp))
    have hs1' : w1.heap.size = w.heap.size + 1 + 1 := hs1.trans Hs.out
    have hl0 : w.heap.size < w1.heap.size := by rw [hs1']; omega
    have hn0 : w.heap.size ≠ w1.heap.size := Nat.ne_of_lt hl0
    have hn1 : w1.heap.size ≠ w.heap.size := Ne.symm hn0
    have r0 : w1.cell? ⟨w.heap.size, 0, none⟩ = some (.int .i64 0) := (blk_cell HR1.out 0).trans rfl
    have r1 : w1.cell? ⟨w.heap.size, 1, none⟩ = some (.int .i64 0) := (blk_cell HR1.out 1).trans rfl
    have f0 : w1.frozen? ⟨w.heap.size, 0, none⟩ = false := blk_frozen HR1.out 0
    have f1 : w1.frozen? ⟨w.heap.size, 1, none⟩ = false := blk_frozen HR1.out 1
    clear hw hg1 hs1 hs1'
    go_wp2
    refine bodyPost_ret (v := .tuple #[.agg #[.int .i64 t.f0, .int .i64 t.f1], .bool true]) (by simp [*, results, Try.results14, go_sem]) rfl ⟨?_, by repeat (first | exact HB1.out | apply below_alloc | refine below_set ?_ (Nat.le_refl _))⟩
    unfold holderOf
    rw [HW.out]
end Go.Proofs.Ytmmamceijnnfdaa.LK
