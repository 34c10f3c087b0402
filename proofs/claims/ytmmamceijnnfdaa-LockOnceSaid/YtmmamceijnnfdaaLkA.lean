/- What a table of locks and the document's own locks are in memory: plain words and what keeps them. -/
import Derived.Test.YtmmamceijnnfdaaProg
import Derived.Test.YtmmamceijnnfdaaWShare
import Derived.Test.YtmmamceijnnfdaaLkP
import Derived.Maps.RangeWalk
import Derived.DeepKeys4
namespace Go.Proofs.Ytmmamceijnnfdaa.LK
open Go Go.RowKit Go.Maps Go.Proofs.YtmmamceijnnfdaaW.PrintWords Go.Proofs.Ytmmamceijnnfdaa.PLockActs
open Go.WideElems (Fit rd rg pl rd_val elemAt)

/-- w' is w but for the blocks of S and what is new. -/
structure Mv (S : Nat → Prop) (w w' : World) : Prop where
  os : w'.os = w.os
  tape : w'.tape = w.tape
  output : w'.output = w.output
  size : w.heap.size ≤ w'.heap.size
  keep : ∀ k, k < w.heap.size → ¬ S k → w'.heap[k]? = w.heap[k]?
theorem Mv.refl (S : Nat → Prop) (w : World) : Mv S w w := ⟨rfl, rfl, rfl, Nat.le_refl _, fun _ _ _ => rfl⟩
theorem Mv.of_below {S : Nat → Prop} {w w' : World} (h : Below w.heap.size w w') : Mv S w w' := ⟨h.os, h.tape, h.output, h.size, fun k hk _ => h.block k hk⟩
theorem Mv.then_ {S S2 : Nat → Prop} {w w1 w2 : World} (h : Mv S w w1) (k : Mv S2 w1 w2) (hs : ∀ i, S2 i → S i ∨ w.heap.size ≤ i) : Mv S w w2 :=
  ⟨k.os.trans h.os, k.tape.trans h.tape, k.output.trans h.output, Nat.le_trans h.size k.size, fun i hi hn => (k.keep i (Nat.lt_of_lt_of_le hi h.size) (fun h2 => (hs i h2).elim hn (fun h3 => by omega))).trans (h.keep i hi hn)⟩
theorem Mv.trans {S : Nat → Prop} {w w1 w2 : World} (h : Mv S w w1) (k : Mv S w1 w2) : Mv S w w2 := h.then_ k (fun _ h => Or.inl h)
theorem Mv.below {S : Nat → Prop} {w w1 w2 : World} (h : Mv S w w1) (k : Below w1.heap.size w1 w2) : Mv S w w2 := h.trans (Mv.of_below k)
theorem Mv.mono {S S' : Nat → Prop} {w w' : World} (h : Mv S w w') (hs : ∀ k, k < w.heap.size → S k → S' k) : Mv S' w w' := ⟨h.os, h.tape, h.output, h.size, fun k hk hn => h.keep k hk (fun h2 => hn (hs k hk h2))⟩
theorem Mv.grown {S : Nat → Prop} {w w1 w2 : World} {row : Option Nat} (h : Mv S w w1) (hg : w1.grownBy w2 row) (hr : ∀ k, row = some k → S k ∨ w.heap.size ≤ k) : Mv S w w2 :=
  h.then_ (S2 := fun k => row = some k) ⟨hg.os, hg.tape, hg.output, hg.size, fun i hi hn => hg.block i hi (fun e => hn e.symm)⟩ hr
theorem Mv.setCell {S : Nat → Prop} {w w1 : World} {p : Addr} (h : Mv S w w1) (hp : S p.block ∨ w.heap.size ≤ p.block) (u : Value) : Mv S w (w1.setCell p u) :=
  h.then_ (S2 := fun k => k = p.block) ⟨rfl, rfl, rfl, by simp [World.setCell], fun i _ hn => Below.heap_setCell _ _ _ _ hn⟩ (fun k hk => by rw [hk]; exact hp)
theorem Mv.alloc {S : Nat → Prop} {w w1 : World} (h : Mv S w w1) (o : Obj) : Mv S w (w1.alloc o) := h.below (below_alloc (Below.refl _ _) o)
theorem Mv.drew {S : Nat → Prop} {w w1 : World} (h : Mv S w w1) : Mv S w w1.drew := h.below (below_drew (Below.refl _ _))
theorem Mv.drewN {S : Nat → Prop} {w w1 : World} (h : Mv S w w1) (n : Nat) : Mv S w (w1.drewN n) := h.below (pw_below_drewN (Below.refl _ _) n)
theorem Mv.to_below {S : Nat → Prop} {w w' : World} {B : Nat} (h : Mv S w w') (hB : B ≤ w.heap.size) (hs : ∀ k, k < B → ¬ S k) : Below B w w' :=
  ⟨h.os, h.tape, h.output, h.size, fun k hk => h.keep k (by omega) (hs k hk)⟩

/-! ### how a transaction reads -/
def txV (t : S30) : Value := .agg #[.int .i64 t.f0, .int .i64 t.f1]
def wfTx (t : S30) : Prop := (Lit.int .i64 t.f0).wf = true ∧ (Lit.int .i64 t.f1).wf = true
def txD (t : S30) : DataW Unit := .agg [.lit (.int .i64 t.f0), .lit (.int .i64 t.f1)]
/-- An element that is a transaction. -/
def txR : Value → Option (DataW Unit × List MemPlace)
  | .agg ⟨[.int .i64 a, .int .i64 b]⟩ => some (txD ⟨a, b⟩, [])
  | _ => none
theorem txR_mk (a b : Int) : txR (.agg #[.int .i64 a, .int .i64 b]) = some (txD ⟨a, b⟩, []) := rfl
theorem txR_inv {v : Value} {y : DataW Unit × List MemPlace} (h : txR v = some y) : ∃ t : S30, v = .agg #[.int .i64 t.f0, .int .i64 t.f1] ∧ y = (txD t, []) := by
  unfold txR at h
  split at h
  · cases h; exact ⟨⟨_, _⟩, rfl, rfl⟩
  · cases h
theorem txD_inj {t u : S30} (h : txD t = txD u) : t = u := by
  unfold txD at h
  simp only [DataW.agg.injEq, List.cons.injEq, DataW.lit.injEq, Lit.int.injEq, and_true, true_and] at h
  cases t; cases u; simp_all

theorem laidOut : laidOutB Try.prog = true := by kernel_rfl
theorem row30 : (30 : TypeId) < Try.prog.types.size := of_decide_eq_true (by kernel_rfl)
theorem wide30 : (match Try.prog.underlying 30 with | some (.array _ _) | some (.struct _) => true | _ => false) = true := by kernel_rfl
theorem keyed30 : Keyed Try.prog 30 := Keyed.of_law (deep_law_laid laidOut (m := 3) (by omega) row30 (by kernel_rfl) wide30)
theorem keyed3 : Keyed Try.prog 3 := int_keyed Try.underlying3
/-- What a transaction reads as where it is a key. -/
def txK (t : S30) : Lit := .string (keyBytes [.int .i64 t.f0, .int .i64 t.f1])
theorem tsz : Try.prog.types.size = 79 := of_decide_eq_true (by kernel_rfl)
theorem cells3 : Try.prog.cellsOf 3 = 1 := by kernel_rfl
theorem cells30 : Try.prog.cellsOf 30 = 2 := by kernel_rfl
theorem ktype30 : Try.prog.keyType 30 = true := by kernel_rfl
theorem lits30 (n : Nat) {t : S30} (h : wfTx t) : Program.keyLits Try.prog (n + 2) 30 [.int .i64 t.f0, .int .i64 t.f1] = some [.int .i64 t.f0, .int .i64 t.f1] := by
  simp [Program.keyLits, Try.underlying30, cells30, cells3, Try.underlying3, h.1, h.2]
theorem txK_is {t : S30} (h : wfTx t) : keyOf Try.prog 30 (.agg #[.int .i64 t.f0, .int .i64 t.f1]) = some (txK t) := by
  have h4 : (Value.agg #[.int .i64 t.f0, .int .i64 t.f1]).formed Try.prog 30 = true := by simp [Value.formed, Try.underlying30, cells30]
  have h5 := lits30 78 h
  rw [show (78 + 2 : Nat) = Try.prog.types.size + 1 from by rw [tsz]] at h5
  simp only [keyOf, Try.underlying30, ktype30, h4, Bool.and_self, if_true, Value.cells, h5, Option.map_some, txK]
theorem txK_inj {t u : S30} (ht : wfTx t) (hu : wfTx u) (h : txK t = txK u) : t = u := by
  have := keyed30.inj (txK_is ht) (h ▸ txK_is hu)
  cases t; cases u; simp_all

/-! ### a table of locks -/
structure TabS where
  by_ : Int → Option S30
  whole : Option S30
  row : List S30
/-- A map by ids reads as the function m. -/
def IsBy (D : DataW Unit) (m : Int → Option S30) : Prop := IsMap D ∧ ∀ id, (Lit.int .i64 id).wf = true → Maps.has D (.int .i64 id) = (m id).isSome ∧ ∀ t, m id = some t → ∀ z, D.atKey (.int .i64 id) z = txD t
def wholeD (o : Option S30) : DataW Unit := .map (o.toList.map fun t => (txK t, .lit (.bool true)))
theorem isBy_none : IsBy (.map []) (fun _ => none) := ⟨isMap_empty, fun _ _ => ⟨rfl, fun _ h => by cases h⟩⟩
theorem int_ne {a b : Int} (h : a ≠ b) : Lit.int .i64 a ≠ Lit.int .i64 b := fun e => h (by injection e)
theorem isBy_put {D : DataW Unit} {m : Int → Option S30} (h : IsBy D m) (id : Int) (t : S30) (hid : (Lit.int .i64 id).wf = true) : IsBy (D.put (.int .i64 id) (txD t)) (fun k => if k = id then some t else m k) := by
  refine ⟨h.1.put _ _, fun k hk => ?_⟩
  by_cases e : k = id
  · subst e
    refine ⟨by rw [has_put_same h.1 (keyed3.key (keyOf_int_mk Try.underlying3 hid))]; simp, fun u hu z => ?_⟩
    rw [atKey_put_same h.1 (keyed3.key (keyOf_int_mk Try.underlying3 hid))]
    simp at hu
    rw [hu]
  · refine ⟨by rw [has_put_other (int_ne e)]; simp [e, (h.2 k hk).1], fun u hu z => ?_⟩
    rw [atKey_put_other (int_ne e)]
    simp [e] at hu
    exact (h.2 k hk).2 u hu z
theorem isBy_del {D : DataW Unit} {m : Int → Option S30} (h : IsBy D m) (id : Int) : IsBy (D.del (.int .i64 id)) (fun k => if k = id then none else m k) := by
  refine ⟨h.1.del _, fun k hk => ?_⟩
  by_cases e : k = id
  · subst e
    exact ⟨by rw [has_del_same]; simp, fun u hu z => by simp at hu⟩
  · refine ⟨by rw [has_del_other (int_ne e)]; simp [e, (h.2 k hk).1], fun u hu z => ?_⟩
    rw [atKey_del_other (int_ne e)]
    simp [e] at hu
    exact (h.2 k hk).2 u hu z

theorem ownsMap_step {k : TypeId} {R : Value → Option (DataW Unit × List MemPlace)} {w w1 : World} {b n : Nat} {D : DataW Unit} (h : w.ownsMap Try.prog k R b n D) (hb : w1.heap[b]? = w.heap[b]?) : w1.ownsMap Try.prog k R b n D := by
  obtain ⟨es, clock, h1, r⟩ := h
  exact ⟨es, clock, hb.trans h1, r⟩
theorem ownsMap_tight {k : TypeId} {R : Value → Option (DataW Unit × List MemPlace)} {w : World} {b n : Nat} {D : DataW Unit} (h : w.ownsMap Try.prog k R b n D) : w.ownsMap Try.prog k R b (Maps.size D) D := by
  obtain ⟨es, clock, h1, F, hs, rfl⟩ := h
  exact ⟨es, clock, h1, F, by simp [Maps.size, length_sorted], rfl⟩

/-- Block tb is a table that holds S, of at most N ids; its blocks are in ok. -/
def Tab (w : World) (ok : Nat → Prop) (tb N : Nat) (S : TabS) : Prop :=
  ∃ (mb wb : Nat) (v : Value) (D : DataW Unit), ok tb ∧ ok mb ∧ ok wb ∧ mb ≠ wb ∧
    w.heap[tb]? = some (.cells #[.map (some mb), .map (some wb), v] 52 (0, 0)) ∧
    w.ownsMap Try.prog 3 txR mb N D ∧ IsBy D S.by_ ∧
    w.ownsMap Try.prog 30 (plainElem Try.prog 4) wb 1 (wholeD S.whole) ∧ (∀ t, S.whole = some t → wfTx t) ∧
    Kd.R k30 30 w 0 ok v S.row
theorem Tab.step {w w1 : World} {ok : Nat → Prop} {tb N : Nat} {S : TabS} (h : Tab w ok tb N S) (hm : ∀ k, ok k → k < w.heap.size → w1.heap[k]? = w.heap[k]?) : Tab w1 ok tb N S := by
  obtain ⟨mb, wb, v, D, h1, h2, h3, h4, h5, h6, h7, h8, h9, h10⟩ := h
  exact ⟨mb, wb, v, D, h1, h2, h3, h4, (hm _ h1 (blk_lt h5)).trans h5, ownsMap_step h6 (hm _ h2 h6.lt), h7, ownsMap_step h8 (hm _ h3 h8.lt), h9, Kd.R_step h10 hm⟩
theorem Tab.mono {w : World} {ok ok' : Nat → Prop} {tb N : Nat} {S : TabS} (h : Tab w ok tb N S) (hok : ∀ k, ok k → ok' k) : Tab w ok' tb N S := by
  obtain ⟨mb, wb, v, D, h1, h2, h3, h4, h5, h6, h7, h8, h9, h10⟩ := h
  exact ⟨mb, wb, v, D, hok _ h1, hok _ h2, hok _ h3, h4, h5, h6, h7, h8, h9, Kd.R_mono h10 hok⟩
theorem Tab.bound {w : World} {ok : Nat → Prop} {tb N : Nat} {S : TabS} (h : Tab w ok tb N S) : Tab w (fun k => ok k ∧ k < w.heap.size) tb N S := by
  obtain ⟨mb, wb, v, D, h1, h2, h3, h4, h5, h6, h7, h8, h9, h10⟩ := h
  exact ⟨mb, wb, v, D, ⟨h1, blk_lt h5⟩, ⟨h2, h6.lt⟩, ⟨h3, h8.lt⟩, h4, h5, h6, h7, h8, h9, Kd.R_mono (Kd.R_bound h10) (fun _ hk => ⟨hk.1, hk.2.2.1⟩)⟩
theorem Tab.more {w : World} {ok : Nat → Prop} {tb N N' : Nat} {S : TabS} (h : Tab w ok tb N S) (hN : N ≤ N') : Tab w ok tb N' S := by
  obtain ⟨mb, wb, v, D, h1, h2, h3, h4, h5, h6, r⟩ := h
  exact ⟨mb, wb, v, D, h1, h2, h3, h4, h5, h6.mono hN, r⟩
/-- What another's turn leaves of it. -/
theorem Tab.kept {w w1 : World} {ok S2 : Nat → Prop} {tb N : Nat} {S : TabS} (h : Tab w ok tb N S) (hm : Mv S2 w w1) (hd : ∀ k, ok k → ¬ S2 k) : Tab w1 ok tb N S := h.step (fun k hk hlt => hm.keep k hlt (hd k hk))

/-! ### the document's locks -/
def Lks (w : World) (ok : Nat → Prop) (rb : Nat) (L : List S55) : Prop :=
  ∃ v, ok rb ∧ w.heap[rb]? = some (.cells #[v] 28 (0, 0)) ∧ Kd.R k55 55 w 0 ok v L
theorem Lks.step {w w1 : World} {ok : Nat → Prop} {rb : Nat} {L : List S55} (h : Lks w ok rb L) (hm : ∀ k, ok k → k < w.heap.size → w1.heap[k]? = w.heap[k]?) : Lks w1 ok rb L := by
  obtain ⟨v, h1, h2, h3⟩ := h
  exact ⟨v, h1, (hm _ h1 (blk_lt h2)).trans h2, Kd.R_step h3 hm⟩
theorem Lks.mono {w : World} {ok ok' : Nat → Prop} {rb : Nat} {L : List S55} (h : Lks w ok rb L) (hok : ∀ k, ok k → ok' k) : Lks w ok' rb L := by
  obtain ⟨v, h1, h2, h3⟩ := h
  exact ⟨v, hok _ h1, h2, Kd.R_mono h3 hok⟩
theorem Lks.bound {w : World} {ok : Nat → Prop} {rb : Nat} {L : List S55} (h : Lks w ok rb L) : Lks w (fun k => ok k ∧ k < w.heap.size) rb L := by
  obtain ⟨v, h1, h2, h3⟩ := h
  exact ⟨v, ⟨h1, blk_lt h2⟩, h2, Kd.R_mono (Kd.R_bound h3) (fun _ hk => ⟨hk.1, hk.2.2.1⟩)⟩
theorem Lks.kept {w w1 : World} {ok S2 : Nat → Prop} {rb : Nat} {L : List S55} (h : Lks w ok rb L) (hm : Mv S2 w w1) (hd : ∀ k, ok k → ¬ S2 k) : Lks w1 ok rb L := h.step (fun k hk hlt => hm.keep k hlt (hd k hk))

/-! ### at the operations -/
section
variable {P : Program} (w : World) {ops : Array Oper} {rest : List Oper} {o : Oper} {a : Act} {Q : Exit → Act → World → Prop}
/-- 'x, is := t.by[id]'. -/
theorem wpList_lookup_tx (hg : o.guard = none) (m x : Operand) (t : TypeId) (hop : o.op = Op.lookup t m x true)
    (k e : TypeId) (K : Keyed P k) (ht : P.underlying t = some (.map k e)) (hz : (zeroValue e).run P w = .ok (.agg #[.int .i64 0, .int .i64 0]) w) (b n : Nat) (D : DataW Unit)
    (hm : a.eval m = .map (some b)) (hown : w.ownsMap P k txR b n D) (key : Value) (kl : Lit) (hx : a.eval x = key) (hkey : keyOf P k key = some kl)
    (hK : ∀ u v : Int, D.atKey kl (txD ⟨0, 0⟩) = txD ⟨u, v⟩ → wpList P ops Q rest (a.put o.dst (.tuple #[.agg #[.int .i64 u, .int .i64 v], .bool (Maps.has D kl)])) w) :
    wpList P ops Q (o :: rest) a w :=
  wpList_lookup_own_ok w hg m x t hop k e K ht txR hz (txD ⟨0, 0⟩) [] (txR_mk 0 0) b n D hm hown key kl hx hkey (fun v ps hv => by
    obtain ⟨t, rfl, he⟩ := txR_inv hv
    exact hK t.f0 t.f1 (congrArg Prod.fst he))
/-- 'for id, x := range t.by': the step. -/
theorem wpList_next_by (hg : o.guard = none) (it : Operand) (hop : o.op = Op.next it false) (k : TypeId) (K : Keyed P k) (hk : P.underlying k = some (.int .i64))
    (b r n : Nat) (D : DataW Unit) (left : Lit → Bool) (cnt : Nat) (hit : a.eval it = .pointer (some ⟨r, 0, none⟩)) (h : w.ranges P k txR b r n D left cnt)
    (hDone : cnt = 0 → (∀ kl, left kl = false) → wpList P ops Q rest (a.put o.dst (.tuple #[.bool false])) w)
    (hMore : ∀ (x u v : Int) (w' : World) (cnt' : Nat), (Lit.int .i64 x).wf = true → left (.int .i64 x) = true → (∀ zd, D.atKey (.int .i64 x) zd = txD ⟨u, v⟩) → w'.ranges P k txR b r n D (fun z => left z && !z.sameKey (.int .i64 x)) cnt' → cnt' < cnt →
      w.grownBy w' (some r) → w'.heap.size = w.heap.size → (Instr.entry (.pointer (some ⟨r, 0, none⟩))).run P w' = .ok (.tuple #[.int .i64 x, .agg #[.int .i64 u, .int .i64 v]]) w' → wpList P ops Q rest (a.put o.dst (.tuple #[.bool true, .int .i64 x, .agg #[.int .i64 u, .int .i64 v]])) w') :
    wpList P ops Q (o :: rest) a w :=
  wpList_next_ranges w hg it hop k K txR (Value.int .i64) (fun t : S30 => .agg #[.int .i64 t.f0, .int .i64 t.f1]) (fun key kl hkey => by obtain ⟨x, rfl, _⟩ := Maps.keyOf_int_inv hk hkey; exact ⟨x, rfl⟩) (fun v y hv => by obtain ⟨t, rfl, _⟩ := txR_inv hv; exact ⟨t, rfl⟩)
    b r n D left cnt hit h hDone (fun x c kl y w' cnt' hkey hlk hv hat hrg hlt hgr hsz hen => by
      obtain ⟨x', ex, rfl, hwx⟩ := Maps.keyOf_int_inv hk hkey
      cases ex
      obtain ⟨t, et, rfl⟩ := txR_inv hv
      have e1 : c = t := by
        simp only [Value.agg.injEq, Array.mk.injEq, List.cons.injEq, Value.int.injEq, true_and, and_true] at et
        cases c; cases t; simp_all
      subst e1
      exact hMore x c.f0 c.f1 w' cnt' hwx hlk hat hrg hlt hgr hsz hen)
end
end Go.Proofs.Ytmmamceijnnfdaa.LK
