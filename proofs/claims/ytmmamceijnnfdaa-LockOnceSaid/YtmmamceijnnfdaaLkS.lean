/- The acts of a statement on locks, and both sides' locks in one world. -/
import Derived.Test.YtmmamceijnnfdaaLkJ
namespace Go.Proofs.Ytmmamceijnnfdaa.LK
open Go Go.RowKit Go.Maps Go.Proofs.YtmmamceijnnfdaaW.PrintWords Go.Proofs.Ytmmamceijnnfdaa.PLockActs
set_option linter.unusedVariables false

/-! ### an act -/
structure Act where
  kind : Int
  tx : S30
  ids : List Int
  all : Bool
def kAct : Kd Act := Kd.iso (Kd.pair (Kd.int .i64) (Kd.pair k30 (Kd.pair (Kd.slice 3 (Kd.int .i64)) Kd.bool))) (fun x : Act => (x.kind, x.tx, x.ids, x.all))
theorem kAct_open {w : World} {x : Act} {cs : List Value} (h : kAct.K w x cs) : ∃ A c, cs = [.int .i64 x.kind, .int .i64 x.tx.f0, .int .i64 x.tx.f1, .slice A x.ids.length c, .bool x.all] ∧ x.ids.length ≤ c ∧ (Kd.int .i64).C w A x.ids.length x.ids := by
  obtain ⟨_, _, rfl, rfl, _, _, rfl, s0, ⟨_, _, rfl, ⟨A, c, rfl, l2, g2⟩, rfl⟩⟩ := h
  obtain rfl := k30_open s0
  exact ⟨A, c, rfl, l2, g2⟩
/-- What stands at an act. -/
structure AtAct (w : World) (ad : Addr) (x : Act) (A : Option Addr) (c : Nat) : Prop where
  kind : w.cell? ad = some (.int .i64 x.kind)
  t0 : w.cell? ⟨ad.block, ad.off + 1, none⟩ = some (.int .i64 x.tx.f0)
  t1 : w.cell? ⟨ad.block, ad.off + 2, none⟩ = some (.int .i64 x.tx.f1)
  ids : w.cell? ⟨ad.block, ad.off + 3, none⟩ = some (.slice A x.ids.length c)
  all : w.cell? ⟨ad.block, ad.off + 4, none⟩ = some (.bool x.all)
  cap : x.ids.length ≤ c
  row : (Kd.int .i64).C w A x.ids.length x.ids
def zAct : Act := ⟨0, z30, [], false⟩
def rdAct (xs : List Act) (k : Nat) : Act := xs.getD k zAct
theorem at_act {w : World} {A : Option Addr} {n : Nat} {xs : List Act} (h : Kd.C kAct w A n xs) (k : Nat) (hk : k < n) : ∃ ad A' c', A = some ad ∧ AtAct w (ad.add (k * 5)) (rdAct xs k) A' c' := by
  obtain ⟨ad, c, e, _, hK, hc0⟩ := Kd.C_get h zAct (k : Int) (by omega) (by omega)
  have hc : ∀ j u, c[j]? = some u → w.cell? (ad.add (k * 5 + j)) = some u := hc0
  obtain ⟨A', c', rfl, l2, g2⟩ := kAct_open hK
  exact ⟨ad, A', c', e, hc 0 _ rfl, by rw [← add_field _ _ 1 (by omega)]; exact hc 1 _ rfl, by rw [← add_field _ _ 2 (by omega)]; exact hc 2 _ rfl, by rw [← add_field _ _ 3 (by omega)]; exact hc 3 _ rfl, by rw [← add_field _ _ 4 (by omega)]; exact hc 4 _ rfl, l2, g2⟩
def okAct (x : Act) : Prop := wfTx x.tx ∧ (∀ v ∈ x.ids, (Lit.int .i64 v).wf = true) ∧ x.ids.length * 8 ≤ 140737488351232
theorem rdAct_ok {xs : List Act} (h : ∀ x ∈ xs, okAct x) (k : Nat) : okAct (rdAct xs k) := by
  unfold rdAct
  rcases Nat.lt_or_ge k xs.length with hk | hk
  · rw [List.getD_eq_getElem?_getD, List.getElem?_eq_getElem hk]
    exact h _ (List.getElem_mem _)
  · rw [List.getD_eq_getElem?_getD, List.getElem?_eq_none hk]
    exact show okAct zAct from ⟨⟨by decide, by decide⟩, (fun v hv => by cases hv), by decide⟩

/-! ### both sides -/
/-- Block tb is a table that holds what LT holds, rb the document's locks with LL; both are new, apart, and none of bs. -/
structure Two (B : Nat) (bs : List Nat) (W : World) (tb rb N : Nat) (LT LL : List S55) : Prop where
  is : ∃ okT okL : Nat → Prop, Tab W okT tb N (absS LT) ∧ Lks W okL rb LL ∧ (∀ k, okT k → okB B bs k ∧ k < W.heap.size) ∧ (∀ k, okL k → okB B bs k ∧ k < W.heap.size) ∧ ∀ k, okT k → ¬ okL k
  inv : Inv LT
  old : ∀ b ∈ bs, b < W.heap.size
  base : B ≤ W.heap.size
theorem Two.step {B : Nat} {bs : List Nat} {W W1 : World} {tb rb N : Nat} {LT LL : List S55} (h : Two B bs W tb rb N LT LL) (hb : Below W.heap.size W W1) : Two B bs W1 tb rb N LT LL := by
  obtain ⟨⟨okT, okL, hT, hL, h1, h2, h3⟩, h4, h5, h6⟩ := h
  exact ⟨⟨okT, okL, hT.step (fun k _ hlt => hb.block k hlt), hL.step (fun k _ hlt => hb.block k hlt), fun k hk => ⟨(h1 k hk).1, Nat.lt_of_lt_of_le (h1 k hk).2 hb.size⟩, fun k hk => ⟨(h2 k hk).1, Nat.lt_of_lt_of_le (h2 k hk).2 hb.size⟩, h3⟩, h4, fun b hb' => Nat.lt_of_lt_of_le (h5 b hb') hb.size, Nat.le_trans h6 hb.size⟩
/-- A block that is new to both. -/
theorem Two.fresh {B b : Nat} {bs : List Nat} {W W1 : World} {tb rb N : Nat} {LT LL : List S55} (h : Two B bs W tb rb N LT LL) (hb : Below W.heap.size W W1) (h1 : W.heap.size ≤ b) (h2 : b < W1.heap.size) : Two B (b :: bs) W1 tb rb N LT LL := by
  have h' := h.step hb
  obtain ⟨⟨okT, okL, hT, hL, a1, a2, h3⟩, h4, h5, h6⟩ := h
  refine ⟨⟨okT, okL, hT.step (fun k _ hlt => hb.block k hlt), hL.step (fun k _ hlt => hb.block k hlt), fun k hk => ⟨⟨(a1 k hk).1.1, fun hm => ?_⟩, Nat.lt_of_lt_of_le (a1 k hk).2 hb.size⟩, fun k hk => ⟨⟨(a2 k hk).1.1, fun hm => ?_⟩, Nat.lt_of_lt_of_le (a2 k hk).2 hb.size⟩, h3⟩, h4, fun b' hb' => ?_, Nat.le_trans h6 hb.size⟩
  · rcases List.mem_cons.1 hm with e | hm
    · exact Nat.lt_irrefl _ (Nat.lt_of_lt_of_le (e ▸ (a1 k hk).2) h1)
    · exact (a1 k hk).1.2 hm
  · rcases List.mem_cons.1 hm with e | hm
    · exact Nat.lt_irrefl _ (Nat.lt_of_lt_of_le (e ▸ (a2 k hk).2) h1)
    · exact (a2 k hk).1.2 hm
  · rcases List.mem_cons.1 hb' with e | hb'
    · omega
    · exact Nat.lt_of_lt_of_le (h5 b' hb') hb.size
theorem Two.alloc {B : Nat} {bs : List Nat} {W : World} {tb rb N : Nat} {LT LL : List S55} (h : Two B bs W tb rb N LT LL) (o : Obj) : Two B (W.heap.size :: bs) (W.alloc o) tb rb N LT LL :=
  h.fresh (below_alloc (Below.refl _ _) o) (Nat.le_refl _) (by rw [World.size_alloc]; omega)
theorem Two.drop {B b : Nat} {bs : List Nat} {W : World} {tb rb N : Nat} {LT LL : List S55} (h : Two B (b :: bs) W tb rb N LT LL) : Two B bs W tb rb N LT LL := by
  obtain ⟨⟨okT, okL, hT, hL, a1, a2, h3⟩, h4, h5, h6⟩ := h
  exact ⟨⟨okT, okL, hT, hL, fun k hk => ⟨⟨(a1 k hk).1.1, fun hm => (a1 k hk).1.2 (List.mem_cons_of_mem _ hm)⟩, (a1 k hk).2⟩, fun k hk => ⟨⟨(a2 k hk).1.1, fun hm => (a2 k hk).1.2 (List.mem_cons_of_mem _ hm)⟩, (a2 k hk).2⟩, h3⟩, h4, fun b' hb' => h5 b' (List.mem_cons_of_mem _ hb'), h6⟩
theorem Two.more {B : Nat} {bs : List Nat} {W : World} {tb rb N N' : Nat} {LT LL : List S55} (h : Two B bs W tb rb N LT LL) (hN : N ≤ N') : Two B bs W tb rb N' LT LL := by
  obtain ⟨⟨okT, okL, hT, hL, r⟩, h4, h5, h6⟩ := h
  exact ⟨⟨okT, okL, hT.more hN, hL, r⟩, h4, h5, h6⟩
theorem two_moved {B : Nat} {bs : List Nat} {W W1 : World} {okT okL : Nat → Prop} (h1 : ∀ k, okT k → okB B bs k ∧ k < W.heap.size) (hM : Mv okT W W1) (h2 : ∀ k, okL k → okB B bs k ∧ k < W.heap.size) (h3 : ∀ k, okT k → ¬ okL k) (h5 : ∀ b ∈ bs, b < W.heap.size) (h6 : B ≤ W.heap.size) :
    Mv (okB B bs) W W1 ∧ (∀ k, ((okT k ∨ W.heap.size ≤ k) ∧ k < W1.heap.size) → okB B bs k ∧ k < W1.heap.size) ∧ (∀ k, okL k → okB B bs k ∧ k < W1.heap.size) ∧ ∀ k, ((okT k ∨ W.heap.size ≤ k) ∧ k < W1.heap.size) → ¬ okL k :=
  ⟨hM.mono (fun k _ hk => (h1 k hk).1), fun k hk => ⟨hk.1.elim (fun h => (h1 k h).1) (okB_new h6 h5), hk.2⟩, fun k hk => ⟨(h2 k hk).1, Nat.lt_of_lt_of_le (h2 k hk).2 hM.size⟩, fun k hk hL => hk.1.elim (fun h => h3 k h hL) (fun h => Nat.lt_irrefl _ (Nat.lt_of_lt_of_le (h2 k hL).2 h))⟩
section
variable {B : Nat} {bs : List Nat} {W : World} {tb rb N : Nat} {LT LL : List S55}
def TwoIs (B : Nat) (bs : List Nat) (W : World) (tb rb N : Nat) (LT LL : List S55) (v : Value) (e : Ending) (w' : World) : Prop := e = .returned v ∧ Two B bs w' tb rb N LT LL ∧ Mv (okB B bs) W w'
theorem take_two (h : Two B bs W tb rb N LT LL) (t : S30) (A0 : Option Addr) (c0 : Nat) (ids : List Int) (all : Bool) (ht : wfTx t)
    (hI : ∀ W', Mv (okB B bs) W W' → Kd.C (Kd.int .i64) W' A0 ids.length ids) (hwf : ∀ id ∈ ids, (Lit.int .i64 id).wf = true) (hN : N + ids.length < 9223372036854775807) (hl : (LT.length + 1) * 16 ≤ 140737488355328)
    (v : Bool) (L' : List S55) (hv : takeOkL LT t ids all = v) (hL : takenL LT t ids all = L') :
    Calls Try.prog 8 #[.pointer (some ⟨tb, 0, none⟩), .agg #[.int .i64 t.f0, .int .i64 t.f1], .slice A0 ids.length c0, .bool all] W (TwoIs B bs W tb rb (N + ids.length) L' LL (.bool v)) := by
  obtain ⟨⟨okT, okL, hT, hLk, a1, a2, h3⟩, h4, h5, h6⟩ := h
  refine (tTake_any tb N okT (absS LT) t A0 c0 ids all W hT ht (fun W' hM => hI W' (hM.mono (fun k _ hk => (a1 k hk).1))) hwf hN (by simpa [absS, txsL] using hl)).mono ?_
  rintro e w' ⟨rfl, hT', hM⟩
  rw [abs_takeOk, hv]
  rw [abs_taken, hL] at hT'
  obtain ⟨b1, b2, b3, b4⟩ := two_moved a1 hM a2 h3 h5 h6
  exact ⟨rfl, ⟨⟨_, okL, hT'.bound, hLk.kept hM (fun k hk hk' => h3 k hk' hk), b2, b3, b4⟩, hL ▸ inv_taken h4 t ids all, fun b hb => Nat.lt_of_lt_of_le (h5 b hb) hM.size, Nat.le_trans h6 hM.size⟩, b1⟩
theorem rtake_two (h : Two B bs W tb rb N LT LL) (t : S30) (A0 : Option Addr) (c0 : Nat) (ids : List Int) (all : Bool)
    (hI : ∀ W', Mv (okB B bs) W W' → Kd.C (Kd.int .i64) W' A0 ids.length ids) (hil : ids.length * 8 ≤ 140737488355328) (hl : (LL.length + 1) * 48 ≤ 140737488355328)
    (v : Bool) (L' : List S55) (hv : takeOkL LL t ids all = v) (hL : takenL LL t ids all = L') :
    Calls Try.prog 9 #[.pointer (some ⟨rb, 0, none⟩), .agg #[.int .i64 t.f0, .int .i64 t.f1], .slice A0 ids.length c0, .bool all] W (TwoIs B bs W tb rb N LT L' (.bool v)) := by
  obtain ⟨⟨okT, okL, hT, hLk, a1, a2, h3⟩, h4, h5, h6⟩ := h
  refine (rTake_any rb okL LL t A0 c0 ids all W hLk (fun W' hM => hI W' (hM.mono (fun k _ hk => (a2 k hk).1))) hil hl).mono ?_
  rintro e w' ⟨rfl, hL', hM⟩
  rw [hv]
  rw [hL] at hL'
  obtain ⟨b1, b2, b3, b4⟩ := two_moved a2 hM a1 (fun k hk hk' => h3 k hk' hk) h5 h6
  exact ⟨rfl, ⟨⟨okT, _, hT.kept hM (fun k hk hk' => h3 k hk hk'), hL'.bound, b3, b2, fun k hk hk' => b4 k hk' hk⟩, h4, fun b hb => Nat.lt_of_lt_of_le (h5 b hb) hM.size, Nat.le_trans h6 hM.size⟩, b1⟩
theorem free_two (h : Two B bs W tb rb N LT LL) (t : S30) (ht : wfTx t) (L' : List S55) (hL : freeL LT t = L') :
    Calls Try.prog 12 #[.pointer (some ⟨tb, 0, none⟩), .agg #[.int .i64 t.f0, .int .i64 t.f1]] W (TwoIs B bs W tb rb N L' LL (.tuple #[])) := by
  obtain ⟨⟨okT, okL, hT, hLk, a1, a2, h3⟩, h4, h5, h6⟩ := h
  refine (tFree_any tb N okT (absS LT) t W hT ht).mono ?_
  rintro e w' ⟨rfl, hT', hM⟩
  rw [abs_free h4, hL] at hT'
  obtain ⟨b1, b2, b3, b4⟩ := two_moved a1 hM a2 h3 h5 h6
  exact ⟨rfl, ⟨⟨_, okL, (hT'.mono (fun k hk => Or.inl hk)).bound, hLk.kept hM (fun k hk hk' => h3 k hk' hk), b2, b3, b4⟩, hL ▸ inv_free h4 t, fun b hb => Nat.lt_of_lt_of_le (h5 b hb) hM.size, Nat.le_trans h6 hM.size⟩, b1⟩
theorem rfree_two (h : Two B bs W tb rb N LT LL) (t : S30) (hl : (LL.length + 1) * 48 ≤ 140737488355328) (L' : List S55) (hL : freeL LL t = L') :
    Calls Try.prog 13 #[.pointer (some ⟨rb, 0, none⟩), .agg #[.int .i64 t.f0, .int .i64 t.f1]] W (TwoIs B bs W tb rb N LT L' (.tuple #[])) := by
  obtain ⟨⟨okT, okL, hT, hLk, a1, a2, h3⟩, h4, h5, h6⟩ := h
  refine (rFree_any rb okL LL t W hLk hl).mono ?_
  rintro e w' ⟨rfl, hL', hM⟩
  rw [hL] at hL'
  obtain ⟨b1, b2, b3, b4⟩ := two_moved a2 hM a1 (fun k hk hk' => h3 k hk' hk) h5 h6
  exact ⟨rfl, ⟨⟨okT, _, hT.kept hM (fun k hk hk' => h3 k hk hk'), hL'.bound, b3, b2, fun k hk hk' => b4 k hk' hk⟩, h4, fun b hb => Nat.lt_of_lt_of_le (h5 b hb) hM.size, Nat.le_trans h6 hM.size⟩, b1⟩
theorem holder_two (h : Two B bs W tb rb N LT LL) (id : Int) (hid : (Lit.int .i64 id).wf = true) : Calls Try.prog 14 #[.pointer (some ⟨tb, 0, none⟩), .int .i64 id] W (HolderIs W (holderL LT id)) := by
  obtain ⟨⟨okT, okL, hT, hLk, r⟩, h4, h5, h6⟩ := h
  have := tHolder_any tb N okT (absS LT) id W hT hid
  rwa [abs_holder h4] at this
theorem rholder_two (h : Two B bs W tb rb N LT LL) (id : Int) : Calls Try.prog 15 #[.pointer (some ⟨rb, 0, none⟩), .int .i64 id] W (HolderIs W (holderL LL id)) := by
  obtain ⟨⟨okT, okL, hT, hLk, r⟩, h4, h5, h6⟩ := h
  exact rHolder_any rb okL LL id W hLk
theorem all_two (h : Two B bs W tb rb N LT LL) (hl : LT.length * 16 ≤ 140737488355328) : Calls Try.prog 17 #[.pointer (some ⟨tb, 0, none⟩)] W (AllIs W (txsL LT)) := by
  obtain ⟨⟨okT, okL, hT, hLk, r⟩, h4, h5, h6⟩ := h
  exact tAll_any tb N okT (absS LT) W hT (by simpa [absS, txsL] using hl)
theorem rall_two (h : Two B bs W tb rb N LT LL) (hl : LL.length * 16 ≤ 140737488355328) : Calls Try.prog 18 #[.pointer (some ⟨rb, 0, none⟩)] W (AllIs W (txsL LL)) := by
  obtain ⟨⟨okT, okL, hT, hLk, r⟩, h4, h5, h6⟩ := h
  exact rAll_any rb okL LL W hLk hl
end
/-- A table and the document's locks, made new. -/
theorem two_new {B tb : Nat} {w : World} (h : TabB B [] w tb 0 []) : Two B [] (w.alloc (.cells #[.slice none 0 0] 28)) tb w.heap.size 0 [] [] := by
  refine ⟨⟨fun k => okB B [] k ∧ k < w.heap.size, fun k => k = w.heap.size, ?_, ?_, fun k hk => ⟨hk.1, by rw [World.size_alloc]; have := hk.2; omega⟩, fun k hk => ⟨⟨hk ▸ h.base, by simp⟩, by rw [World.size_alloc, hk]; omega⟩, fun k hk hk' => by have := hk.2; omega⟩, h.inv, fun b hb => (by cases hb), by rw [World.size_alloc]; exact Nat.le_succ_of_le h.base⟩
  · exact h.tab.bound.step (fun k _ hlt => Below.heap_alloc w _ k hlt)
  · exact ⟨_, rfl, blk_new w _, Kd.R_nil _ _ _ _ _⟩
end Go.Proofs.Ytmmamceijnnfdaa.LK
