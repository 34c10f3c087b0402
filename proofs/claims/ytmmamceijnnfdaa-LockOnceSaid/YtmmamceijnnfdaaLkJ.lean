/- The table of locks in a statement's hands: what each call leaves, told by the document's list. -/
import Derived.Test.YtmmamceijnnfdaaLkI
namespace Go.Proofs.Ytmmamceijnnfdaa.LK
open Go Go.RowKit Go.Maps Go.Proofs.YtmmamceijnnfdaaW.PrintWords Go.Proofs.YtmmamceijnnfdaaW.PrintLast Go.Proofs.YtmmamceijnnfdaaW.PrintMore Go.Proofs.Ytmmamceijnnfdaa.PLockActs
set_option linter.unusedVariables false
set_option linter.unusedSimpArgs false
attribute [local go_sem high] eqA30

/-- blocks from B on, those of bs apart -/
def okB (B : Nat) (bs : List Nat) (k : Nat) : Prop := B ≤ k ∧ k ∉ bs
/-- Block tb is a table that holds what L holds; none of its blocks is one of bs. -/
structure TabB (B : Nat) (bs : List Nat) (W : World) (tb N : Nat) (L : List S55) : Prop where
  tab : Tab W (okB B bs) tb N (absS L)
  inv : Inv L
  old : ∀ b ∈ bs, b < W.heap.size
  base : B ≤ W.heap.size
theorem TabB.step {B : Nat} {bs : List Nat} {W W1 : World} {tb N : Nat} {L : List S55} (h : TabB B bs W tb N L) (hb : Below W.heap.size W W1) : TabB B bs W1 tb N L :=
  ⟨h.tab.step (fun k _ hlt => hb.block k hlt), h.inv, fun b hb' => Nat.lt_of_lt_of_le (h.old b hb') hb.size, Nat.le_trans h.base hb.size⟩
/-- A new block is none of the table's. -/
theorem TabB.alloc {B : Nat} {bs : List Nat} {W : World} {tb N : Nat} {L : List S55} (h : TabB B bs W tb N L) (o : Obj) : TabB B (W.heap.size :: bs) (W.alloc o) tb N L := by
  refine ⟨((h.tab.bound).step (fun k _ hlt => Below.heap_alloc W o k hlt)).mono (fun k hk => ⟨hk.1.1, fun hm => ?_⟩), h.inv, fun b hb => ?_, by rw [World.size_alloc]; exact Nat.le_succ_of_le h.base⟩
  · rcases List.mem_cons.1 hm with e | hm
    · exact Nat.lt_irrefl _ (e ▸ hk.2)
    · exact hk.1.2 hm
  · rw [World.size_alloc]
    rcases List.mem_cons.1 hb with e | hb
    · omega
    · exact Nat.lt_succ_of_lt (h.old b hb)
theorem TabB.drop {B b : Nat} {bs : List Nat} {W : World} {tb N : Nat} {L : List S55} (h : TabB B (b :: bs) W tb N L) : TabB B bs W tb N L :=
  ⟨h.tab.mono (fun k hk => ⟨hk.1, fun hm => hk.2 (List.mem_cons_of_mem _ hm)⟩), h.inv, fun b' hb => h.old b' (List.mem_cons_of_mem _ hb), h.base⟩
theorem okB_new {B : Nat} {bs : List Nat} {W : World} (hb : B ≤ W.heap.size) (ho : ∀ b ∈ bs, b < W.heap.size) {k : Nat} (hk : W.heap.size ≤ k) : okB B bs k :=
  ⟨Nat.le_trans hb hk, fun hm => Nat.lt_irrefl _ (Nat.lt_of_lt_of_le (ho k hm) hk)⟩
/-- what a turn of the table leaves: blocks of bs lie as they lay -/
theorem Mv.blk {B : Nat} {bs : List Nat} {W W1 : World} {b : Nat} {o : Obj} (h : Mv (okB B bs) W W1) (hb : W.heap[b]? = some o) (hm : b ∈ bs) : W1.heap[b]? = some o :=
  (h.keep b (blk_lt hb) (fun hk => hk.2 hm)).trans hb
theorem Mv.low {B : Nat} {bs : List Nat} {w W W1 : World} (hb : Below B w W) (h : Mv (okB B bs) W W1) (hB : B ≤ W.heap.size) : Below B w W1 :=
  hb.trans (h.to_below hB (fun k hk ho => Nat.lt_irrefl _ (Nat.lt_of_lt_of_le hk ho.1)))
def TakeB (B : Nat) (bs : List Nat) (W : World) (tb N : Nat) (L : List S55) (t : S30) (ids : List Int) (all : Bool) (v : Bool) (L' : List S55) (e : Ending) (w' : World) : Prop :=
  e = .returned (.bool v) ∧ TabB B bs w' tb (N + ids.length) L' ∧ Mv (okB B bs) W w'
theorem take_law {B : Nat} {bs : List Nat} {W : World} {tb N : Nat} {L : List S55} (h : TabB B bs W tb N L) (t : S30) (A0 : Option Addr) (c0 : Nat) (ids : List Int) (all : Bool) (ht : wfTx t)
    (hI : ∀ W', Mv (okB B bs) W W' → Kd.C (Kd.int .i64) W' A0 ids.length ids) (hwf : ∀ id ∈ ids, (Lit.int .i64 id).wf = true) (hN : N + ids.length < 9223372036854775807) (hl : (L.length + 1) * 16 ≤ 140737488355328)
    (v : Bool) (L' : List S55) (hv : takeOkL L t ids all = v) (hL : takenL L t ids all = L') :
    Calls Try.prog 8 #[.pointer (some ⟨tb, 0, none⟩), .agg #[.int .i64 t.f0, .int .i64 t.f1], .slice A0 ids.length c0, .bool all] W (TakeB B bs W tb N L t ids all v L') := by
  refine (tTake_any tb N (okB B bs) (absS L) t A0 c0 ids all W h.tab ht hI hwf hN (by simpa [absS, txsL] using hl)).mono ?_
  rintro e w' ⟨rfl, hT, hM⟩
  rw [abs_takeOk, hv]
  refine ⟨rfl, ⟨?_, hL ▸ inv_taken h.inv t ids all, fun b hb => Nat.lt_of_lt_of_le (h.old b hb) hM.size, Nat.le_trans h.base hM.size⟩, hM⟩
  rw [abs_taken, hL] at hT
  exact hT.mono (fun k hk => hk.elim id (okB_new h.base h.old))
def FreeB (B : Nat) (bs : List Nat) (W : World) (tb N : Nat) (L' : List S55) (e : Ending) (w' : World) : Prop :=
  e = .returned (.tuple #[]) ∧ TabB B bs w' tb N L' ∧ Mv (okB B bs) W w'
theorem free_law {B : Nat} {bs : List Nat} {W : World} {tb N : Nat} {L : List S55} (h : TabB B bs W tb N L) (t : S30) (ht : wfTx t) (L' : List S55) (hL : freeL L t = L') :
    Calls Try.prog 12 #[.pointer (some ⟨tb, 0, none⟩), .agg #[.int .i64 t.f0, .int .i64 t.f1]] W (FreeB B bs W tb N L') := by
  refine (tFree_any tb N (okB B bs) (absS L) t W h.tab ht).mono ?_
  rintro e w' ⟨rfl, hT, hM⟩
  rw [abs_free h.inv, hL] at hT
  exact ⟨rfl, ⟨hT, hL ▸ inv_free h.inv t, fun b hb => Nat.lt_of_lt_of_le (h.old b hb) hM.size, Nat.le_trans h.base hM.size⟩, hM⟩
theorem holder_law {B : Nat} {bs : List Nat} {W : World} {tb N : Nat} {L : List S55} (h : TabB B bs W tb N L) (id : Int) (hid : (Lit.int .i64 id).wf = true) (r : S30 × Bool) (hr : holderL L id = r) :
    Calls Try.prog 14 #[.pointer (some ⟨tb, 0, none⟩), .int .i64 id] W (HolderIs W r) := by
  have := tHolder_any tb N (okB B bs) (absS L) id W h.tab hid
  rwa [abs_holder h.inv, hr] at this
theorem all_law {B : Nat} {bs : List Nat} {W : World} {tb N : Nat} {L : List S55} (h : TabB B bs W tb N L) (hl : L.length * 16 ≤ 140737488355328) :
    Calls Try.prog 17 #[.pointer (some ⟨tb, 0, none⟩)] W (AllIs W (txsL L)) :=
  tAll_any tb N (okB B bs) (absS L) W h.tab (by simpa [absS, txsL] using hl)
def NewB (w : World) (e : Ending) (w' : World) : Prop := ∃ tb, e = .returned (.pointer (some ⟨tb, 0, none⟩)) ∧ TabB w.heap.size [] w' tb 0 [] ∧ Below w.heap.size w w'
theorem new_law (w : World) : Calls Try.prog 6 #[] w (NewB w) := by
  refine (new_any w).mono ?_
  rintro e w' ⟨tb, rfl, hT, hB⟩
  exact ⟨tb, rfl, ⟨hT.mono (fun k hk => ⟨hk, by simp⟩), inv_nil, fun b hb => by simp at hb, hB.size⟩, hB⟩
/-- A literal of numbers, in a block of its own. -/
theorem C_litI (W' : World) (b : Nat) (xs : List Int) (h : W'.heap[b]? = some (.cells (xs.map (Value.int .i64)).toArray 3 (0, 0))) (hm : xs.length ≤ 9223372036854775807) : Kd.C (Kd.int .i64) W' (some ⟨b, 0, none⟩) xs.length xs := by
  refine ⟨rfl, hm, fun _ => ⟨_, rfl, fun j p hj => ⟨[.int .i64 p], rfl, rfl, fun i u hu => ?_⟩⟩⟩
  have hs : (Kd.int .i64).sz = 1 := rfl
  rw [hs, Nat.mul_one]
  cases i with
  | zero =>
    have : u = .int .i64 p := by simpa using hu.symm
    subst this
    rw [Nat.add_zero, add_plain, blk_cell h]
    simp [hj]
  | succ i => simp at hu
theorem C_nilI (W : World) : Kd.C (Kd.int .i64) W none ([] : List Int).length [] := Kd.C_nil _ W
/-- A row of transactions, to be read. -/
def AllRow (w : World) (v : Value) (l : List S30) : Prop := ∃ A c, v = .slice A l.length c ∧ l.length ≤ c ∧ Kd.C k30 w A l.length l
theorem allRow_of {w : World} {base : Nat} {ok : Nat → Prop} {v : Value} {l : List S30} (h : Kd.R k30 30 w base ok v l) : AllRow w v l := Kd.R_reads h
theorem AllRow.below {w w1 : World} {v : Value} {l : List S30} (h : AllRow w v l) (hb : Below w.heap.size w w1) : AllRow w1 v l := by
  obtain ⟨A, c, e, hc, hC⟩ := h
  exact ⟨A, c, e, hc, Kd.C_below hC hb⟩
/-- A literal of one transaction. -/
theorem C_lit1 {W : World} {b : Nat} {t : S30} (h : W.heap[b]? = some (.cells #[.int .i64 t.f0, .int .i64 t.f1] 30 (0, 0))) : Kd.C k30 W (some ⟨b, 0, none⟩) 1 [t] := by
  refine ⟨rfl, by decide, fun _ => ⟨_, rfl, fun j p hj => ⟨[.int .i64 p.f0, .int .i64 p.f1], rfl, k30_mk W p, fun i u hu => ?_⟩⟩⟩
  cases j with
  | succ j => simp at hj
  | zero =>
    have e : t = p := by simpa using hj
    subst e
    have hs : k30.sz = 2 := rfl
    rw [Nat.zero_mul, Nat.zero_add, add_plain, blk_cell h]
    simpa using hu
theorem sameTxs_to (A : Option Addr) (c : Nat) (l : List S30) (A1 : Option Addr) (c1 : Nat) (m : List S30) (v : Bool) (w : World) (hv : sameL l m = v) (h : Kd.C k30 w A l.length l) (hc : l.length ≤ c) (h1 : Kd.C k30 w A1 m.length m) (hc1 : m.length ≤ c1) :
    Calls Try.prog 16 #[.slice A l.length c, .slice A1 m.length c1] w fun e w' => e = .returned (.bool v) ∧ Drawn0 w w' := by
  rw [← hv]
  exact sameTxs_any A c l A1 c1 m w h hc h1 hc1
def a1 : S30 := ⟨0, 1⟩
def a2 : S30 := ⟨0, 2⟩
theorem wf_a1 : wfTx a1 := ⟨by decide, by decide⟩
theorem wf_a2 : wfTx a2 := ⟨by decide, by decide⟩
set_option maxHeartbeats 8000000 in
set_option maxRecDepth 100000 in
theorem awake_any (w : World) : Calls Try.prog 19 #[] w fun e w' => e = .returned (.bool true) ∧ Below w.heap.size w w' := by
  go_enter Try.func19, Try.ntmps19
  go_wp2_with fail
  refine (new_law _).mono ?_
  rintro e w1 ⟨tb, rfl, hT, hB⟩
  have HT1 := Aside0.mk hT
  have HB1 := Aside0.mk hB
  clear hT hB
  go_wp2_with fail
  have hT := ((HT1.out.alloc (.cells #[.int .i64 0, .int .i64 1] 30)).alloc (.cells #[.int .i64 0, .int .i64 2] 30)).alloc (.cells #[.int .i64 1, .int .i64 2] 3)
  have hA := blk_alloc (blk_alloc (blk_new w1 (.cells #[.int .i64 0, .int .i64 1] 30)) (.cells #[.int .i64 0, .int .i64 2] 30)) (.cells #[.int .i64 1, .int .i64 2] 3)
  have hBx := blk_alloc (blk_new (w1.alloc (.cells #[.int .i64 0, .int .i64 1] 30)) (.cells #[.int .i64 0, .int .i64 2] 30)) (.cells #[.int .i64 1, .int .i64 2] 3)
  have hI := blk_new ((w1.alloc (.cells #[.int .i64 0, .int .i64 1] 30)).alloc (.cells #[.int .i64 0, .int .i64 2] 30)) (.cells #[.int .i64 1, .int .i64 2] 3)
  have hW := below_alloc (below_alloc (below_alloc HB1.out (.cells #[.int .i64 0, .int .i64 1] 30)) (.cells #[.int .i64 0, .int .i64 2] 30)) (.cells #[.int .i64 1, .int .i64 2] 3)
  simp only [World.size_alloc] at hT hBx hI
  refine (take_law hT a1 _ _ [1, 2] false wf_a1 (fun W' hM => C_litI W' (w1.heap.size + 1 + 1) [1, 2] (hM.blk hI (by simp)) (by decide)) (by decide) (by decide) (by decide) true [⟨a1, [1, 2], false⟩] rfl rfl).mono ?_
  rintro e w2 ⟨rfl, hT2, hM2⟩
  have HT2 := Aside0.mk hT2.drop
  have HB2 := Aside0.mk (Mv.low hW hM2 hT.base)
  have HbA := Aside0.mk (hM2.blk hA (by simp))
  have HbB := Aside0.mk (hM2.blk hBx (by simp))
  clear hT hA hBx hI hW hT2 hM2
  have bB0 : w2.cell? ⟨w1.heap.size + 1, 0, none⟩ = some (.int .i64 0) := (blk_cell HbB.out 0).trans rfl
  have bB1 : w2.cell? ⟨w1.heap.size + 1, 1, none⟩ = some (.int .i64 2) := (blk_cell HbB.out 1).trans rfl
  have bBl := blk_lt HbB.out
  go_wp2_with fail
  clear bB0 bB1 bBl
  have hT := HT2.out.alloc (.cells #[.int .i64 3, .int .i64 2] 3)
  have hI := blk_new w2 (.cells #[.int .i64 3, .int .i64 2] 3)
  have hW := below_alloc HB2.out (.cells #[.int .i64 3, .int .i64 2] 3)
  refine (take_law hT a2 _ _ [3, 2] false wf_a2 (fun W' hM => C_litI W' w2.heap.size [3, 2] (hM.blk hI (by simp)) (by decide)) (by decide) (by decide) (by decide) false [⟨a1, [1, 2], false⟩] rfl rfl).mono ?_
  rintro e w3 ⟨rfl, hT2, hM2⟩
  have HT3 := Aside0.mk hT2.drop
  have HB3 := Aside0.mk (Mv.low hW hM2 hT.base)
  replace HbA := Aside0.mk (hM2.blk (blk_alloc HbA.out _) (by simp))
  replace HbB := Aside0.mk (hM2.blk (blk_alloc HbB.out _) (by simp))
  clear hT hI hW hT2 hM2
  have bB0 : w3.cell? ⟨w1.heap.size + 1, 0, none⟩ = some (.int .i64 0) := (blk_cell HbB.out 0).trans rfl
  have bB1 : w3.cell? ⟨w1.heap.size + 1, 1, none⟩ = some (.int .i64 2) := (blk_cell HbB.out 1).trans rfl
  have bBl := blk_lt HbB.out
  go_wp2_with fail
  clear bB0 bB1 bBl
  refine (take_law HT3.out a2 none 0 [] true wf_a2 (fun W' _ => C_nilI W') (by decide) (by decide) (by decide) false [⟨a1, [1, 2], false⟩] rfl rfl).mono ?_
  rintro e w4 ⟨rfl, hT2, hM2⟩
  have HT4 := Aside0.mk hT2
  have HB4 := Aside0.mk (Mv.low HB3.out hM2 HT3.out.base)
  replace HbA := Aside0.mk (hM2.blk HbA.out (by simp))
  replace HbB := Aside0.mk (hM2.blk HbB.out (by simp))
  clear hT2 hM2
  have bB0 : w4.cell? ⟨w1.heap.size + 1, 0, none⟩ = some (.int .i64 0) := (blk_cell HbB.out 0).trans rfl
  have bB1 : w4.cell? ⟨w1.heap.size + 1, 1, none⟩ = some (.int .i64 2) := (blk_cell HbB.out 1).trans rfl
  have bBl := blk_lt HbB.out
  go_wp2_with fail
  clear bB0 bB1 bBl
  have hT := HT4.out.alloc (.cells #[.int .i64 3] 3)
  have hI := blk_new w4 (.cells #[.int .i64 3] 3)
  have hW := below_alloc HB4.out (.cells #[.int .i64 3] 3)
  refine (take_law hT a2 _ _ [3] false wf_a2 (fun W' hM => C_litI W' w4.heap.size [3] (hM.blk hI (by simp)) (by decide)) (by decide) (by decide) (by decide) true [⟨a1, [1, 2], false⟩, ⟨a2, [3], false⟩] rfl rfl).mono ?_
  rintro e w5 ⟨rfl, hT2, hM2⟩
  have HT5 := Aside0.mk hT2.drop
  have HB5 := Aside0.mk (Mv.low hW hM2 hT.base)
  replace HbA := Aside0.mk (hM2.blk (blk_alloc HbA.out _) (by simp))
  replace HbB := Aside0.mk (hM2.blk (blk_alloc HbB.out _) (by simp))
  clear hT hI hW hT2 hM2
  go_wp2_with fail
  refine (holder_law HT5.out 3 (by decide) (a2, true) rfl).mono ?_
  rintro e w6 ⟨rfl, hb⟩
  have HT6 := Aside0.mk (HT5.out.step hb)
  have HB6 := Aside0.mk (below_then HB5.out HB5.out.size hb)
  replace HbA := Aside0.mk (blk_below HbA.out hb)
  replace HbB := Aside0.mk (blk_below HbB.out hb)
  clear hb
  have bA0 : w6.cell? ⟨w1.heap.size, 0, none⟩ = some (.int .i64 0) := (blk_cell HbA.out 0).trans rfl
  have bA1 : w6.cell? ⟨w1.heap.size, 1, none⟩ = some (.int .i64 1) := (blk_cell HbA.out 1).trans rfl
  have bAl := blk_lt HbA.out
  go_wp2_with fail
  clear bA0 bA1 bAl
  have hT := HT6.out.alloc (.cells #[.int .i64 a2.f0, .int .i64 a2.f1] 30)
  have hH := blk_new w6 (.cells #[.int .i64 a2.f0, .int .i64 a2.f1] 30)
  have hW := below_alloc HB6.out (.cells #[.int .i64 a2.f0, .int .i64 a2.f1] 30)
  refine (free_law hT a1 wf_a1 [⟨a2, [3], false⟩] rfl).mono ?_
  rintro e w7 ⟨rfl, hT2, hM2⟩
  have HT7 := Aside0.mk hT2
  have HB7 := Aside0.mk (Mv.low hW hM2 hT.base)
  replace HbA := Aside0.mk (hM2.blk (blk_alloc HbA.out _) (by simp))
  replace HbB := Aside0.mk (hM2.blk (blk_alloc HbB.out _) (by simp))
  have HbH := Aside0.mk (hM2.blk hH (by simp))
  clear hT hH hW hT2 hM2
  go_wp2_with fail
  refine (holder_law HT7.out 1 (by decide) (z30, false) rfl).mono ?_
  rintro e w8 ⟨rfl, hb⟩
  have HT8 := Aside0.mk (HT7.out.step hb)
  have HB8 := Aside0.mk (below_then HB7.out HB7.out.size hb)
  replace HbA := Aside0.mk (blk_below HbA.out hb)
  replace HbB := Aside0.mk (blk_below HbB.out hb)
  replace HbH := Aside0.mk (blk_below HbH.out hb)
  clear hb
  go_wp2_with fail
  obtain ⟨W, hW⟩ : ∃ W : World, W = w8.alloc (.cells #[.int .i64 z30.f0, .int .i64 z30.f1] 30) := ⟨_, rfl⟩
  have HTW := Aside0.mk (show TabB w.heap.size _ W tb _ [⟨a2, [3], false⟩] from hW ▸ HT8.out.step (below_alloc (Below.refl _ _) _))
  have HBW := Aside0.mk (show Below w.heap.size w W from hW ▸ below_alloc HB8.out _)
  have HbBW := Aside0.mk (show W.heap[w1.heap.size + 1]? = some (.cells #[.int .i64 0, .int .i64 2] 30 (0, 0)) from hW ▸ blk_alloc HbB.out _)
  have HbHW := Aside0.mk (show W.heap[w6.heap.size]? = some (.cells #[.int .i64 a2.f0, .int .i64 a2.f1] 30 (0, 0)) from hW ▸ blk_alloc HbH.out _)
  rw [show w8.alloc (.cells #[.int .i64 z30.f0, .int .i64 z30.f1] 30) = W from hW.symm]
  clear hW HT8 HB8 HbA HbB HbH
  refine start_ (n := 36) (S := fun w' => Below W.heap.size W w') (ds := []) #[false, false, false, false, false, false, false, false, false, false, false, false, false, false, false, false, false, false, false, false, false, false, false, false, false, false, false, false, false, false, false, false, false, false, false, false] (by kernel_rfl) rfl rfl (below_drew (Below.refl _ _)) (fun hHeld => ?_)
  refine pure_ (i := 0) (N := (some 43)) (v := ?_) (a' := ?_) #[true, false, false, false, false, false, false, false, false, false, false, false, false, false, false, false, false, false, false, false, false, false, false, false, false, false, false, false, false, false, false, false, false, false, false, false] rfl rfl (by kernel_rfl) (fun _ _ _ h => h) (Or.inl ⟨by rfl, ?_⟩) ?_ ?_
  rotate_left
  · intro w'
    go_simp
    all_goals with_reducible rfl
  rotate_left
  · simp only [Act.put, List.setIfInBounds_toArray, List.set_cons_zero, List.set_cons_succ]
    rfl
  refine pure_ (i := 1) (N := (some 44)) (v := ?_) (a' := ?_) #[true, true, false, false, false, false, false, false, false, false, false, false, false, false, false, false, false, false, false, false, false, false, false, false, false, false, false, false, false, false, false, false, false, false, false, false] rfl rfl (by kernel_rfl) (fun _ _ _ h => h) (Or.inl ⟨by rfl, ?_⟩) ?_ ?_
  rotate_left
  · intro w'
    go_simp
    all_goals with_reducible rfl
  rotate_left
  · simp only [Act.put, List.setIfInBounds_toArray, List.set_cons_zero, List.set_cons_succ]
    rfl
  refine pure_ (i := 2) (N := (some 45)) (v := ?_) (a' := ?_) #[true, true, true, false, false, false, false, false, false, false, false, false, false, false, false, false, false, false, false, false, false, false, false, false, false, false, false, false, false, false, false, false, false, false, false, false] rfl rfl (by kernel_rfl) (fun _ _ _ h => h) (Or.inl ⟨by rfl, ?_⟩) ?_ ?_
  rotate_left
  · intro w'
    go_simp
    all_goals with_reducible rfl
  rotate_left
  · simp only [Act.put, List.setIfInBounds_toArray, List.set_cons_zero, List.set_cons_succ]
    rfl
  refine pure_ (i := 3) (N := (some 46)) (v := ?_) (a' := ?_) #[true, true, true, true, false, false, false, false, false, false, false, false, false, false, false, false, false, false, false, false, false, false, false, false, false, false, false, false, false, false, false, false, false, false, false, false] rfl rfl (by kernel_rfl) (fun _ _ _ h => h) (Or.inl ⟨by rfl, ?_⟩) ?_ ?_
  rotate_left
  · intro w'
    go_simp
    all_goals with_reducible rfl
  rotate_left
  · simp only [Act.put, List.setIfInBounds_toArray, List.set_cons_zero, List.set_cons_succ]
    rfl
  refine pure_ (i := 4) (N := (some 47)) (v := ?_) (a' := ?_) #[true, true, true, true, true, false, false, false, false, false, false, false, false, false, false, false, false, false, false, false, false, false, false, false, false, false, false, false, false, false, false, false, false, false, false, false] rfl rfl (by kernel_rfl) (fun _ _ _ h => h) (Or.inl ⟨by rfl, ?_⟩) ?_ ?_
  rotate_left
  · intro w'
    go_simp
    all_goals with_reducible rfl
  rotate_left
  · simp only [Act.put, List.setIfInBounds_toArray, List.set_cons_zero, List.set_cons_succ]
    rfl
  refine pure_ (i := 5) (N := (some 48)) (v := ?_) (a' := ?_) #[true, true, true, true, true, true, false, false, false, false, false, false, false, false, false, false, false, false, false, false, false, false, false, false, false, false, false, false, false, false, false, false, false, false, false, false] rfl rfl (by kernel_rfl) (fun _ _ _ h => h) (Or.inl ⟨by rfl, ?_⟩) ?_ ?_
  rotate_left
  · intro w'
    go_simp
    all_goals with_reducible rfl
  rotate_left
  · simp only [Act.put, List.setIfInBounds_toArray, List.set_cons_zero, List.set_cons_succ]
    rfl
  refine pure_ (i := 6) (N := (some 49)) (v := ?_) (a' := ?_) #[true, true, true, true, true, true, true, false, false, false, false, false, false, false, false, false, false, false, false, false, false, false, false, false, false, false, false, false, false, false, false, false, false, false, false, false] rfl rfl (by kernel_rfl) (fun _ _ _ h => h) (Or.inl ⟨by rfl, ?_⟩) ?_ ?_
  rotate_left
  · intro w'
    go_simp
    all_goals with_reducible rfl
  rotate_left
  · simp only [Act.put, List.setIfInBounds_toArray, List.set_cons_zero, List.set_cons_succ]
    rfl
  refine pure_ (i := 7) (N := (some 50)) (v := ?_) (a' := ?_) #[true, true, true, true, true, true, true, true, false, false, false, false, false, false, false, false, false, false, false, false, false, false, false, false, false, false, false, false, false, false, false, false, false, false, false, false] rfl rfl (by kernel_rfl) (fun _ _ _ h => h) (Or.inl ⟨by rfl, ?_⟩) ?_ ?_
  rotate_left
  · intro w'
    go_simp
    all_goals with_reducible rfl
  rotate_left
  · simp only [Act.put, List.setIfInBounds_toArray, List.set_cons_zero, List.set_cons_succ]
    rfl
  refine pure_ (i := 8) (N := (some 51)) (v := ?_) (a' := ?_) #[true, true, true, true, true, true, true, true, true, false, false, false, false, false, false, false, false, false, false, false, false, false, false, false, false, false, false, false, false, false, false, false, false, false, false, false] rfl rfl (by kernel_rfl) (fun _ _ _ h => h) (Or.inl ⟨by rfl, ?_⟩) ?_ ?_
  rotate_left
  · intro w'
    go_simp
    all_goals with_reducible rfl
  rotate_left
  · simp only [Act.put, List.setIfInBounds_toArray, List.set_cons_zero, List.set_cons_succ]
    rfl
  refine pure_ (i := 9) (N := (some 52)) (v := ?_) (a' := ?_) #[true, true, true, true, true, true, true, true, true, true, false, false, false, false, false, false, false, false, false, false, false, false, false, false, false, false, false, false, false, false, false, false, false, false, false, false] rfl rfl (by kernel_rfl) (fun _ _ _ h => h) (Or.inl ⟨by rfl, ?_⟩) ?_ ?_
  rotate_left
  · intro w'
    go_simp
    all_goals with_reducible rfl
  rotate_left
  · simp only [Act.put, List.setIfInBounds_toArray, List.set_cons_zero, List.set_cons_succ]
    rfl
  refine pure_ (i := 10) (N := (some 53)) (v := ?_) (a' := ?_) #[true, true, true, true, true, true, true, true, true, true, true, false, false, false, false, false, false, false, false, false, false, false, false, false, false, false, false, false, false, false, false, false, false, false, false, false] rfl rfl (by kernel_rfl) (fun _ _ _ h => h) (Or.inl ⟨by rfl, ?_⟩) ?_ ?_
  rotate_left
  · intro w'
    go_simp
    all_goals with_reducible rfl
  rotate_left
  · simp only [Act.put, List.setIfInBounds_toArray, List.set_cons_zero, List.set_cons_succ]
    rfl
  refine pure_ (i := 11) (N := (some 54)) (v := ?_) (a' := ?_) #[true, true, true, true, true, true, true, true, true, true, true, true, false, false, false, false, false, false, false, false, false, false, false, false, false, false, false, false, false, false, false, false, false, false, false, false] rfl rfl (by kernel_rfl) (fun _ _ _ h => h) (Or.inl ⟨by rfl, ?_⟩) ?_ ?_
  rotate_left
  · intro w'
    go_simp
    all_goals with_reducible rfl
  rotate_left
  · simp only [Act.put, List.setIfInBounds_toArray, List.set_cons_zero, List.set_cons_succ]
    rfl
  refine pure_ (i := 12) (N := (some 55)) (v := ?_) (a' := ?_) #[true, true, true, true, true, true, true, true, true, true, true, true, true, false, false, false, false, false, false, false, false, false, false, false, false, false, false, false, false, false, false, false, false, false, false, false] rfl rfl (by kernel_rfl) (fun _ _ _ h => h) (Or.inl ⟨by rfl, ?_⟩) ?_ ?_
  rotate_left
  · intro w'
    go_simp
    all_goals with_reducible rfl
  rotate_left
  · simp only [Act.put, List.setIfInBounds_toArray, List.set_cons_zero, List.set_cons_succ]
    rfl
  refine pure_ (i := 13) (N := (some 56)) (v := ?_) (a' := ?_) #[true, true, true, true, true, true, true, true, true, true, true, true, true, true, false, false, false, false, false, false, false, false, false, false, false, false, false, false, false, false, false, false, false, false, false, false] rfl rfl (by kernel_rfl) (fun _ _ _ h => h) (Or.inl ⟨by rfl, ?_⟩) ?_ ?_
  rotate_left
  · intro w'
    go_simp
    all_goals with_reducible rfl
  rotate_left
  · simp only [Act.put, List.setIfInBounds_toArray, List.set_cons_zero, List.set_cons_succ]
    rfl
  refine pure_ (i := 14) (N := (some 57)) (v := ?_) (a' := ?_) #[true, true, true, true, true, true, true, true, true, true, true, true, true, true, true, false, false, false, false, false, false, false, false, false, false, false, false, false, false, false, false, false, false, false, false, false] rfl rfl (by kernel_rfl) (fun _ _ _ h => h) (Or.inl ⟨by rfl, ?_⟩) ?_ ?_
  rotate_left
  · intro w'
    go_simp
    all_goals with_reducible rfl
  rotate_left
  · simp only [Act.put, List.setIfInBounds_toArray, List.set_cons_zero, List.set_cons_succ]
    rfl
  refine pure_ (i := 15) (N := (some 58)) (v := ?_) (a' := ?_) #[true, true, true, true, true, true, true, true, true, true, true, true, true, true, true, true, false, false, false, false, false, false, false, false, false, false, false, false, false, false, false, false, false, false, false, false] rfl rfl (by kernel_rfl) (fun _ _ _ h => h) (Or.inl ⟨by rfl, ?_⟩) ?_ ?_
  rotate_left
  · intro w'
    go_simp
    all_goals with_reducible rfl
  rotate_left
  · simp only [Act.put, List.setIfInBounds_toArray, List.set_cons_zero, List.set_cons_succ]
    rfl
  refine take_ (i := 16) (N := (some 59)) (v := ?_) (a' := ?_) #[true, true, true, true, true, true, true, true, true, true, true, true, true, true, true, true, true, false, false, false, false, false, false, false, false, false, false, false, false, false, false, false, false, false, false, false] rfl rfl (by kernel_rfl) (fun _ _ _ h => h) (Or.inl ⟨by rfl, ?_⟩) hHeld ?_ ?_
  rotate_left
  · intro w' hS'
    (try dsimp only at hS')
    have h0 : w'.cell? ⟨w6.heap.size, 0, none⟩ = some (.int .i64 a2.f0) := (blk_cell (blk_below HbHW.out hS') 0).trans rfl
    have h1 : w'.cell? ⟨w6.heap.size, 1, none⟩ = some (.int .i64 a2.f1) := (blk_cell (blk_below HbHW.out hS') 1).trans rfl
    go_simp
    all_goals with_reducible rfl
  rotate_left
  · simp only [Act.put, List.setIfInBounds_toArray, List.set_cons_zero, List.set_cons_succ]
    rfl
  refine take_ (i := 17) (N := (some 60)) (v := ?_) (a' := ?_) #[true, true, true, true, true, true, true, true, true, true, true, true, true, true, true, true, true, true, false, false, false, false, false, false, false, false, false, false, false, false, false, false, false, false, false, false] rfl rfl (by kernel_rfl) (fun _ _ _ h => h) (Or.inl ⟨by rfl, ?_⟩) hHeld ?_ ?_
  rotate_left
  · intro w' hS'
    (try dsimp only at hS')
    have b0 : w'.cell? ⟨w1.heap.size + 1, 0, none⟩ = some (.int .i64 0) := (blk_cell (blk_below HbBW.out hS') 0).trans rfl
    have b1 : w'.cell? ⟨w1.heap.size + 1, 1, none⟩ = some (.int .i64 2) := (blk_cell (blk_below HbBW.out hS') 1).trans rfl
    go_simp
    all_goals with_reducible rfl
  rotate_left
  · simp only [Act.put, List.setIfInBounds_toArray, List.set_cons_zero, List.set_cons_succ]
    rfl
  refine pure_ (i := 18) (N := (some 61)) (v := ?_) (a' := ?_) #[true, true, true, true, true, true, true, true, true, true, true, true, true, true, true, true, true, true, true, false, false, false, false, false, false, false, false, false, false, false, false, false, false, false, false, false] rfl rfl (by kernel_rfl) (fun _ _ _ h => h) (Or.inl ⟨by rfl, ?_⟩) ?_ ?_
  rotate_left
  · intro w'
    go_simp
    all_goals with_reducible rfl
  rotate_left
  · simp only [Act.put, List.setIfInBounds_toArray, List.set_cons_zero, List.set_cons_succ]
    rfl
  refine pure_ (i := 19) (N := (some 62)) (v := ?_) (a' := ?_) #[true, true, true, true, true, true, true, true, true, true, true, true, true, true, true, true, true, true, true, true, false, false, false, false, false, false, false, false, false, false, false, false, false, false, false, false] rfl rfl (by kernel_rfl) (fun _ _ _ h => h) (Or.inl ⟨by rfl, ?_⟩) ?_ ?_
  rotate_left
  · intro w'
    go_simp
    all_goals with_reducible rfl
  rotate_left
  · simp only [Act.put, List.setIfInBounds_toArray, List.set_cons_zero, List.set_cons_succ]
    rfl
  refine pure_ (i := 20) (N := (some 63)) (v := ?_) (a' := ?_) #[true, true, true, true, true, true, true, true, true, true, true, true, true, true, true, true, true, true, true, true, true, false, false, false, false, false, false, false, false, false, false, false, false, false, false, false] rfl rfl (by kernel_rfl) (fun _ _ _ h => h) (Or.inl ⟨by rfl, ?_⟩) ?_ ?_
  rotate_left
  · intro w'
    go_simp
    all_goals with_reducible rfl
  rotate_left
  · simp only [Act.put, List.setIfInBounds_toArray, List.set_cons_zero, List.set_cons_succ]
    rfl
  refine pure_ (i := 21) (N := (some 64)) (v := ?_) (a' := ?_) #[true, true, true, true, true, true, true, true, true, true, true, true, true, true, true, true, true, true, true, true, true, true, false, false, false, false, false, false, false, false, false, false, false, false, false, false] rfl rfl (by kernel_rfl) (fun _ _ _ h => h) (Or.inl ⟨by rfl, ?_⟩) ?_ ?_
  rotate_left
  · intro w'
    go_simp
    all_goals with_reducible rfl
  rotate_left
  · simp only [Act.put, List.setIfInBounds_toArray, List.set_cons_zero, List.set_cons_succ]
    rfl
  refine pure_ (i := 22) (N := (some 65)) (v := ?_) (a' := ?_) #[true, true, true, true, true, true, true, true, true, true, true, true, true, true, true, true, true, true, true, true, true, true, true, false, false, false, false, false, false, false, false, false, false, false, false, false] rfl rfl (by kernel_rfl) (fun _ _ _ h => h) (Or.inl ⟨by rfl, ?_⟩) ?_ ?_
  rotate_left
  · intro w'
    go_simp
    all_goals with_reducible rfl
  rotate_left
  · simp only [Act.put, List.setIfInBounds_toArray, List.set_cons_zero, List.set_cons_succ]
    rfl
  refine pure_ (i := 23) (N := (some 66)) (v := ?_) (a' := ?_) #[true, true, true, true, true, true, true, true, true, true, true, true, true, true, true, true, true, true, true, true, true, true, true, true, false, false, false, false, false, false, false, false, false, false, false, false] rfl rfl (by kernel_rfl) (fun _ _ _ h => h) (Or.inl ⟨by rfl, ?_⟩) ?_ ?_
  rotate_left
  · intro w'
    go_simp
    all_goals with_reducible rfl
  rotate_left
  · simp only [Act.put, List.setIfInBounds_toArray, List.set_cons_zero, List.set_cons_succ]
    rfl
  refine pure_ (i := 24) (N := (some 67)) (v := ?_) (a' := ?_) #[true, true, true, true, true, true, true, true, true, true, true, true, true, true, true, true, true, true, true, true, true, true, true, true, true, false, false, false, false, false, false, false, false, false, false, false] rfl rfl (by kernel_rfl) (fun _ _ _ h => h) (Or.inl ⟨by rfl, ?_⟩) ?_ ?_
  rotate_left
  · intro w'
    go_simp
    all_goals with_reducible rfl
  rotate_left
  · simp only [Act.put, List.setIfInBounds_toArray, List.set_cons_zero, List.set_cons_succ]
    rfl
  refine pure_ (i := 25) (N := (some 68)) (v := ?_) (a' := ?_) #[true, true, true, true, true, true, true, true, true, true, true, true, true, true, true, true, true, true, true, true, true, true, true, true, true, true, false, false, false, false, false, false, false, false, false, false] rfl rfl (by kernel_rfl) (fun _ _ _ h => h) (Or.inl ⟨by rfl, ?_⟩) ?_ ?_
  rotate_left
  · intro w'
    go_simp
    all_goals with_reducible rfl
  rotate_left
  · simp only [Act.put, List.setIfInBounds_toArray, List.set_cons_zero, List.set_cons_succ]
    rfl
  refine take_ (i := 27) (N := (some 70)) (v := ?_) (a' := ?_) #[true, true, true, true, true, true, true, true, true, true, true, true, true, true, true, true, true, true, true, true, true, true, true, true, true, true, false, true, false, false, false, false, false, false, false, false] rfl rfl (by kernel_rfl) (fun _ _ _ h => h) (Or.inl ⟨by rfl, ?_⟩) hHeld ?_ ?_
  rotate_left
  · intro w' hS'
    (try dsimp only at hS')
    have b0 : w'.cell? ⟨w1.heap.size + 1, 0, none⟩ = some (.int .i64 0) := (blk_cell (blk_below HbBW.out hS') 0).trans rfl
    have b1 : w'.cell? ⟨w1.heap.size + 1, 1, none⟩ = some (.int .i64 2) := (blk_cell (blk_below HbBW.out hS') 1).trans rfl
    go_simp
    all_goals with_reducible rfl
  rotate_left
  · simp only [Act.put, List.setIfInBounds_toArray, List.set_cons_zero, List.set_cons_succ]
    rfl
  refine join_ (σ := Value × Nat) 7 #[true, true, true, true, true, true, true, true, true, true, true, true, true, true, true, true, true, true, true, true, true, true, true, true, true, true, true, true, true, false, false, false, false, false, false, false] (fun s_ => [(69, s_.1), (71, .slice (some ⟨s_.2, 0, none⟩) 1 1)]) (fun s_ w' => Below W.heap.size W w' ∧ AllRow w' s_.1 [a2] ∧ w'.heap[s_.2]? = some (.cells #[.int .i64 0, .int .i64 2] 30 (0, 0))) ?_ ?_
  rotate_left
  · intro hCont
    refine two_ (i := 26) (j := 28) (Ni := some 69) (Nj := some 71) #[true, true, true, true, true, true, true, true, true, true, true, true, true, true, true, true, true, true, true, true, true, true, true, true, true, true, true, true, false, false, false, false, false, false, false, false] #[true, true, true, true, true, true, true, true, true, true, true, true, true, true, true, true, true, true, true, true, true, true, true, true, true, true, false, true, true, false, false, false, false, false, false, false] rfl rfl rfl rfl (by kernel_rfl) (by decide) (by decide) (fun K hK => ?_) (fun K hK => ?_)
    · refine goes_ Try.func17 (by kernel_rfl) rfl #[.pointer (some ⟨tb, 0, none⟩)] (by rfl) rfl rfl (by first | rfl | (simp only [List.map_toArray, List.map_cons, List.map_nil]; rfl)) ?_
      refine ((all_law (HTW.out.step hHeld) (by decide))).mono ?_
      rintro e w4 ⟨v4, rfl, hR4, hb4⟩
      refine ⟨_, rfl, ?_⟩
      have hrow := allRow_of hR4
      refine hK.out _ _ (below_then hHeld hHeld.size hb4) (fun hHeld => ?_)
      clear hK K
      refine norm_ (a' := ?_) ?_ ?_
      rotate_left
      · show Act.put _ (some 69) _ = _
        simp only [Act.put, List.setIfInBounds_toArray, List.set_cons_zero, List.set_cons_succ]
        rfl
      refine one_ (i := 28) (N := some 71) #[true, true, true, true, true, true, true, true, true, true, true, true, true, true, true, true, true, true, true, true, true, true, true, true, true, true, true, true, true, false, false, false, false, false, false, false] rfl rfl (by kernel_rfl) (by decide) (fun K hK => ?_)
      refine value_ (w1 := World.alloc w4 (.cells #[.int .i64 0, .int .i64 2] 30)) (v := .slice (some ⟨(w4).heap.size, 0, none⟩) 1 1) (by rfl) rfl (by first | (go_simp; done) | (go_simp; rfl)) ?_
      have hlit := blk_new w4 (.cells #[.int .i64 0, .int .i64 2] 30)
      replace hrow := hrow.below (below_alloc (Below.refl _ _) (.cells #[.int .i64 0, .int .i64 2] 30))
      refine hK.out _ _ (below_alloc hHeld _) (fun hHeld => ?_)
      clear hK K
      exact norm_ (by simp only [putAll, Act.put, List.setIfInBounds_toArray, List.set_cons_zero, List.set_cons_succ]; try rfl) (hCont (v4, _) _ ⟨hHeld, hrow, hlit⟩)
    · refine value_ (w1 := World.alloc W.drew (.cells #[.int .i64 0, .int .i64 2] 30)) (v := .slice (some ⟨(W.drew).heap.size, 0, none⟩) 1 1) (by rfl) rfl (by first | (go_simp; done) | (go_simp; rfl)) ?_
      have hlit := blk_new W.drew (.cells #[.int .i64 0, .int .i64 2] 30)
      refine hK.out _ _ (below_alloc hHeld _) (fun hHeld => ?_)
      clear hK K
      refine norm_ (a' := ?_) ?_ ?_
      rotate_left
      · show Act.put _ (some 71) _ = _
        simp only [Act.put, List.setIfInBounds_toArray, List.set_cons_zero, List.set_cons_succ]
        rfl
      refine one_ (i := 26) (N := some 69) #[true, true, true, true, true, true, true, true, true, true, true, true, true, true, true, true, true, true, true, true, true, true, true, true, true, true, true, true, true, false, false, false, false, false, false, false] rfl rfl (by kernel_rfl) (by decide) (fun K hK => ?_)
      refine goes_ Try.func17 (by kernel_rfl) rfl #[.pointer (some ⟨tb, 0, none⟩)] (by rfl) rfl rfl (by first | rfl | (simp only [List.map_toArray, List.map_cons, List.map_nil]; rfl)) ?_
      refine ((all_law (HTW.out.step hHeld) (by decide))).mono ?_
      rintro e w4 ⟨v4, rfl, hR4, hb4⟩
      refine ⟨_, rfl, ?_⟩
      have hrow := allRow_of hR4
      replace hlit := blk_below hlit hb4
      refine hK.out _ _ (below_then hHeld hHeld.size hb4) (fun hHeld => ?_)
      clear hK K
      exact norm_ (by simp only [putAll, Act.put, List.setIfInBounds_toArray, List.set_cons_zero, List.set_cons_succ]; try rfl) (hCont (v4, _) _ ⟨hHeld, hrow, hlit⟩)
  rintro ⟨v4, s4⟩ w4 ⟨hHeld, hRow, hLit⟩
  obtain ⟨A4, c4, rfl, hc4, hC4⟩ := hRow
  refine norm_ (a' := ?_) ?_ ?_
  rotate_left
  · simp only [putAll, Act.put, List.setIfInBounds_toArray, List.set_cons_zero, List.set_cons_succ]
    rfl
  refine one_ (i := 29) (N := (some 72)) #[true, true, true, true, true, true, true, true, true, true, true, true, true, true, true, true, true, true, true, true, true, true, true, true, true, true, true, true, true, true, false, false, false, false, false, false] rfl rfl (by kernel_rfl) (by decide) (fun K hK => ?_)
  refine goes_ Try.func16 (by kernel_rfl) rfl #[.slice A4 1 c4, .slice (some ⟨s4, 0, none⟩) 1 1] (by rfl) rfl rfl (by first | rfl | (simp only [List.map_toArray, List.map_cons, List.map_nil]; rfl)) ?_
  refine ((sameTxs_to A4 c4 [a2] _ _ [a2] true _ rfl hC4 hc4 (C_lit1 (t := a2) hLit) (Nat.le_refl _))).mono ?_
  rintro e w5 ⟨rfl, hb5⟩
  refine ⟨_, rfl, ?_⟩
  refine hK.out _ _ (below_then hHeld hHeld.size hb5.below) (fun hHeld => ?_)
  clear hK K
  refine norm_ (a' := ?_) ?_ ?_
  rotate_left
  · show Act.put _ (some 72) _ = _
    simp only [Act.put, List.setIfInBounds_toArray, List.set_cons_zero, List.set_cons_succ]
    rfl
  refine pure_ (i := 30) (N := (some 73)) (v := ?_) (a' := ?_) #[true, true, true, true, true, true, true, true, true, true, true, true, true, true, true, true, true, true, true, true, true, true, true, true, true, true, true, true, true, true, true, false, false, false, false, false] rfl rfl (by kernel_rfl) (fun _ _ _ h => h) (Or.inl ⟨by rfl, ?_⟩) ?_ ?_
  rotate_left
  · intro w'
    go_simp
    all_goals with_reducible rfl
  rotate_left
  · simp only [Act.put, List.setIfInBounds_toArray, List.set_cons_zero, List.set_cons_succ]
    rfl
  refine pure_ (i := 31) (N := (some 74)) (v := ?_) (a' := ?_) #[true, true, true, true, true, true, true, true, true, true, true, true, true, true, true, true, true, true, true, true, true, true, true, true, true, true, true, true, true, true, true, true, false, false, false, false] rfl rfl (by kernel_rfl) (fun _ _ _ h => h) (Or.inl ⟨by rfl, ?_⟩) ?_ ?_
  rotate_left
  · intro w'
    go_simp
    all_goals with_reducible rfl
  rotate_left
  · simp only [Act.put, List.setIfInBounds_toArray, List.set_cons_zero, List.set_cons_succ]
    rfl
  refine one_ (i := 32) (N := (some 75)) #[true, true, true, true, true, true, true, true, true, true, true, true, true, true, true, true, true, true, true, true, true, true, true, true, true, true, true, true, true, true, true, true, true, false, false, false] rfl rfl (by kernel_rfl) (by decide) (fun K hK => ?_)
  refine goes_ Try.func20 (by kernel_rfl) rfl #[.int .i64 0] (by rfl) rfl rfl (by first | rfl | (simp only [List.map_toArray, List.map_cons, List.map_nil]; rfl)) ?_
  refine ((num_any 0 _)).mono ?_
  rintro e w9 ⟨rfl, hb9⟩
  refine ⟨_, rfl, ?_⟩
  refine hK.out _ _ (below_then hHeld hHeld.size hb9.below) (fun hHeld => ?_)
  clear hK K
  refine norm_ (a' := ?_) ?_ ?_
  rotate_left
  · show Act.put _ (some 75) _ = _
    simp only [Act.put, List.setIfInBounds_toArray, List.set_cons_zero, List.set_cons_succ]
    rfl
  refine pure_ (i := 33) (N := (some 76)) (v := ?_) (a' := ?_) #[true, true, true, true, true, true, true, true, true, true, true, true, true, true, true, true, true, true, true, true, true, true, true, true, true, true, true, true, true, true, true, true, true, true, false, false] rfl rfl (by kernel_rfl) (fun _ _ _ h => h) (Or.inl ⟨by rfl, ?_⟩) ?_ ?_
  rotate_left
  · intro w'
    go_simp
    all_goals with_reducible rfl
  rotate_left
  · simp only [Act.put, List.setIfInBounds_toArray, List.set_cons_zero, List.set_cons_succ]
    rfl
  refine pure_ (i := 34) (N := (some 77)) (v := ?_) (a' := ?_) #[true, true, true, true, true, true, true, true, true, true, true, true, true, true, true, true, true, true, true, true, true, true, true, true, true, true, true, true, true, true, true, true, true, true, true, false] rfl rfl (by kernel_rfl) (fun _ _ _ h => h) (Or.inl ⟨by rfl, ?_⟩) ?_ ?_
  rotate_left
  · intro w'
    go_simp
    all_goals with_reducible rfl
  rotate_left
  · simp only [Act.put, List.setIfInBounds_toArray, List.set_cons_zero, List.set_cons_succ]
    rfl
  refine pure_ (i := 35) (N := (some 0)) (v := ?_) (a' := ?_) #[true, true, true, true, true, true, true, true, true, true, true, true, true, true, true, true, true, true, true, true, true, true, true, true, true, true, true, true, true, true, true, true, true, true, true, true] rfl rfl (by kernel_rfl) (fun _ _ _ h => h) (Or.inl ⟨by rfl, ?_⟩) ?_ ?_
  rotate_left
  · intro w'
    go_simp
    all_goals with_reducible rfl
  rotate_left
  · simp only [Act.put, List.setIfInBounds_toArray, List.set_cons_zero, List.set_cons_succ]
    rfl
  refine done_ (by kernel_rfl) ?_
  go_wp2
  go_ret
  exact ⟨rfl, below_then HBW.out HBW.out.size hHeld⟩
end Go.Proofs.Ytmmamceijnnfdaa.LK
