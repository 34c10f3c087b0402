/- What the program's table of locks answers: Free. -/
import Derived.Test.YtmmamceijnnfdaaLkD
import Derived.StillTailTactics
namespace Go.Proofs.Ytmmamceijnnfdaa.LK
open Go Go.RowKit Go.Maps Go.Proofs.YtmmamceijnnfdaaW.PrintWords Go.Proofs.YtmmamceijnnfdaaW.PrintLast Go.Proofs.YtmmamceijnnfdaaW.PrintMore Go.Proofs.Ytmmamceijnnfdaa.PLockActs
set_option linter.unusedVariables false
set_option linter.unusedSimpArgs false
attribute [local go_sem high] eqA30

def dropTx (t : S30) : Option S30 → Option S30
  | some u => if eqTx u t then none else some u
  | none => none
def freeS (S : TabS) (t : S30) : TabS := ⟨fun id => dropTx t (S.by_ id), dropTx t S.whole, S.row.filter (stays t)⟩
/-- .. while the loop is under way -/
def leftBy (t : S30) (m : Int → Option S30) (left : Lit → Bool) (id : Int) : Option S30 := if left (.int .i64 id) then m id else dropTx t (m id)
theorem isBy_congr {D : DataW Unit} {m m' : Int → Option S30} (h : IsBy D m) (he : ∀ id, (Lit.int .i64 id).wf = true → m' id = m id) : IsBy D m' :=
  ⟨h.1, fun id hid => by rw [he id hid]; exact h.2 id hid⟩
theorem isBy_start {D : DataW Unit} {m : Int → Option S30} (t : S30) (h : IsBy D m) : IsBy D (leftBy t m (Maps.has D)) := by
  refine isBy_congr h (fun id hid => ?_)
  unfold leftBy
  rw [(h.2 id hid).1]
  cases m id <;> rfl
theorem isBy_end {D : DataW Unit} {m : Int → Option S30} {t : S30} {left : Lit → Bool} (h : IsBy D (leftBy t m left)) (hl : ∀ kl, left kl = false) : IsBy D (fun id => dropTx t (m id)) := by
  refine isBy_congr h (fun id _ => ?_)
  unfold leftBy
  rw [hl]
  rfl
theorem isBy_met {D : DataW Unit} {m : Int → Option S30} {t : S30} {left : Lit → Bool} {x u v : Int} (h : IsBy D (leftBy t m left)) (hx : (Lit.int .i64 x).wf = true) (hlx : left (.int .i64 x) = true) (hat : ∀ zd, D.atKey (.int .i64 x) zd = txD ⟨u, v⟩) : m x = some ⟨u, v⟩ := by
  obtain ⟨h1, h2⟩ := h.2 x hx
  unfold leftBy at h1 h2
  rw [hlx, if_pos rfl] at h1 h2
  cases e : m x with
  | none =>
    rw [e] at h1
    have h3 := atKey_none h.1 h1
    have h4 := (h3 (.lit (.bool true))).symm.trans (hat _)
    simp [txD] at h4
  | some s =>
    have h3 := (h2 s e (.lit (.bool true))).symm.trans (hat _)
    rw [txD_inj h3]
theorem key_ne {a b : Int} (h : a ≠ b) : (Lit.int .i64 a).sameKey (.int .i64 b) = false := by
  simp [Lit.sameKey, h]
theorem isBy_goes {D : DataW Unit} {m : Int → Option S30} {t : S30} {left : Lit → Bool} {x u v : Int} (h : IsBy D (leftBy t m left)) (hm : m x = some ⟨u, v⟩) (he : eqTx ⟨u, v⟩ t = true) : IsBy (D.del (.int .i64 x)) (leftBy t m (fun z => left z && !z.sameKey (.int .i64 x))) := by
  refine isBy_congr (isBy_del h x) (fun id hid => ?_)
  unfold leftBy
  by_cases e : id = x
  · subst e
    simp [Lit.sameKey, hm, dropTx, he]
  · simp [key_ne e, e]
theorem isBy_stays {D : DataW Unit} {m : Int → Option S30} {t : S30} {left : Lit → Bool} {x u v : Int} (h : IsBy D (leftBy t m left)) (hm : m x = some ⟨u, v⟩) (he : eqTx ⟨u, v⟩ t = false) : IsBy D (leftBy t m (fun z => left z && !z.sameKey (.int .i64 x))) := by
  refine isBy_congr h (fun id hid => ?_)
  unfold leftBy
  by_cases e : id = x
  · subst e
    simp [Lit.sameKey, hm, dropTx, he]
  · simp [key_ne e]
theorem dropTx_wf {t : S30} {o : Option S30} (h : ∀ u, o = some u → wfTx u) : ∀ u, dropTx t o = some u → wfTx u := by
  intro u hu
  cases o with
  | none => cases hu
  | some s =>
    cases e : eqTx s t <;> simp [dropTx, e] at hu
    exact h u (by rw [hu])
theorem cells_ne {w : World} {a b n : Nat} {cs : Array Value} {T : TypeId} {k : TypeId} {R : Value → Option (DataW Unit × List MemPlace)} {D : DataW Unit} (h : w.heap[a]? = some (.cells cs T (0, 0))) (h' : w.ownsMap Try.prog k R b n D) : a ≠ b := by
  obtain ⟨es, clock, hb, _⟩ := h'
  rintro rfl
  rw [h] at hb
  cases hb
theorem row_apart {w : World} {ok : Nat → Prop} {v : Value} {l : List S30} {tb b1 n1 k1 b2 n2 k2 : Nat} {cs : Array Value} {R1 R2 : Value → Option (DataW Unit × List MemPlace)} {D1 D2 : DataW Unit} (h : Kd.R k30 30 w 0 ok v l) (h0 : w.heap[tb]? = some (.cells cs 52 (0, 0))) (h1 : w.ownsMap Try.prog k1 R1 b1 n1 D1) (h2 : w.ownsMap Try.prog k2 R2 b2 n2 D2) :
    Kd.R k30 30 w 0 (fun k => ok k ∧ k ≠ tb ∧ k ≠ b1 ∧ k ≠ b2) v l :=
  Kd.R_mono (Kd.R_bound h) (fun k hk => by
    obtain ⟨h3, _, _, q, hq, cells, hc⟩ := hk
    have hq' : q = 30 := by simpa [k30, Kd.iso, Kd.pair, Kd.int, Kd.scalar] using hq
    subst hq'
    exact ⟨h3, blk_ne hc h0 (by decide), cells_ne hc h1, cells_ne hc h2⟩)
theorem whole_del {w : World} {b : Nat} {o : Option S30} {t : S30} (h : w.ownsMap Try.prog 30 (plainElem Try.prog 4) b 1 ((wholeD o).del (txK t))) (ho : ∀ u, o = some u → wfTx u) (ht : wfTx t) : w.ownsMap Try.prog 30 (plainElem Try.prog 4) b 1 (wholeD (dropTx t o)) := by
  have e : (wholeD o).del (txK t) = wholeD (dropTx t o) := by
    cases o with
    | none => rfl
    | some u =>
      cases e : eqTx u t
      · have hne : txK u ≠ txK t := fun e2 => eqTx_false.1 e (txK_inj (ho u rfl) ht e2)
        simp [dropTx, e, wholeD, DataW.del, Maps.sameKey_ne hne]
      · rw [eqTx_iff] at e
        subst e
        have : (txK u).sameKey (txK u) = true := WideAt.sameKey_self (keyed30.key (txK_is ht))
        simp [dropTx, wholeD, DataW.del, this, eqTx]
  rw [e] at h
  exact h
def FreeIs (w : World) (ok : Nat → Prop) (tb N : Nat) (S : TabS) (t : S30) (e : Ending) (w' : World) : Prop :=
  e = .returned (.tuple #[]) ∧ Tab w' ok tb N (freeS S t) ∧ Mv ok w w'
set_option maxHeartbeats 4000000 in
set_option maxRecDepth 100000 in
theorem tFree_any (tb N : Nat) (ok : Nat → Prop) (S : TabS) (t : S30) (w : World) (h : Tab w ok tb N S) (ht : wfTx t) :
    Calls Try.prog 12 #[.pointer (some ⟨tb, 0, none⟩), .agg #[.int .i64 t.f0, .int .i64 t.f1]] w (FreeIs w ok tb N S t) := by
  obtain ⟨mb, wb, v, D, h1, h2, h3, h4, h5, h6, h7, h8, h9, h10⟩ := (Tab.bound h)
  obtain ⟨A, c, rfl, hc, hC⟩ := Kd.R_reads h10
  clear hC hc
  have c0 : w.cell? ⟨tb, 0, none⟩ = some (.map (some mb)) := (blk_cell h5 0).trans rfl
  have htl := blk_lt h5
  have hn : tb ≠ w.heap.size := Nat.ne_of_lt htl
  have hn' : w.heap.size ≠ tb := Ne.symm hn
  have K1 := Aside0.mk h1
  have K2 := Aside0.mk h2
  have K3 := Aside0.mk h3
  have K4 := Aside0.mk h4
  have H6 := Aside0.mk h6
  have H7 := Aside0.mk h7
  have H8 := Aside0.mk h8
  have H9 := Aside0.mk h9
  have H5 := Aside0.mk h5
  have H10 := Aside0.mk h10
  have HTx := Aside0.mk ht
  clear h1 h2 h3 h4 h5 h6 h7 h8 h9 h10 ht
  go_enter Try.func12, Try.ntmps12
  go_wp2_with (first
    | (at_range; refine wpList_range_own _ rfl _ 49 rfl 3 30 keyed3 Try.underlying49 _ mb N _ rfl (H6.out.alloc _) ?_; intro w0 hrg0 hg0 hs0)
    | go_in)
  go_frame
  rw [World.size_alloc] at hrg0 hs0 ⊢
  have HG0 := Aside0.mk ((Mv.refl ok w).alloc (.cells #[.int .i64 t.f0, .int .i64 t.f1] 30) |>.grown hg0 (fun k hk => by cases hk))
  have HX0 := Aside0.mk (blk_grown (blk_new w (.cells #[.int .i64 t.f0, .int .i64 t.f1] 30)) hg0 (by simp))
  have HF0 := Aside0.mk (fun k (hlt : k < w.heap.size) => (hg0.block k (by simp; omega) (by simp)).trans (Below.heap_alloc w _ k hlt))
  have HRg := Aside0.mk hrg0
  have Hs := Aside0.mk hs0
  clear hrg0 hg0 hs0 c0
  go_loopw [4] (fun _ wr => ∃ (left : Lit → Bool) (cnt : Nat) (D' : DataW Unit), wr.ranges Try.prog 3 txR mb (w.heap.size + 1) N D' left cnt ∧ Aside0 (IsBy D' (leftBy t S.by_ left)) ∧ Aside0 (Mv ok w wr) ∧ Aside0 (wr.heap[w.heap.size]? = some (.cells #[.int .i64 t.f0, .int .i64 t.f1] 30 (0, 0))) ∧ Aside0 (∀ k, ok k → k < w.heap.size → k ≠ mb → wr.heap[k]? = w.heap[k]?)) (fun _ wr => wr.rangeLeft mb (w.heap.size + 1))
  case atStart => exact ⟨_, _, D, HRg.out, ⟨isBy_start t H7.out⟩, HG0, HX0, ⟨fun k _ hlt _ => HF0.out k hlt⟩⟩
  case round =>
    obtain ⟨left, cnt, D', hrg, HI, HM, HX, HF⟩ := hrel
    have x0 : wr.cell? ⟨w.heap.size, 0, none⟩ = some (.int .i64 t.f0) := (blk_cell HX.out 0).trans rfl
    have x1 : wr.cell? ⟨w.heap.size, 1, none⟩ = some (.int .i64 t.f1) := (blk_cell HX.out 1).trans rfl
    have HRr := Aside0.mk hrg
    clear hrg x0 x1
    go_wp2_with (first
      | (at_next; refine wpList_next_by _ rfl _ rfl 3 keyed3 Try.underlying3 mb (w.heap.size + 1) N _ _ _ rfl HRr.out ?_ ?_)
      | go_in)
    · intro hc0 hl0
      have HD := Aside0.mk (isBy_end HI.out hl0)
      have HO := Aside0.mk HRr.out.owns
      clear hc0 hl0 HRr HI
      have hT := (HF.out tb K1.out.1 htl (cells_ne H5.out H6.out)).trans H5.out
      have HT := Aside0.mk hT
      have HW := Aside0.mk (ownsMap_step H8.out (HF.out wb K3.out.1 K3.out.2 (Ne.symm K4.out)))
      have c0 : wr.cell? ⟨tb, 0, none⟩ = some (.map (some mb)) := (blk_cell hT 0).trans rfl
      have c1 : wr.cell? ⟨tb, 1, none⟩ = some (.map (some wb)) := (blk_cell hT 1).trans rfl
      have x0 : wr.cell? ⟨w.heap.size, 0, none⟩ = some (.int .i64 t.f0) := (blk_cell HX.out 0).trans rfl
      have x1 : wr.cell? ⟨w.heap.size, 1, none⟩ = some (.int .i64 t.f1) := (blk_cell HX.out 1).trans rfl
      clear hT
      go_wp2_with fail
      go_still_tail 5, (by kernel_rfl)
      change wpList _ _ _ _ _ wr.drew
      go_wp2_with (first
        | (at_delete; go_must (refine wpList_delete_own _ rfl _ _ 50 30 rfl 4 keyed30 Try.underlying50 _ wb 1 _ rfl HW.out.drew _ _ rfl (txK_is HTx.out) ?_; intro w2 hown2 hturn2; have HO2 := Aside0.mk hown2; have HT2 := Aside0.mk hturn2; clear hown2 hturn2; have HK2 := Aside0.mk (fun k (ho : ok k) (hk : k < w.heap.size) (hm : k ≠ mb) (hq : k ≠ wb) => (HT2.out.grown.block k (Nat.lt_of_lt_of_le hk HM.out.size) (by simpa using hq)).trans (HF.out k ho hk hm)); have HT3 := Aside0.mk ((HK2.out tb K1.out.1 htl (cells_ne H5.out H6.out) (cells_ne H5.out H8.out)).trans H5.out); have HX3 := Aside0.mk (blk_grown (w := wr.drew) HX.out HT2.out.grown (by have := K3.out.2; simp; omega)); have HM3 := Aside0.mk (HM.out.drew.grown HT2.out.grown (fun k hk => by cases hk; exact Or.inl K3.out.1)); have c2 : w2.cell? ⟨tb, 2, none⟩ = some (.slice A S.row.length c) := (blk_cell HT3.out 2).trans rfl; have HR3 := Aside0.mk (Kd.R_mono (Kd.R_move (w1 := w2) (row_apart H10.out H5.out H6.out H8.out) (fun k hk => HK2.out k hk.1.1 hk.1.2 hk.2.2.1 hk.2.2.2)) (fun k hk => hk))))
        | (go_at_call 25; refine (deleteFunc_any A c S.row (fun k => (ok k ∧ k < w.heap.size) ∧ k ≠ tb ∧ k ≠ mb ∧ k ≠ wb) w.heap.size t _ HR3.out HX3.out (fun hk => Nat.lt_irrefl _ hk.1.2)).mono ?_; rintro e w3 ⟨v3, rfl, ho3, hm3⟩; obtain ⟨A3, c3, rfl, hc3, hC3⟩ := Kd.R_reads ho3; clear hc3 hC3; have HT4 := Aside0.mk ((hm3.keep tb (blk_lt HT3.out) (fun hk => hk.2.1 rfl)).trans HT3.out); have HR4 := Aside0.mk ho3; have HM4 := Aside0.mk hm3; clear ho3 hm3 c2; have c2 : w3.cell? ⟨tb, 2, none⟩ = some (.slice A S.row.length c) := (blk_cell HT4.out 2).trans rfl; have f2 : w3.frozen? ⟨tb, 2, none⟩ = false := blk_frozen HT4.out 2)
        | go_in)
      go_end0
      have hmb : mb < w2.heap.size := Nat.lt_of_lt_of_le K2.out.2 HM3.out.size
      have hwb : wb < w2.heap.size := Nat.lt_of_lt_of_le K3.out.2 HM3.out.size
      have e1 := HM4.out.keep mb hmb (fun hk => hk.2.2.1 rfl)
      have e2 := HM4.out.keep wb hwb (fun hk => hk.2.2.2 rfl)
      have hbm : mb ≠ wb := K4.out
      refine ⟨rfl, ⟨mb, wb, _, _, K1.out.1, K2.out.1, K3.out.1, K4.out, blk_put HT4.out 2 _ rfl, ownsMap_step HO.out ?_, HD.out, ownsMap_step (whole_del HO2.out H9.out HTx.out) ?_, dropTx_wf H9.out, ?_⟩, ?_⟩
      · exact (Below.heap_setCell _ _ _ _ (Ne.symm (cells_ne H5.out H6.out))).trans (e1.trans (HT2.out.grown.block mb (Nat.lt_of_lt_of_le K2.out.2 HM.out.size) (by simpa using hbm)))
      · exact (Below.heap_setCell _ _ _ _ (Ne.symm (cells_ne H5.out H8.out))).trans e2
      · exact Kd.R_mono (Kd.R_far (p := ⟨tb, 2, none⟩) HR4.out (fun k hk => hk.2.1) _) (fun k hk => hk.1.1)
      · exact ((HM3.out.then_ HM4.out (fun k hk => Or.inl hk.1.1)).setCell (Or.inl K1.out.1) _)
    · intro x u v w1 cnt1 hwx hlx hat hrg1 hlt hg1 hs1 hen
      have HM1 := Aside0.mk (HM.out.grown hg1 (fun k hk => by cases hk; omega))
      have hX1 := blk_grown HX.out hg1 (by simp)
      have HX1 := Aside0.mk hX1
      have HF1 := Aside0.mk (fun k (ho : ok k) (hk : k < w.heap.size) (hm : k ≠ mb) => (hg1.block k (Nat.lt_of_lt_of_le hk HM.out.size) (by simp; omega)).trans (HF.out k ho hk hm))
      have hT1 := (HF1.out tb K1.out.1 htl (cells_ne H5.out H6.out)).trans H5.out
      have hl1 : w.heap.size < w1.heap.size := blk_lt hX1
      have hl2 : tb < w1.heap.size := blk_lt hT1
      have hm := isBy_met HI.out hwx hlx hat
      have Hm := Aside0.mk hm
      have HL := Aside0.mk hlt
      have HR1 := Aside0.mk hrg1
      have x0 : w1.cell? ⟨w.heap.size, 0, none⟩ = some (.int .i64 t.f0) := (blk_cell hX1 0).trans rfl
      have x1 : w1.cell? ⟨w.heap.size, 1, none⟩ = some (.int .i64 t.f1) := (blk_cell hX1 1).trans rfl
      have c0 : w1.cell? ⟨tb, 0, none⟩ = some (.map (some mb)) := (blk_cell hT1 0).trans rfl
      clear hX1 hT1 hm hlt hrg1 hg1 hs1 hlx hat
      go_wp2_with (first
        | (at_delete; refine wpList_delete_ranges _ rfl _ _ 49 3 rfl 30 keyed3 Try.underlying49 _ mb (w.heap.size + 1) N _ _ _ rfl (HR1.out.alloc _) _ _ rfl (keyOf_int_mk Try.underlying3 hwx) ?_; intro w2 cnt2 hrg2 hle hturn; have HR2 := Aside0.mk hrg2; have HL2 := Aside0.mk hle; have HT2 := Aside0.mk hturn; clear hrg2 hle hturn; go_frame)
        | go_in)
      · have he : (u == t.f0) = true ∧ (v == t.f1) = true := by assumption
        have HM2 := Aside0.mk ((HM1.out.alloc (.cells #[.int .i64 u, .int .i64 v] 30)).grown HT2.out.grown (fun k hk => by cases hk; exact Or.inl K2.out.1))
        have hmb : mb < w.heap.size := K2.out.2
        have HX2 := Aside0.mk (blk_grown (blk_alloc HX1.out (.cells #[.int .i64 u, .int .i64 v] 30)) HT2.out.grown (by simp; omega))
        have HF2 := Aside0.mk (fun k (ho : ok k) (hk : k < w.heap.size) (hm : k ≠ mb) => ((HT2.out.grown.block k (by simp; have := HM1.out.size; omega) (by simp; omega)).trans (Below.heap_alloc w1 _ k (Nat.lt_of_lt_of_le hk HM1.out.size))).trans (HF1.out k ho hk hm))
        have h9 := HR2.out
        rw [Maps.strike_twice] at h9
        go_roundw
        case rel => exact ⟨_, _, _, h9, ⟨isBy_goes HI.out Hm.out (by simp [eqTx, he.1, he.2])⟩, HM2, HX2, HF2⟩
        case measure => rw [h9.left_eq, HRr.out.left_eq]; have := HL.out; have := HL2.out; omega
      · have he : (u == t.f0) = false ∨ (v == t.f1) = false := by assumption
        have h9 := HR1.out.alloc (.cells #[.int .i64 u, .int .i64 v] 30)
        go_roundw
        case rel => exact ⟨_, _, _, h9, ⟨isBy_stays HI.out Hm.out (by rcases he with he | he <;> simp [eqTx, he])⟩, ⟨HM1.out.alloc _⟩, ⟨blk_alloc HX1.out _⟩, ⟨fun k ho hk hm => (Below.heap_alloc w1 _ k (Nat.lt_of_lt_of_le hk HM1.out.size)).trans (HF1.out k ho hk hm)⟩⟩
        case measure => rw [h9.left_eq, HRr.out.left_eq]; exact HL.out
end Go.Proofs.Ytmmamceijnnfdaa.LK
