/- What the document's own locks answer: Take. -/
import Derived.Test.YtmmamceijnnfdaaLkF
import Derived.Test.YtmmamceijnnfdaaLkG
namespace Go.Proofs.Ytmmamceijnnfdaa.LK
open Go Go.RowKit Go.Maps Go.Proofs.YtmmamceijnnfdaaW.PrintWords Go.Proofs.YtmmamceijnnfdaaW.PrintLast Go.Proofs.YtmmamceijnnfdaaW.PrintMore Go.Proofs.Ytmmamceijnnfdaa.PLockActs
set_option linter.unusedVariables false
set_option linter.unusedSimpArgs false
attribute [local go_sem high] eqA30

/-- does a holder let a newcomer by? -/
def apartL (t : S30) (ids : List Int) (all : Bool) (x : S55) : Bool := !(eqTx x.f0 t || x.f2 || all) && ids.all fun id => !hasId x.f1 id
def takeOkL (L : List S55) (t : S30) (ids : List Int) (all : Bool) : Bool := L.all (apartL t ids all)
def takenL (L : List S55) (t : S30) (ids : List Int) (all : Bool) : List S55 := if takeOkL L t ids all then L ++ [⟨t, ids, all⟩] else L
def RTakeIs (w : World) (ok : Nat → Prop) (rb : Nat) (L : List S55) (t : S30) (ids : List Int) (all : Bool) (e : Ending) (w' : World) : Prop :=
  e = .returned (.bool (takeOkL L t ids all)) ∧ Lks w' (fun k => ok k ∨ w.heap.size ≤ k) rb (takenL L t ids all) ∧ Mv ok w w'
theorem okL_next (L : List S55) (t : S30) (ids : List Int) (all : Bool) (k : Nat) (hk : k < L.length) : takeOkL (L.take (k + 1)) t ids all = (takeOkL (L.take k) t ids all && apartL t ids all (rd_T55 L k)) := by
  unfold takeOkL
  rw [List.take_succ_eq_append_getElem hk, List.all_append]
  have e : rd_T55 L k = L[k] := by unfold rd_T55; simp [hk]
  rw [e]
  simp
theorem okL_stop (L : List S55) (t : S30) (ids : List Int) (all : Bool) (k : Nat) (hk : k < L.length) (h : apartL t ids all (rd_T55 L k) = false) : takeOkL L t ids all = false := by
  unfold takeOkL
  rw [List.all_eq_false]
  exact ⟨rd_T55 L k, by unfold rd_T55; simp [hk], by rw [h]; simp⟩
def apartIds (x : S55) (ids : List Int) : Bool := ids.all fun id => !hasId x.f1 id
theorem apartIds_next (x : S55) (ids : List Int) (k : Nat) (hk : k < ids.length) : apartIds x (ids.take (k + 1)) = (apartIds x (ids.take k) && !hasId x.f1 (rd ids k)) := by
  unfold apartIds
  rw [List.take_succ_eq_append_getElem hk, List.all_append]
  have e : rd ids k = ids[k] := by unfold rd; simp [hk]
  rw [e]
  simp
theorem apartIds_stop (x : S55) (ids : List Int) (k : Nat) (hk : k < ids.length) (h : hasId x.f1 (rd ids k) = true) : apartIds x ids = false := by
  unfold apartIds
  rw [List.all_eq_false]
  exact ⟨_, rd_mem ids k hk, by rw [h]; simp⟩
theorem row_two {w w1 w2 : World} {ok : Nat → Prop} {v v1 : Value} {l : List S55} {a rb : Nat} (h : Kd.R k55 55 w 0 (fun k => (ok k ∧ k < a) ∧ k ≠ rb) v l) (h1 : w.drew.grownBy w1 none) (h2 : w1.grownBy w2 v1.ownBlock) (hv : ∀ k, v1.ownBlock = some k → a < k) : Kd.R k55 55 w2 0 (fun k => (ok k ∧ k < a) ∧ k ≠ rb) v l :=
  Kd.R_step h (fun k hk hlt => (h2.block k (Nat.lt_of_lt_of_le hlt h1.size) (fun e => Nat.lt_asymm hk.1.2 (hv k e.symm))).trans (h1.block k hlt (by simp)))
set_option maxHeartbeats 8000000 in
set_option maxRecDepth 100000 in
theorem rTake_any (rb : Nat) (ok : Nat → Prop) (L : List S55) (t : S30) (A0 : Option Addr) (c0 : Nat) (ids : List Int) (all : Bool) (w : World) (h : Lks w ok rb L)
    (hI : ∀ W, Mv ok w W → Kd.C (Kd.int .i64) W A0 ids.length ids) (hil : ids.length * 8 ≤ 140737488355328) (hl : (L.length + 1) * 48 ≤ 140737488355328) :
    Calls Try.prog 9 #[.pointer (some ⟨rb, 0, none⟩), .agg #[.int .i64 t.f0, .int .i64 t.f1], .slice A0 ids.length c0, .bool all] w (RTakeIs w ok rb L t ids all) := by
  have HLk := Aside0.mk h
  obtain ⟨v, h1, h2, h3⟩ := Lks.bound h
  obtain ⟨A, c, rfl, hc, hC⟩ := Kd.R_reads h3
  have hrl := blk_lt h2
  have hn : rb ≠ w.heap.size := Nat.ne_of_lt hrl
  have hn' : w.heap.size ≠ rb := Ne.symm hn
  have H1 := Aside0.mk h1
  have H2 := Aside0.mk h2
  have H3 := Aside0.mk h3
  have HC := Aside0.mk hC
  have HL := Aside0.mk hl
  have HIl := Aside0.mk hil
  have HI := Aside0.mk hI
  have hmax := C_max hC
  have hids := C_max (hI w (Mv.refl _ _))
  clear h h1 h2 h3 hC hl hil hI
  go_enter Try.func9, Try.ntmps9
  go_wp2
  go_loopw [9] (fun i wr => ∃ k : Nat, k ≤ L.length ∧ i = .int .i64 k ∧ Aside0 (takeOkL (L.take k) t ids all = true) ∧ Aside0 (Below w.heap.size w wr) ∧ Aside0 (wr.heap[w.heap.size]? = some (.cells #[.int .i64 t.f0, .int .i64 t.f1] 30 (0, 0)))) (fun i _ => L.length - (intOf i).toNat)
  case atStart => exact ⟨0, Nat.zero_le _, rfl, ⟨rfl⟩, ⟨below_alloc (Below.refl _ _) _⟩, ⟨blk_new w _⟩⟩
  case round =>
    obtain ⟨k, hk, rfl, HO, HB, HX⟩ := hrel
    have r0 : wr.cell? ⟨rb, 0, none⟩ = some (.slice A L.length c) := (HB.out.cell (p := ⟨rb, 0, none⟩) hrl).trans ((blk_cell H2.out 0).trans rfl)
    have x0 : wr.cell? ⟨w.heap.size, 0, none⟩ = some (.int .i64 t.f0) := (blk_cell HX.out 0).trans rfl
    have x1 : wr.cell? ⟨w.heap.size, 1, none⟩ = some (.int .i64 t.f1) := (blk_cell HX.out 1).trans rfl
    have hl0 := blk_lt HX.out
    by_cases hlt : k < L.length
    · obtain ⟨ad, A2, c2, e1, hx0, hx1, hx2, hx3, hl2, hC2⟩ := at_T55 HC.out (k : Int) (by omega) (by omega)
      subst e1
      replace hx0 := (HB.out.cell (World.block_lt_of_cell? w _ hx0)).trans hx0
      replace hx1 := (HB.out.cell (World.block_lt_of_cell? w _ hx1)).trans hx1
      replace hx2 := (HB.out.cell (World.block_lt_of_cell? w _ hx2)).trans hx2
      replace hx3 := (HB.out.cell (World.block_lt_of_cell? w _ hx3)).trans hx3
      rw [show ((k : Int)).toNat = k by omega] at hx0 hx1 hx2 hx3
      have HC2 := Aside0.mk hC2
      obtain ⟨p, hp⟩ : ∃ p, p = rd_T55 L k := ⟨_, rfl⟩
      have HP := Aside0.mk hp
      rw [← hp] at hx0 hx1 hx2 hx3 HC2 hl2
      clear hC2 hp
      go_wp2_with fail
      · have hq : p.f2 = true := by assumption
        go_ret
        have e1 : takeOkL L t ids all = false := okL_stop L t ids all k hlt (by rw [← HP.out]; unfold apartL eqTx; simp [hq])
        refine ⟨by rw [e1]; rfl, ?_, (Mv.of_below HB.out).alloc _⟩
        unfold takenL
        rw [e1, if_neg (by simp)]
        exact (HLk.out.step (fun k _ hk => (below_alloc HB.out _).block k hk)).mono (fun k hk => Or.inl hk)
      · have hq : (p.f0.f0 == t.f0) = true ∧ (p.f0.f1 == t.f1) = true ∨ all = true := by assumption
        go_ret
        have e1 : takeOkL L t ids all = false := okL_stop L t ids all k hlt (by rw [← HP.out]; unfold apartL eqTx; rcases hq with ⟨h1, h2⟩ | h1; (rw [h1, h2]; rfl); simp [h1])
        refine ⟨by rw [e1]; rfl, ?_, (Mv.of_below HB.out).alloc _⟩
        unfold takenL
        rw [e1, if_neg (by simp)]
        exact (HLk.out.step (fun k _ hk => (below_alloc HB.out _).block k hk)).mono (fun k hk => Or.inl hk)
      · have hq : ((p.f0.f0 == t.f0) = false ∨ (p.f0.f1 == t.f1) = false) ∧ all = false := by assumption
        have hq2 : ¬ p.f2 = true := by assumption
        have HAp := Aside0.mk (show apartL t ids all p = apartIds p ids by
          unfold apartL eqTx apartIds
          have h3 : p.f2 = false := by simpa using hq2
          rcases hq with ⟨h1 | h1, h2⟩ <;> simp [h1, h2, h3])
        obtain ⟨wo, hwo⟩ : ∃ wo : World, wo = wr := ⟨_, rfl⟩
        subst hwo
        go_loopw [11] (fun j wr => ∃ m : Nat, m ≤ ids.length ∧ j = .int .i64 m ∧ Aside0 (apartIds p (ids.take m) = true) ∧ Aside0 (Below w.heap.size w wr) ∧ Aside0 (wr.heap[w.heap.size]? = some (.cells #[.int .i64 t.f0, .int .i64 t.f1] 30 (0, 0))) ∧ Aside0 (wr.heap[wo.heap.size]? = some (.cells #[.int .i64 p.f0.f0, .int .i64 p.f0.f1, .slice A2 p.f1.length c2, .bool false] 55 (0, 0)))) (fun j _ => ids.length - (intOf j).toNat)
        case atStart => exact ⟨0, Nat.zero_le _, rfl, ⟨rfl⟩, ⟨below_alloc HB.out _⟩, ⟨blk_alloc HX.out _⟩, ⟨blk_new wo _⟩⟩
        case round =>
          obtain ⟨m, hm, rfl, HA, HB2, HX2, HY2⟩ := hrel
          by_cases hlm : m < ids.length
          · obtain ⟨ad2, e2, hc2⟩ := atInt (HI.out _ (Mv.of_below HB2.out)) m hlm
            subst e2
            have y2 : wr.cell? ⟨wo.heap.size, 1, none⟩ = some (.int .i64 p.f0.f1) := (blk_cell HY2.out 1).trans rfl
            have y3 : wr.cell? ⟨wo.heap.size, 2, none⟩ = some (.slice A2 p.f1.length c2) := (blk_cell HY2.out 2).trans rfl
            cases hh : hasId p.f1 (rd ids m)
            · have HH := Aside0.mk hh
              clear hh
              go_wp2_with fail
              go_quiet ((go_at_call 23; exact Calls.quiet_of ((hasId_to _ _ _ _ _ _ HH.out (Kd.C_below HC2.out (pw_below_drewN HB2.out _)) hl2).mono fun _ _ h => ⟨h.1, h.2.out⟩)))
              go_wp2_with fail
              go_roundw
              case rel => exact ⟨m + 1, by omega, by go_num, ⟨by rw [apartIds_next p ids m hlm, HA.out, HH.out]; rfl⟩, ⟨pw_below_drewN HB2.out _⟩, ⟨HX2.out⟩, ⟨HY2.out⟩⟩
              case measure => simp [intOf]; omega
            · have HH := Aside0.mk hh
              clear hh
              go_wp2_with fail
              go_quiet ((go_at_call 23; exact Calls.quiet_of ((hasId_to _ _ _ _ _ _ HH.out (Kd.C_below HC2.out (pw_below_drewN HB2.out _)) hl2).mono fun _ _ h => ⟨h.1, h.2.out⟩)))
              go_wp2_with fail
              go_ret
              have e1 : takeOkL L t ids all = false := okL_stop L t ids all k hlt (by rw [← HP.out, HAp.out]; exact apartIds_stop p ids m hlm HH.out)
              refine ⟨by rw [e1]; rfl, ?_, (Mv.of_below HB2.out).drewN _⟩
              unfold takenL
              rw [e1, if_neg (by simp)]
              exact (HLk.out.step (fun k _ hk => (pw_below_drewN HB2.out _).block k hk)).mono (fun k hk => Or.inl hk)
          · obtain rfl : m = ids.length := by omega
            rw [List.take_length] at HA
            go_wp2_with fail
            go_roundw
            case rel => exact ⟨k + 1, by omega, by go_num, ⟨by rw [okL_next L t ids all k hlt, HO.out, ← HP.out, HAp.out, HA.out]; rfl⟩, HB2, HX2⟩
            case measure => simp [intOf]; omega
      · have hq : ¬(¬p.f0.f0 = t.f0 ∨ ¬p.f0.f1 = t.f1) := by assumption
        go_ret
        have e1 : takeOkL L t ids all = false := okL_stop L t ids all k hlt (by rw [← HP.out]; unfold apartL eqTx; have h1 : p.f0.f0 = t.f0 ∧ p.f0.f1 = t.f1 := (by constructor <;> (apply Classical.byContradiction; intro h; exact hq (by simp [h]))); rw [h1.1, h1.2]; simp)
        refine ⟨by rw [e1]; rfl, ?_, (Mv.of_below HB.out).alloc _⟩
        unfold takenL
        rw [e1, if_neg (by simp)]
        exact (HLk.out.step (fun k _ hk => (below_alloc HB.out _).block k hk)).mono (fun k hk => Or.inl hk)
    · obtain rfl : k = L.length := by omega
      rw [List.take_length] at HO
      obtain ⟨W, hW⟩ : ∃ W : World, W = wr := ⟨_, rfl⟩
      subst hW
      have hT := (HB.out.block rb hrl).trans H2.out
      have HT := Aside0.mk hT
      have HC0 := Aside0.mk (HI.out W (Mv.of_below HB.out))
      have HRow := Aside0.mk (Kd.R_below (rowL_apart H3.out H2.out) HB.out)
      clear x0 x1 hT
      go_wp2_with fail
      have hWl := blk_lt HX.out
      refine start_ (n := 16) (S := fun w' => w'.heap[rb]? = some (.cells #[.slice A L.length c] 28 (0, 0)) ∧ w'.heap[w.heap.size]? = some (.cells #[.int .i64 t.f0, .int .i64 t.f1] 30 (0, 0))) (ds := [15]) #[false, false, false, false, false, false, false, false, false, false, false, false, false, false, false, false] (by kernel_rfl) rfl rfl (⟨HT.out, HX.out⟩) (fun hHeld => ?_)
      refine pure_ (i := 0) (N := (some 52)) (v := ?_) (a' := ?_) #[true, false, false, false, false, false, false, false, false, false, false, false, false, false, false, false] rfl rfl (by kernel_rfl) (fun _ _ _ h => h) (Or.inl ⟨by rfl, ?_⟩) ?_ ?_
      rotate_left
      · intro w'
        go_simp
        all_goals with_reducible rfl
      rotate_left
      · simp only [Act.put, List.setIfInBounds_toArray, List.set_cons_zero, List.set_cons_succ]
        rfl
      refine pure_ (i := 1) (N := (some 53)) (v := ?_) (a' := ?_) #[true, true, false, false, false, false, false, false, false, false, false, false, false, false, false, false] rfl rfl (by kernel_rfl) (fun _ _ _ h => h) (Or.inl ⟨by rfl, ?_⟩) ?_ ?_
      rotate_left
      · intro w'
        go_simp
        all_goals with_reducible rfl
      rotate_left
      · simp only [Act.put, List.setIfInBounds_toArray, List.set_cons_zero, List.set_cons_succ]
        rfl
      refine pure_ (i := 2) (N := (some 54)) (v := ?_) (a' := ?_) #[true, true, true, false, false, false, false, false, false, false, false, false, false, false, false, false] rfl rfl (by kernel_rfl) (fun _ _ _ h => h) (Or.inl ⟨by rfl, ?_⟩) ?_ ?_
      rotate_left
      · intro w'
        go_simp
        all_goals with_reducible rfl
      rotate_left
      · simp only [Act.put, List.setIfInBounds_toArray, List.set_cons_zero, List.set_cons_succ]
        rfl
      refine pure_ (i := 3) (N := (some 55)) (v := ?_) (a' := ?_) #[true, true, true, true, false, false, false, false, false, false, false, false, false, false, false, false] rfl rfl (by kernel_rfl) (fun _ _ _ h => h) (Or.inl ⟨by rfl, ?_⟩) ?_ ?_
      rotate_left
      · intro w'
        go_simp
        all_goals with_reducible rfl
      rotate_left
      · simp only [Act.put, List.setIfInBounds_toArray, List.set_cons_zero, List.set_cons_succ]
        rfl
      refine take_ (i := 4) (N := (some 56)) (v := ?_) (a' := ?_) #[true, true, true, true, true, false, false, false, false, false, false, false, false, false, false, false] rfl rfl (by kernel_rfl) (fun _ _ _ h => h) (Or.inl ⟨by rfl, ?_⟩) hHeld ?_ ?_
      rotate_left
      · intro w' hS'
        (try dsimp only at hS')
        have c0 : w'.cell? ⟨rb, 0, none⟩ = some (.slice A L.length c) := (blk_cell hS'.1 0).trans rfl
        go_simp
        all_goals with_reducible rfl
      rotate_left
      · simp only [Act.put, List.setIfInBounds_toArray, List.set_cons_zero, List.set_cons_succ]
        rfl
      refine take_ (i := 5) (N := (some 57)) (v := ?_) (a' := ?_) #[true, true, true, true, true, true, false, false, false, false, false, false, false, false, false, false] rfl rfl (by kernel_rfl) (fun _ _ _ h => h) (Or.inl ⟨by rfl, ?_⟩) hHeld ?_ ?_
      rotate_left
      · intro w' hS'
        (try dsimp only at hS')
        have x0 : w'.cell? ⟨w.heap.size, 0, none⟩ = some (.int .i64 t.f0) := (blk_cell hS'.2 0).trans rfl
        have x1 : w'.cell? ⟨w.heap.size, 1, none⟩ = some (.int .i64 t.f1) := (blk_cell hS'.2 1).trans rfl
        go_simp
        all_goals with_reducible rfl
      rotate_left
      · simp only [Act.put, List.setIfInBounds_toArray, List.set_cons_zero, List.set_cons_succ]
        rfl
      refine pure_ (i := 7) (N := (some 59)) (v := ?_) (a' := ?_) #[true, true, true, true, true, true, false, true, false, false, false, false, false, false, false, false] rfl rfl (by kernel_rfl) (fun _ _ _ h => h) (Or.inl ⟨by rfl, ?_⟩) ?_ ?_
      rotate_left
      · intro w'
        go_simp
        all_goals with_reducible rfl
      rotate_left
      · simp only [Act.put, List.setIfInBounds_toArray, List.set_cons_zero, List.set_cons_succ]
        rfl
      refine pure_ (i := 9) (N := (some 61)) (v := ?_) (a' := ?_) #[true, true, true, true, true, true, false, true, false, true, false, false, false, false, false, false] rfl rfl (by kernel_rfl) (fun _ _ _ h => h) (Or.inl ⟨by rfl, ?_⟩) ?_ ?_
      rotate_left
      · intro w'
        go_simp
        all_goals with_reducible rfl
      rotate_left
      · simp only [Act.put, List.setIfInBounds_toArray, List.set_cons_zero, List.set_cons_succ]
        rfl
      refine one_ (i := 6) (N := (some 58)) #[true, true, true, true, true, true, true, true, false, true, false, false, false, false, false, false] rfl rfl (by kernel_rfl) (by decide) (fun K hK => ?_)
      refine Kd.R_lit_step (Kd.int .i64) (w0 := W.drew) 0 3 (by rfl) (N := 58) rfl (xs := []) (inner := []) (ok := fun k => w.heap.size < k) (okp := fun _ => False) (by first | (go_simp; done) | (go_simp; rfl)) (Reps.none _ _) (fun _ h => h.elim) hWl (Below.refl _ _) (Nat.zero_le _) (by simp) ?_
      intro v1 w1 ho hb0 hg hn0
      clear hb0 hn0
      have HR1 := Aside0.mk ho
      have HG1 := Aside0.mk hg
      clear ho hg
      refine hK.out _ _ ⟨blk_grown (w := W.drew) hHeld.1 HG1.out (by simp), blk_grown (w := W.drew) hHeld.2 HG1.out (by simp)⟩ (fun hHeld => ?_)
      clear hK K
      refine norm_ (a' := ?_) ?_ ?_
      rotate_left
      · show Act.put _ (some 58) _ = _
        simp only [Act.put, List.setIfInBounds_toArray, List.set_cons_zero, List.set_cons_succ]
        rfl
      refine one_ (i := 8) (N := (some 60)) #[true, true, true, true, true, true, true, true, true, true, false, false, false, false, false, false] rfl rfl (by kernel_rfl) (by decide) (fun K hK => ?_)
      refine Kd.R_append_rows_step (Kd.int .i64) (w0 := w1) 0 (by rfl) (.tmp 58) (.tmp 59) 31 3 (.int .i64 0) 8 rfl Try.underlying31 info3 rfl (by decide) (by omega) v1 [] ids A0 ids.length c0 (fun k => w.heap.size < k) (fun _ => False) rfl rfl HR1.out (Kd.C_below (w := W) HC0.out ⟨HG1.out.os, HG1.out.tape, HG1.out.output, HG1.out.size, fun k hk => HG1.out.block k hk (by simp)⟩) (fun _ _ h => h) (fun _ h => h.elim) (fun k hk => Nat.lt_of_lt_of_le hWl (Nat.le_trans HG1.out.size hk)) (Below.refl _ _) (Nat.zero_le _) (by have := HIl.out; simpa using this) ?_
      intro v2 w2 ho hb0 hg hat
      clear hb0 hat
      rw [List.nil_append] at ho
      obtain ⟨A2, c2, rfl, hl2, _⟩ := Kd.R_reads ho
      have hrb1 : some rb ≠ v1.ownBlock := fun e => Nat.lt_asymm hrl (HR1.out.1 rb e.symm)
      have hbx1 : some w.heap.size ≠ v1.ownBlock := fun e => Nat.lt_irrefl _ (HR1.out.1 _ e.symm)
      have HR2 := Aside0.mk ho
      have HG2 := Aside0.mk hg
      clear ho hg
      refine hK.out _ _ ⟨blk_grown hHeld.1 HG2.out hrb1, blk_grown hHeld.2 HG2.out hbx1⟩ (fun hHeld => ?_)
      clear hK K
      refine norm_ (a' := ?_) ?_ ?_
      rotate_left
      · show Act.put _ (some 60) _ = _
        simp only [Act.put, List.setIfInBounds_toArray, List.set_cons_zero, List.set_cons_succ]
        rfl
      refine pure_ (i := 10) (N := (some 62)) (v := ?_) (a' := ?_) #[true, true, true, true, true, true, true, true, true, true, true, false, false, false, false, false] rfl rfl (by kernel_rfl) (fun _ _ _ h => h) (Or.inl ⟨by rfl, ?_⟩) ?_ ?_
      rotate_left
      · intro w'
        go_simp
        all_goals with_reducible rfl
      rotate_left
      · simp only [Act.put, List.setIfInBounds_toArray, List.set_cons_zero, List.set_cons_succ]
        rfl
      refine one_ (i := 11) (N := (some 63)) #[true, true, true, true, true, true, true, true, true, true, true, true, false, false, false, false] rfl rfl (by kernel_rfl) (by decide) (fun K hK => ?_)
      refine value_ (w1 := w2.alloc (.cells #[.int .i64 t.f0, .int .i64 t.f1, .slice A2 ids.length c2, .bool all] 55)) (v := .slice (some ⟨w2.heap.size, 0, none⟩) 1 1) (by rfl) rfl (by first | (go_simp; done) | (go_simp; rfl)) ?_
      refine hK.out _ _ ⟨blk_alloc hHeld.1 _, blk_alloc hHeld.2 _⟩ (fun hHeld => ?_)
      clear hK K
      refine norm_ (a' := ?_) ?_ ?_
      rotate_left
      · show Act.put _ (some 63) _ = _
        simp only [Act.put, List.setIfInBounds_toArray, List.set_cons_zero, List.set_cons_succ]
        rfl
      refine one_ (i := 12) (N := (some 64)) #[true, true, true, true, true, true, true, true, true, true, true, true, true, false, false, false] rfl rfl (by kernel_rfl) (by decide) (fun K hK => ?_)
      have HRow2 := Aside0.mk (row_two HRow.out HG1.out HG2.out (fun k hk => HR1.out.1 k hk))
      refine Kd.R_append_step k55 (w0 := w2) 0 (by rfl) (.tmp 56) (.tmp 63) 26 55 (.agg #[.int .i64 0, .int .i64 0, .slice none 0 0, .bool false]) 48 rfl Try.underlying26 info55 rfl (by decide) (by omega) (.slice A L.length c) L ⟨t, ids, all⟩ [.int .i64 t.f0, .int .i64 t.f1, .slice A2 ids.length c2, .bool all] (fun k => ((ok k ∧ k < w.heap.size) ∧ k ≠ rb) ∨ w.heap.size < k) (fun k => w.heap.size < k) rfl rfl (k55_mkM _ _ _ (⟨t, ids, all⟩ : S55) HR2.out) (fun k hk => ⟨Or.inr hk, fun e => Nat.lt_asymm hk (HRow.out.1 k e.symm).1.2⟩) (fun k hk => Or.inr (Nat.lt_of_lt_of_le hWl (Nat.le_trans HG1.out.size (Nat.le_trans HG2.out.size hk)))) (Kd.R_mono HRow2.out (fun k hk => Or.inl hk)) (Below.refl _ _) (Nat.zero_le _) HL.out ?_
      intro v3 w3 ho hb0 hg hat
      clear hb0 hat
      obtain ⟨A3, c3, rfl, _, _⟩ := Kd.R_reads ho
      rw [List.length_append, List.length_singleton] at ho
      have hrb2 : some rb ≠ (Value.slice A L.length c).ownBlock := fun e => (HRow.out.1 rb e.symm).2 rfl
      have hbx2 : some w.heap.size ≠ (Value.slice A L.length c).ownBlock := fun e => Nat.lt_irrefl _ (HRow.out.1 _ e.symm).1.2
      have HR3 := Aside0.mk ho
      have HG3 := Aside0.mk hg
      clear ho hg
      refine hK.out _ _ ⟨blk_grown (w := w2) (by have h9 := hHeld.1; exact (Below.heap_alloc w2 _ rb (Nat.lt_of_lt_of_le hrl (Nat.le_trans HB.out.size (Nat.le_trans HG1.out.size HG2.out.size)))).symm.trans h9) HG3.out hrb2, blk_grown (w := w2) (by have h9 := hHeld.2; exact (Below.heap_alloc w2 _ w.heap.size (Nat.lt_of_lt_of_le hWl (Nat.le_trans HG1.out.size HG2.out.size))).symm.trans h9) HG3.out hbx2⟩ (fun hHeld => ?_)
      clear hK K
      refine norm_ (a' := ?_) ?_ ?_
      rotate_left
      · show Act.put _ (some 64) _ = _
        simp only [Act.put, List.setIfInBounds_toArray, List.set_cons_zero, List.set_cons_succ]
        rfl
      refine pure_ (i := 13) (N := (some 65)) (v := ?_) (a' := ?_) #[true, true, true, true, true, true, true, true, true, true, true, true, true, true, false, false] rfl rfl (by kernel_rfl) (fun _ _ _ h => h) (Or.inl ⟨by rfl, ?_⟩) ?_ ?_
      rotate_left
      · intro w'
        go_simp
        all_goals with_reducible rfl
      rotate_left
      · simp only [Act.put, List.setIfInBounds_toArray, List.set_cons_zero, List.set_cons_succ]
        rfl
      refine pure_ (i := 14) (N := (some 66)) (v := ?_) (a' := ?_) #[true, true, true, true, true, true, true, true, true, true, true, true, true, true, true, false] rfl rfl (by kernel_rfl) (fun _ _ _ h => h) (Or.inl ⟨by rfl, ?_⟩) ?_ ?_
      rotate_left
      · intro w'
        go_simp
        all_goals with_reducible rfl
      rotate_left
      · simp only [Act.put, List.setIfInBounds_toArray, List.set_cons_zero, List.set_cons_succ]
        rfl
      refine last_ (i := 15) (N := none) #[true, true, true, true, true, true, true, true, true, true, true, true, true, true, true, true] rfl rfl (by kernel_rfl) (by decide) (fun K hK => ?_)
      have hs0 : w3.cell? ⟨rb, 0, none⟩ = some (.slice A L.length c) := (blk_cell hHeld.1 0).trans rfl
      have hf0 := blk_frozen hHeld.1 0
      refine skip_ (w1 := ?_) (by rfl) rfl ?_ ?_
      rotate_left
      · go_simp
        rfl
      refine hK.out _ _ ?_
      clear hK K
      refine done_ (by kernel_rfl) ?_
      go_wp2
      go_ret
      have e1 : takeOkL L t ids all = true := HO.out
      refine ⟨by rw [e1]; rfl, ?_, ?_⟩
      · unfold takenL
        rw [e1, if_pos rfl]
        refine ⟨_, Or.inl H1.out.1, blk_put hHeld.1 0 _ rfl, ?_⟩
        refine Kd.R_mono (Kd.R_far (p := ⟨rb, 0, none⟩) (rowL_apart HR3.out hHeld.1) ?_ _) ?_
        · exact fun k hk => hk.2
        · intro k hk
          rcases hk.1 with h | h
          · exact Or.inl h.1.1
          · exact Or.inr (Nat.le_of_lt h)
      · exact (((((Mv.of_below HB.out).drew).grown HG1.out (fun k hk => by cases hk)).grown HG2.out (fun k hk => Or.inr (Nat.le_of_lt (HR1.out.1 k hk)))).grown HG3.out (fun k hk => Or.inl (HRow.out.1 k hk).1.1)).setCell (Or.inl H1.out.1) _
end Go.Proofs.Ytmmamceijnnfdaa.LK
