/- A table of locks and the document's own answer alike, whatever the acts: the statement LockActs. -/
import Derived.Test.YtmmamceijnnfdaaLkS
import Derived.Deep.DeepCutAuto
import Derived.Deep.CutBlock
namespace Go.Proofs.Ytmmamceijnnfdaa.LK
open Go Go.RowKit Go.Maps Go.Proofs.YtmmamceijnnfdaaW.PrintWords Go.Proofs.YtmmamceijnnfdaaW.PrintLast Go.Proofs.YtmmamceijnnfdaaW.PrintMore Go.Proofs.Ytmmamceijnnfdaa.PLockActs
set_option linter.unusedVariables false
set_option linter.unusedSimpArgs false
attribute [local go_sem high] eqA30

theorem Two.keep {B : Nat} {bs : List Nat} {W W1 : World} {tb rb N : Nat} {LT LL : List S55} (h : Two B bs W tb rb N LT LL) (hs : W.heap.size ≤ W1.heap.size) (hb : ∀ k, okB B bs k → k < W.heap.size → W1.heap[k]? = W.heap[k]?) : Two B bs W1 tb rb N LT LL := by
  obtain ⟨⟨okT, okL, hT, hL, h1, h2, h3⟩, h4, h5, h6⟩ := h
  exact ⟨⟨okT, okL, hT.step (fun k hk hlt => hb k (h1 k hk).1 hlt), hL.step (fun k hk hlt => hb k (h2 k hk).1 hlt), fun k hk => ⟨(h1 k hk).1, Nat.lt_of_lt_of_le (h1 k hk).2 hs⟩, fun k hk => ⟨(h2 k hk).1, Nat.lt_of_lt_of_le (h2 k hk).2 hs⟩, h3⟩, h4, fun b hb' => Nat.lt_of_lt_of_le (h5 b hb') hs, Nat.le_trans h6 hs⟩
/-- what is lent, in block g alone -/
def RowG (w : World) (B g c : Nat) (l : List Int) : Prop := Kd.R (Kd.int .i64) 3 w B (fun k => k = g) (.slice (some ⟨g, 0, none⟩) (l.length + 2) c) (l ++ [-7777, -8888])
theorem lent_row {w : World} {B n c : Nat} {A : Option Addr} {l : List Int} (h : Lent w B A n c l) : ∃ g, A = some ⟨g, 0, none⟩ ∧ B ≤ g ∧ g < w.heap.size ∧ RowG w B g c l := by
  obtain ⟨rfl, h⟩ := h
  obtain ⟨g, rfl⟩ := row_head h (by omega)
  exact ⟨g, rfl, Kd.R_base h g rfl, Kd.R_lt h g rfl, ⟨fun k hk => (Option.some.inj hk).symm, h.2.imp_ (fun _ _ hp => hp)⟩⟩
theorem RowG.step {w w1 : World} {B g c : Nat} {l : List Int} (h : RowG w B g c l) (hm : g < w.heap.size → w1.heap[g]? = w.heap[g]?) : RowG w1 B g c l :=
  Kd.R_step h (fun k hk hlt => by subst hk; exact hm hlt)
theorem RowG.reads {w : World} {B g c : Nat} {l : List Int} (h : RowG w B g c l) : l.length + 2 ≤ c ∧ Kd.C (Kd.int .i64) w (some ⟨g, 0, none⟩) (l.length + 2) (l ++ [-7777, -8888]) :=
  ⟨(Kd.R_reads' h).2.1, by have := (Kd.R_reads' h).2.2; simpa using this⟩
theorem RowG.take {w : World} {B g c : Nat} {l : List Int} (h : RowG w B g c l) : Kd.R (Kd.int .i64) 3 w B (fun k => k = g) (.slice (some ⟨g, 0, none⟩) l.length c) l := by
  have := Kd.R_take (m := l.length) h (by simp)
  simpa using this
theorem RowG.low {w : World} {B g c : Nat} {l : List Int} (h : RowG w B g c l) : Kd.C (Kd.int .i64) w (some ⟨g, 0, none⟩) l.length l := (Kd.R_reads' h.take).2.2
theorem takenL_len (L : List S55) (t : S30) (ids : List Int) (all : Bool) : (takenL L t ids all).length ≤ L.length + 1 := by
  unfold takenL
  split
  · simp
  · omega
theorem le_round {N k : Nat} (h : N ≤ k * 17592186044416) : N ≤ (k + 1) * 17592186044416 := Nat.le_trans h (Nat.mul_le_mul_right _ (Nat.le_succ k))
theorem AtAct.below {w w1 : World} {ad : Addr} {x : Act} {A : Option Addr} {c : Nat} (h : AtAct w ad x A c) (hb : Below w.heap.size w w1) : AtAct w1 ad x A c :=
  ⟨pw_cell_below hb h.kind, pw_cell_below hb h.t0, pw_cell_below hb h.t1, pw_cell_below hb h.ids, pw_cell_below hb h.all, h.cap, Kd.C_below h.row hb⟩
set_option maxHeartbeats 16000000 in
set_option maxRecDepth 100000 in
theorem acts_any (A0 : Option Addr) (c0 : Nat) (acts : List Act) (w : World) (hC : Kd.C kAct w A0 acts.length acts) (hok : ∀ x ∈ acts, okAct x) :
    Calls Try.prog 3 #[.slice A0 acts.length c0] w fun e w' => e = .returned (.bool true) ∧ Below w.heap.size w w' := by
  have HC0 := Aside0.mk hC
  have HO0 := Aside0.mk hok
  have hm0 := C_max hC
  clear hC hok
  go_enter Try.func3, Try.ntmps3
  go_wp2_with fail
  refine (new_law _).mono ?_
  rintro e w1 ⟨tb, rfl, hT, hB⟩
  have HT1 := Aside0.mk (two_new hT)
  have HB1 := Aside0.mk (below_alloc hB (.cells #[.slice none 0 0] 28))
  clear hT hB
  go_wp2_with fail
  generalize w1.heap.size = rb at *
  generalize w1.alloc (.cells #[.slice none 0 0] 28) = w2 at *
  go_loopw [5] (fun i wr => ∃ (k : Nat) (N : Nat) (L : List S55), k ≤ acts.length ∧ k ≤ 80 ∧ i = .int .i64 k ∧ Aside0 (N ≤ k * 17592186044416) ∧ Aside0 (L.length ≤ k) ∧ Aside0 (Two w.heap.size [] wr tb rb N L L) ∧ Aside0 (Below w.heap.size w wr)) (fun i _ => acts.length - (intOf i).toNat)
  case atStart => exact ⟨0, 0, [], Nat.zero_le _, Nat.zero_le _, rfl, ⟨Nat.zero_le _⟩, ⟨Nat.zero_le _⟩, HT1, HB1⟩
  case round =>
    obtain ⟨k, N, L, hk, hk8, rfl, HN, HL, HT, HB⟩ := hrel
    by_cases hlt : k < acts.length
    · by_cases h80 : k < 80
      · obtain ⟨ad0, A, c, e0, hat⟩ := at_act HC0.out k hlt
        subst e0
        have HA := Aside0.mk (rdAct_ok HO0.out k)
        generalize rdAct acts k = x at *
        have HR := Aside0.mk hat.row
        have HC := Aside0.mk hat.cap
        have HAT := Aside0.mk (hat.below HB.out)
        clear hat
        have x0 := HAT.out.kind
        have x1 := HAT.out.t0
        have x2 := HAT.out.t1
        have x3 := HAT.out.ids
        have x4 := HAT.out.all
        go_upto_block 2 with (fail)
        go_cut [] (fun wx => ∃ (N' : Nat) (L' : List S55), Aside0 (N' ≤ (k + 1) * 17592186044416) ∧ Aside0 (L'.length ≤ k + 1) ∧ Aside0 (Two w.heap.size [] wx tb rb N' L' L') ∧ Aside0 (Below w.heap.size w wx))
        case first =>
          have hT2 := HT.out.alloc (.cells #[.int .i64 x.kind, .int .i64 x.tx.f0, .int .i64 x.tx.f1, .slice A x.ids.length c, .bool x.all] 33)
          have hB2 := below_alloc HB.out (.cells #[.int .i64 x.kind, .int .i64 x.tx.f0, .int .i64 x.tx.f1, .slice A x.ids.length c, .bool x.all] 33)
          have hbx := blk_new wr (.cells #[.int .i64 x.kind, .int .i64 x.tx.f0, .int .i64 x.tx.f1, .slice A x.ids.length c, .bool x.all] 33)
          clear x0 x1 x2 x3 x4 HAT HT
          have HB0 := HB
          generalize wr.alloc (.cells #[.int .i64 x.kind, .int .i64 x.tx.f0, .int .i64 x.tx.f1, .slice A x.ids.length c, .bool x.all] 33) = w3 at *
          generalize wr.heap.size = bb at *
          have HT3 := Aside0.mk hT2
          have HB3 := Aside0.mk hB2
          have HBX3 := Aside0.mk hbx
          clear hT2 hB2 hbx
          by_cases h5 : x.kind < 5
          · have q0 : w3.cell? ⟨bb, 0, none⟩ = some (.int .i64 x.kind) := (blk_cell HBX3.out 0).trans rfl
            have q3 : w3.cell? ⟨bb, 3, none⟩ = some (.slice A x.ids.length c) := (blk_cell HBX3.out 3).trans rfl
            have ql := blk_lt HBX3.out
            go_wp2_with fail
            clear q0 q3 ql
            refine (lend_any A c x.ids _ (Kd.C_below HR.out HB3.out) HC.out (by have := HA.out.2.2; omega)).mono ?_
            rintro e w4 ⟨A1, c1, rfl, hl1, hb⟩
            obtain ⟨g, rfl, hg1, hg2, hRow⟩ := lent_row hl1
            have HT4 := Aside0.mk (HT3.out.fresh hb hg1 hg2)
            have HB4 := Aside0.mk (below_then HB3.out HB3.out.size hb)
            have HBX4 := Aside0.mk (blk_below HBX3.out hb)
            have HW4 := Aside0.mk hRow
            have HG := Aside0.mk HT3.out.base
            clear hl1 hg1 hg2 hRow hb
            generalize hv : takeOkL L x.tx x.ids x.all = v
            generalize hL : takenL L x.tx x.ids x.all = L'
            have HV := Aside0.mk hv
            have HL' := Aside0.mk hL
            clear hv hL
            go_wp2_with fail
            refine start_ (n := 23) (S := fun w' => w'.heap[bb]? = some (.cells #[.int .i64 x.kind, .int .i64 x.tx.f0, .int .i64 x.tx.f1, .slice A x.ids.length c, .bool x.all] 33)) (ds := []) #[false, false, false, false, false, false, false, false, false, false, false, false, false, false, false, false, false, false, false, false, false, false, false] (by kernel_rfl) rfl rfl (HBX4.out) (fun hHeld => ?_)
            refine pure_ (i := 0) (N := (some 37)) (v := ?_) (a' := ?_) #[true, false, false, false, false, false, false, false, false, false, false, false, false, false, false, false, false, false, false, false, false, false, false] rfl rfl (by kernel_rfl) (fun _ _ _ h => h) (Or.inl ⟨by rfl, ?_⟩) ?_ ?_
            rotate_left
            · intro w'
              go_simp
              all_goals with_reducible rfl
            rotate_left
            · simp only [Act.put, List.setIfInBounds_toArray, List.set_cons_zero, List.set_cons_succ]
              rfl
            refine pure_ (i := 1) (N := (some 38)) (v := ?_) (a' := ?_) #[true, true, false, false, false, false, false, false, false, false, false, false, false, false, false, false, false, false, false, false, false, false, false] rfl rfl (by kernel_rfl) (fun _ _ _ h => h) (Or.inl ⟨by rfl, ?_⟩) ?_ ?_
            rotate_left
            · intro w'
              go_simp
              all_goals with_reducible rfl
            rotate_left
            · simp only [Act.put, List.setIfInBounds_toArray, List.set_cons_zero, List.set_cons_succ]
              rfl
            refine take_ (i := 2) (N := (some 39)) (v := ?_) (a' := ?_) #[true, true, true, false, false, false, false, false, false, false, false, false, false, false, false, false, false, false, false, false, false, false, false] rfl rfl (by kernel_rfl) (fun _ _ _ h => h) (Or.inl ⟨by rfl, ?_⟩) hHeld ?_ ?_
            rotate_left
            · intro w' hS'
              (try dsimp only at hS')
              have q1 : w'.cell? ⟨bb, 1, none⟩ = some (.int .i64 x.tx.f0) := (blk_cell hS' 1).trans rfl
              have q2 : w'.cell? ⟨bb, 2, none⟩ = some (.int .i64 x.tx.f1) := (blk_cell hS' 2).trans rfl
              go_simp
              all_goals with_reducible rfl
            rotate_left
            · simp only [Act.put, List.setIfInBounds_toArray, List.set_cons_zero, List.set_cons_succ]
              rfl
            refine pure_ (i := 3) (N := (some 40)) (v := ?_) (a' := ?_) #[true, true, true, true, false, false, false, false, false, false, false, false, false, false, false, false, false, false, false, false, false, false, false] rfl rfl (by kernel_rfl) (fun _ _ _ h => h) (Or.inl ⟨by rfl, ?_⟩) ?_ ?_
            rotate_left
            · intro w'
              go_simp
              all_goals with_reducible rfl
            rotate_left
            · simp only [Act.put, List.setIfInBounds_toArray, List.set_cons_zero, List.set_cons_succ]
              rfl
            refine pure_ (i := 4) (N := (some 41)) (v := ?_) (a' := ?_) #[true, true, true, true, true, false, false, false, false, false, false, false, false, false, false, false, false, false, false, false, false, false, false] rfl rfl (by kernel_rfl) (fun _ _ _ h => h) (Or.inl ⟨by rfl, ?_⟩) ?_ ?_
            rotate_left
            · intro w'
              go_simp
              all_goals with_reducible rfl
            rotate_left
            · simp only [Act.put, List.setIfInBounds_toArray, List.set_cons_zero, List.set_cons_succ]
              rfl
            refine take_ (i := 5) (N := (some 42)) (v := ?_) (a' := ?_) #[true, true, true, true, true, true, false, false, false, false, false, false, false, false, false, false, false, false, false, false, false, false, false] rfl rfl (by kernel_rfl) (fun _ _ _ h => h) (Or.inl ⟨by rfl, ?_⟩) hHeld ?_ ?_
            rotate_left
            · intro w' hS'
              (try dsimp only at hS')
              have q4 : w'.cell? ⟨bb, 4, none⟩ = some (.bool x.all) := (blk_cell hS' 4).trans rfl
              go_simp
              all_goals with_reducible rfl
            rotate_left
            · simp only [Act.put, List.setIfInBounds_toArray, List.set_cons_zero, List.set_cons_succ]
              rfl
            refine pure_ (i := 7) (N := (some 44)) (v := ?_) (a' := ?_) #[true, true, true, true, true, true, false, true, false, false, false, false, false, false, false, false, false, false, false, false, false, false, false] rfl rfl (by kernel_rfl) (fun _ _ _ h => h) (Or.inl ⟨by rfl, ?_⟩) ?_ ?_
            rotate_left
            · intro w'
              go_simp
              all_goals with_reducible rfl
            rotate_left
            · simp only [Act.put, List.setIfInBounds_toArray, List.set_cons_zero, List.set_cons_succ]
              rfl
            refine pure_ (i := 8) (N := (some 45)) (v := ?_) (a' := ?_) #[true, true, true, true, true, true, false, true, true, false, false, false, false, false, false, false, false, false, false, false, false, false, false] rfl rfl (by kernel_rfl) (fun _ _ _ h => h) (Or.inl ⟨by rfl, ?_⟩) ?_ ?_
            rotate_left
            · intro w'
              go_simp
              all_goals with_reducible rfl
            rotate_left
            · simp only [Act.put, List.setIfInBounds_toArray, List.set_cons_zero, List.set_cons_succ]
              rfl
            refine take_ (i := 9) (N := (some 46)) (v := ?_) (a' := ?_) #[true, true, true, true, true, true, false, true, true, true, false, false, false, false, false, false, false, false, false, false, false, false, false] rfl rfl (by kernel_rfl) (fun _ _ _ h => h) (Or.inl ⟨by rfl, ?_⟩) hHeld ?_ ?_
            rotate_left
            · intro w' hS'
              (try dsimp only at hS')
              have q1 : w'.cell? ⟨bb, 1, none⟩ = some (.int .i64 x.tx.f0) := (blk_cell hS' 1).trans rfl
              have q2 : w'.cell? ⟨bb, 2, none⟩ = some (.int .i64 x.tx.f1) := (blk_cell hS' 2).trans rfl
              go_simp
              all_goals with_reducible rfl
            rotate_left
            · simp only [Act.put, List.setIfInBounds_toArray, List.set_cons_zero, List.set_cons_succ]
              rfl
            refine pure_ (i := 10) (N := (some 47)) (v := ?_) (a' := ?_) #[true, true, true, true, true, true, false, true, true, true, true, false, false, false, false, false, false, false, false, false, false, false, false] rfl rfl (by kernel_rfl) (fun _ _ _ h => h) (Or.inl ⟨by rfl, ?_⟩) ?_ ?_
            rotate_left
            · intro w'
              go_simp
              all_goals with_reducible rfl
            rotate_left
            · simp only [Act.put, List.setIfInBounds_toArray, List.set_cons_zero, List.set_cons_succ]
              rfl
            refine take_ (i := 11) (N := (some 48)) (v := ?_) (a' := ?_) #[true, true, true, true, true, true, false, true, true, true, true, true, false, false, false, false, false, false, false, false, false, false, false] rfl rfl (by kernel_rfl) (fun _ _ _ h => h) (Or.inl ⟨by rfl, ?_⟩) hHeld ?_ ?_
            rotate_left
            · intro w' hS'
              (try dsimp only at hS')
              have q3 : w'.cell? ⟨bb, 3, none⟩ = some (.slice A x.ids.length c) := (blk_cell hS' 3).trans rfl
              go_simp
              all_goals with_reducible rfl
            rotate_left
            · simp only [Act.put, List.setIfInBounds_toArray, List.set_cons_zero, List.set_cons_succ]
              rfl
            refine pure_ (i := 12) (N := (some 49)) (v := ?_) (a' := ?_) #[true, true, true, true, true, true, false, true, true, true, true, true, true, false, false, false, false, false, false, false, false, false, false] rfl rfl (by kernel_rfl) (fun _ _ _ h => h) (Or.inl ⟨by rfl, ?_⟩) ?_ ?_
            rotate_left
            · intro w'
              go_simp
              all_goals with_reducible rfl
            rotate_left
            · simp only [Act.put, List.setIfInBounds_toArray, List.set_cons_zero, List.set_cons_succ]
              rfl
            refine take_ (i := 13) (N := (some 50)) (v := ?_) (a' := ?_) #[true, true, true, true, true, true, false, true, true, true, true, true, true, true, false, false, false, false, false, false, false, false, false] rfl rfl (by kernel_rfl) (fun _ _ _ h => h) (Or.inl ⟨by rfl, ?_⟩) hHeld ?_ ?_
            rotate_left
            · intro w' hS'
              (try dsimp only at hS')
              have q4 : w'.cell? ⟨bb, 4, none⟩ = some (.bool x.all) := (blk_cell hS' 4).trans rfl
              go_simp
              all_goals with_reducible rfl
            rotate_left
            · simp only [Act.put, List.setIfInBounds_toArray, List.set_cons_zero, List.set_cons_succ]
              rfl
            refine one_ (i := 6) (N := (some 43)) #[true, true, true, true, true, true, true, true, true, true, true, true, true, true, false, false, false, false, false, false, false, false, false] rfl rfl (by kernel_rfl) (by decide) (fun K hK => ?_)
            refine goes_ Try.func8 (by kernel_rfl) rfl #[.pointer (some ⟨tb, 0, none⟩), .agg #[.int .i64 x.tx.f0, .int .i64 x.tx.f1], .slice (some ⟨g, 0, none⟩) x.ids.length c1, .bool x.all] (by rfl) rfl rfl (by first | rfl | (simp only [List.map_toArray, List.map_cons, List.map_nil]; rfl)) ?_
            refine (take_two (HT4.out.step (below_drew (Below.refl _ _))) x.tx _ c1 x.ids x.all HA.out.1 (fun W' hM => ((HW4.out.step (fun _ => rfl)).step (fun hlt => hM.keep g hlt (fun hk => hk.2 (by simp)))).low) HA.out.2.1 (by have := HA.out.2.2; have := HN.out; omega) (by have := HL.out; omega) v L' HV.out HL'.out).mono ?_
            rintro e w5 ⟨rfl, hT5, hM5⟩
            have HB5 := Aside0.mk (Mv.low (below_drew HB4.out) hM5 (HT4.out.step (below_drew (Below.refl _ _))).base)
            have HW5 := Aside0.mk ((HW4.out.step (fun _ => rfl)).step (fun hlt => hM5.keep g hlt (fun hk => hk.2 (by simp))))
            refine ⟨_, rfl, ?_⟩
            refine hK.out _ _ (hM5.blk hHeld (by simp)) (fun hHeld => ?_)
            clear hK K
            refine norm_ (a' := ?_) ?_ ?_
            rotate_left
            · show Act.put _ (some 43) _ = _
              simp only [Act.put, List.setIfInBounds_toArray, List.set_cons_zero, List.set_cons_succ]
              rfl
            refine one_ (i := 14) (N := (some 51)) #[true, true, true, true, true, true, true, true, true, true, true, true, true, true, true, false, false, false, false, false, false, false, false] rfl rfl (by kernel_rfl) (by decide) (fun K hK => ?_)
            refine goes_ Try.func9 (by kernel_rfl) rfl #[.pointer (some ⟨rb, 0, none⟩), .agg #[.int .i64 x.tx.f0, .int .i64 x.tx.f1], .slice A x.ids.length c, .bool x.all] (by rfl) rfl rfl (by first | rfl | (simp only [List.map_toArray, List.map_cons, List.map_nil]; rfl)) ?_
            refine (rtake_two hT5 x.tx _ c x.ids x.all (fun W' hM => Kd.C_below HR.out (Mv.low HB5.out hM hT5.base)) (by have := HA.out.2.2; omega) (by have := HL.out; omega) v L' HV.out HL'.out).mono ?_
            rintro e w6 ⟨rfl, hT6, hM6⟩
            have HB6 := Aside0.mk (Mv.low HB5.out hM6 hT5.base)
            have HW6 := Aside0.mk (HW5.out.step (fun hlt => hM6.keep g hlt (fun hk => hk.2 (by simp))))
            refine ⟨_, rfl, ?_⟩
            refine hK.out _ _ (hM6.blk hHeld (by simp)) (fun hHeld => ?_)
            clear hK K
            refine norm_ (a' := ?_) ?_ ?_
            rotate_left
            · show Act.put _ (some 51) _ = _
              simp only [Act.put, List.setIfInBounds_toArray, List.set_cons_zero, List.set_cons_succ]
              rfl
            refine pure_ (i := 15) (N := (some 52)) (v := ?_) (a' := ?_) #[true, true, true, true, true, true, true, true, true, true, true, true, true, true, true, true, false, false, false, false, false, false, false] rfl rfl (by kernel_rfl) (fun _ _ _ h => h) (Or.inl ⟨by rfl, ?_⟩) ?_ ?_
            rotate_left
            · intro w'
              go_simp
              all_goals with_reducible rfl
            rotate_left
            · simp only [Act.put, List.setIfInBounds_toArray, List.set_cons_zero, List.set_cons_succ]
              rfl
            refine pure_ (i := 16) (N := (some 53)) (v := ?_) (a' := ?_) #[true, true, true, true, true, true, true, true, true, true, true, true, true, true, true, true, true, false, false, false, false, false, false] rfl rfl (by kernel_rfl) (fun _ _ _ h => h) (Or.inl ⟨by rfl, ?_⟩) ?_ ?_
            rotate_left
            · intro w'
              go_simp
              all_goals with_reducible rfl
            rotate_left
            · simp only [Act.put, List.setIfInBounds_toArray, List.set_cons_zero, List.set_cons_succ]
              rfl
            refine pure_ (i := 17) (N := (some 54)) (v := ?_) (a' := ?_) #[true, true, true, true, true, true, true, true, true, true, true, true, true, true, true, true, true, true, false, false, false, false, false] rfl rfl (by kernel_rfl) (fun _ _ _ h => h) (Or.inl ⟨by rfl, ?_⟩) ?_ ?_
            rotate_left
            · intro w'
              go_simp
              all_goals with_reducible rfl
            rotate_left
            · simp only [Act.put, List.setIfInBounds_toArray, List.set_cons_zero, List.set_cons_succ]
              rfl
            refine pure_ (i := 18) (N := (some 55)) (v := ?_) (a' := ?_) #[true, true, true, true, true, true, true, true, true, true, true, true, true, true, true, true, true, true, true, false, false, false, false] rfl rfl (by kernel_rfl) (fun _ _ _ h => h) (Or.inl ⟨by rfl, ?_⟩) ?_ ?_
            rotate_left
            · intro w'
              go_simp
              all_goals with_reducible rfl
            rotate_left
            · simp only [Act.put, List.setIfInBounds_toArray, List.set_cons_zero, List.set_cons_succ]
              rfl
            refine take_ (i := 19) (N := (some 56)) (v := ?_) (a' := ?_) #[true, true, true, true, true, true, true, true, true, true, true, true, true, true, true, true, true, true, true, true, false, false, false] rfl rfl (by kernel_rfl) (fun _ _ _ h => h) (Or.inl ⟨by rfl, ?_⟩) hHeld ?_ ?_
            rotate_left
            · intro w' hS'
              (try dsimp only at hS')
              have q3 : w'.cell? ⟨bb, 3, none⟩ = some (.slice A x.ids.length c) := (blk_cell hS' 3).trans rfl
              go_simp
              all_goals with_reducible rfl
            rotate_left
            · simp only [Act.put, List.setIfInBounds_toArray, List.set_cons_zero, List.set_cons_succ]
              rfl
            refine one_ (i := 20) (N := (some 57)) #[true, true, true, true, true, true, true, true, true, true, true, true, true, true, true, true, true, true, true, true, true, false, false] rfl rfl (by kernel_rfl) (by decide) (fun K hK => ?_)
            refine goes_ Try.func10 (by kernel_rfl) rfl #[.slice (some ⟨g, 0, none⟩) x.ids.length c1, .slice A x.ids.length c] (by rfl) rfl rfl (by first | rfl | (simp only [List.map_toArray, List.map_cons, List.map_nil]; rfl)) ?_
            refine (kept_any _ c1 x.ids A c w6 HW6.out.reads.2 HW6.out.reads.1 (Kd.C_below HR.out HB6.out) HC.out (by have := HA.out.2.2; omega)).mono ?_
            rintro e w7 ⟨rfl, ⟨nd, rfl⟩⟩
            refine ⟨_, rfl, ?_⟩
            refine hK.out _ _ (by exact hHeld) (fun hHeld => ?_)
            clear hK K
            refine norm_ (a' := ?_) ?_ ?_
            rotate_left
            · show Act.put _ (some 57) _ = _
              simp only [Act.put, List.setIfInBounds_toArray, List.set_cons_zero, List.set_cons_succ]
              rfl
            refine pure_ (i := 21) (N := (some 58)) (v := ?_) (a' := ?_) #[true, true, true, true, true, true, true, true, true, true, true, true, true, true, true, true, true, true, true, true, true, true, false] rfl rfl (by kernel_rfl) (fun _ _ _ h => h) (Or.inl ⟨by rfl, ?_⟩) ?_ ?_
            rotate_left
            · intro w'
              go_simp
              all_goals with_reducible rfl
            rotate_left
            · simp only [Act.put, List.setIfInBounds_toArray, List.set_cons_zero, List.set_cons_succ]
              rfl
            refine pure_ (i := 22) (N := (some 59)) (v := ?_) (a' := ?_) #[true, true, true, true, true, true, true, true, true, true, true, true, true, true, true, true, true, true, true, true, true, true, true] rfl rfl (by kernel_rfl) (fun _ _ _ h => h) (Or.inl ⟨by rfl, ?_⟩) ?_ ?_
            rotate_left
            · intro w'
              go_simp
              all_goals with_reducible rfl
            rotate_left
            · simp only [Act.put, List.setIfInBounds_toArray, List.set_cons_zero, List.set_cons_succ]
              rfl
            refine done_ (by kernel_rfl) ?_
            have HT6 := Aside0.mk (hT6.step (pw_below_drewN (Below.refl _ _) nd))
            have HB7 := Aside0.mk (pw_below_drewN HB6.out nd)
            have HW7 := Aside0.mk (HW6.out.step (w1 := w6.drewN nd) (fun _ => rfl))
            clear hHeld hT5 hM5 hT6 hM6 HW6 HB6 HW5 HB5 HB4 HT4 HBX4 HW4
            generalize w6.drewN nd = w7 at *
            go_wp2_with fail
            obtain ⟨r, hr⟩ := spoil_is x.ids (C_max (Kd.C_below HR.out HB7.out))
            refine (furlonglaw0_SpoilInts.calls (x.ids.length + 1) (fun k => k = g) (.slice (some ⟨g, 0, none⟩) x.ids.length c1) x.ids r w w7 HB7.out (Kd.R_lower HW7.out.take HG.out) hr).mono ?_
            rintro e w8 ⟨rfl, _, hb8, hk8'⟩
            have HT8 := Aside0.mk (HT6.out.keep hk8'.1 (fun k hk hlt => hk8'.2 k hlt (fun e => hk.2 (by simp [e])))).drop.drop
            have HB8 := Aside0.mk hb8
            clear hb8 hk8' hr
            go_wp2_with fail
            go_meet
            case rel => exact ⟨N + x.ids.length, L', ⟨by have := HN.out; have := HA.out.2.2; omega⟩, ⟨by have := HL.out; have := takenL_len L x.tx x.ids x.all; rw [HL'.out] at this; omega⟩, HT8, HB8⟩
          · have q0 : w3.cell? ⟨bb, 0, none⟩ = some (.int .i64 x.kind) := (blk_cell HBX3.out 0).trans rfl
            have q1 : w3.cell? ⟨bb, 1, none⟩ = some (.int .i64 x.tx.f0) := (blk_cell HBX3.out 1).trans rfl
            have q2 : w3.cell? ⟨bb, 2, none⟩ = some (.int .i64 x.tx.f1) := (blk_cell HBX3.out 2).trans rfl
            have ql := blk_lt HBX3.out
            by_cases h7 : x.kind < 7
            · go_wp2_with fail
              clear q0 q1 q2 ql
              generalize hL : freeL L x.tx = L'
              have HL' := Aside0.mk hL
              clear hL
              refine (free_two HT3.out x.tx HA.out.1 L' HL'.out).mono ?_
              rintro e w4 ⟨rfl, hT4, hM4⟩
              have HT4 := Aside0.mk hT4
              have HB4 := Aside0.mk (Mv.low HB3.out hM4 HT3.out.base)
              have HBX4 := Aside0.mk (hM4.blk HBX3.out (by simp))
              clear hT4 hM4
              have q1 : w4.cell? ⟨bb, 1, none⟩ = some (.int .i64 x.tx.f0) := (blk_cell HBX4.out 1).trans rfl
              have q2 : w4.cell? ⟨bb, 2, none⟩ = some (.int .i64 x.tx.f1) := (blk_cell HBX4.out 2).trans rfl
              have ql := blk_lt HBX4.out
              go_wp2_with fail
              clear q1 q2 ql
              refine (rfree_two HT4.out x.tx (by have := HL.out; omega) L' HL'.out).mono ?_
              rintro e w5 ⟨rfl, hT5, hM5⟩
              have HT5 := Aside0.mk hT5.drop
              have HB5 := Aside0.mk (Mv.low HB4.out hM5 HT4.out.base)
              clear hT5 hM5
              go_wp2_with fail
              go_meet
              case rel => exact ⟨N, L', ⟨le_round HN.out⟩, ⟨by have := HL.out; have := freeL_len x.tx L; rw [HL'.out] at this; omega⟩, HT5, HB5⟩
            · go_wp2_with fail
              go_meet
              case rel => exact ⟨N, L, ⟨le_round HN.out⟩, ⟨Nat.le_succ_of_le HL.out⟩, ⟨HT3.out.drop⟩, HB3⟩
        case rest =>
          obtain ⟨N', L', HN', HL', HT', HB'⟩ := hcut
          clear HN HL HT HB HAT x0 x1 x2 x3 x4 HA HR HC HC0
          go_wp2_with fail
          go_loopw [8] (fun j wi => ∃ m : Nat, m ≤ 6 ∧ j = .int .i64 m ∧ Aside0 (Below wc.heap.size wc wi)) (fun j _ => 6 - (intOf j).toNat)
          case atStart => exact ⟨0, by omega, rfl, ⟨Below.refl _ _⟩⟩
          case round =>
            obtain ⟨m, hm, rfl, HBm⟩ := hrel
            by_cases hm6 : m < 6
            · have hmw : (Lit.int .i64 (m : Int)).wf = true := by simp [Lit.wf, IntKind.min, IntKind.max, IntKind.signed, IntKind.bits]; omega
              have HMW := Aside0.mk hmw
              clear hmw
              generalize hho : holderL L' (m : Int) = ho
              have HHO := Aside0.mk hho
              clear hho
              go_wp2_with fail
              refine (holder_two (HT'.out.step HBm.out) (m : Int) HMW.out).mono ?_
              rintro e wa ⟨rfl, hba⟩
              rw [HHO.out]
              have HBa := Aside0.mk (below_then HBm.out HBm.out.size hba)
              clear hba
              go_wp2_with fail
              have hbb := below_alloc HBa.out (.cells #[.int .i64 ho.1.f0, .int .i64 ho.1.f1] 30)
              have hbx := blk_new wa (.cells #[.int .i64 ho.1.f0, .int .i64 ho.1.f1] 30)
              generalize wa.alloc (.cells #[.int .i64 ho.1.f0, .int .i64 ho.1.f1] 30) = wb at *
              generalize wa.heap.size = xb at *
              have HBb := Aside0.mk hbb
              have HXb := Aside0.mk hbx
              clear hbb hbx
              refine (rholder_two (HT'.out.step HBb.out) (m : Int)).mono ?_
              rintro e wd ⟨rfl, hbd⟩
              rw [HHO.out]
              have HBd := Aside0.mk (below_then HBb.out HBb.out.size hbd)
              have q0 : wd.cell? ⟨xb, 0, none⟩ = some (.int .i64 ho.1.f0) := (blk_cell (blk_below HXb.out hbd) 0).trans rfl
              have q1 : wd.cell? ⟨xb, 1, none⟩ = some (.int .i64 ho.1.f1) := (blk_cell (blk_below HXb.out hbd) 1).trans rfl
              have ql := blk_lt (blk_below HXb.out hbd)
              clear hbd
              go_wp2_with fail
              go_roundw
              case rel => exact ⟨m + 1, by omega, by go_num, ⟨below_alloc HBd.out _⟩⟩
              case measure => simp [intOf]; omega
            · obtain rfl : m = 6 := by omega
              have HTi := Aside0.mk (HT'.out.step HBm.out)
              have HBi := Aside0.mk (below_then HB'.out HB'.out.size HBm.out)
              clear HT' HB' HBm
              obtain ⟨wz, hwz⟩ : ∃ wz : World, wz = wr := ⟨_, rfl⟩
              subst hwz
              go_wp2_with fail
              refine (all_two HTi.out (by have := HL'.out; omega)).mono ?_
              rintro e w4 ⟨v4, rfl, hR4, hb4⟩
              obtain ⟨A4, c4, rfl, hc4, hC4⟩ := allRow_of hR4
              have HT4 := Aside0.mk (HTi.out.step hb4)
              have HC4 := Aside0.mk hC4
              have HB4 := Aside0.mk hb4
              have Hc4 := Aside0.mk hc4
              clear hR4 hC4 hb4 hc4
              go_wp2_with fail
              refine (rall_two HT4.out (by have := HL'.out; omega)).mono ?_
              rintro e w5 ⟨v5, rfl, hR5, hb5⟩
              obtain ⟨A5, c5, rfl, hc5, hC5⟩ := allRow_of hR5
              have HC4' := Aside0.mk (Kd.C_below HC4.out hb5)
              have HC5 := Aside0.mk hC5
              have HB5 := Aside0.mk (below_then HB4.out HB4.out.size hb5)
              have Hc5 := Aside0.mk hc5
              clear hR5 hC5 hb5 hc5
              go_wp2_with fail
              refine (sameTxs_to A4 c4 (txsL L') A5 c5 (txsL L') true _ (sameL_iff.2 rfl) HC4'.out Hc4.out HC5.out Hc5.out).mono ?_
              rintro e w6 ⟨rfl, hb6⟩
              have HBz := Aside0.mk (below_then HB5.out HB5.out.size hb6.below)
              clear hb6
              go_wp2_with fail
              go_roundw
              case rel => exact ⟨k + 1, N', L', by omega, by omega, by go_num, HN', HL', ⟨HTi.out.step HBz.out⟩, ⟨below_then HBi.out HBi.out.size HBz.out⟩⟩
              case measure => simp [intOf]; omega
      · go_wp2_with fail
        refine (awake_any _).mono ?_
        rintro e w9 ⟨rfl, hb⟩
        have HB9 := Aside0.mk (below_then HB.out HB.out.size hb)
        clear hb
        go_wp2_with fail
        go_ret
        exact ⟨rfl, HB9.out⟩
    · go_wp2_with fail
      refine (awake_any _).mono ?_
      rintro e w9 ⟨rfl, hb⟩
      have HB9 := Aside0.mk (below_then HB.out HB.out.size hb)
      clear hb
      go_wp2_with fail
      go_ret
      exact ⟨rfl, HB9.out⟩
end Go.Proofs.Ytmmamceijnnfdaa.LK
