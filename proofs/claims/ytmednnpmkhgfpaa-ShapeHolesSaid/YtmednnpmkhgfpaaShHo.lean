/- What furlonglaw4.ShapeHoles answers: yes. -/
import Derived.Test.YtmednnpmkhgfpaaShAw
import Derived.Test.YtmednnpmkhgfpaaMaskL
namespace Go.Proofs.Ytmednnpmkhgfpaa.SH
open Go Go.RowKit Go.Proofs.YtmednnpmkhgfpaaW.PrintWords Go.Proofs.YtmednnpmkhgfpaaW.PrintLast Go.Proofs.YtmednnpmkhgfpaaW.PrintMore Go.Proofs.Ytmednnpmkhgfpaa.PShapes Go.Proofs.Ytmednnpmkhgfpaa.Geo
set_option linter.unusedVariables false
set_option linter.unusedSimpArgs false
attribute [local go_sem high] eqA23 eqA30

set_option maxHeartbeats 8000000 in
set_option maxRecDepth 100000 in
theorem holes_any (side rim px py : Int) (w : World) : Calls Try.prog 3 #[.int .i64 side, .int .i64 rim, .agg #[.int .i64 px, .int .i64 py]] w fun e w' => e = .returned (.bool true) ∧ Below w.heap.size w w' := by
  obtain ⟨m, hm⟩ : ∃ m, Go.bits .and .i64 rim 15 = m := ⟨_, rfl⟩
  obtain ⟨n, hn⟩ : ∃ n, Go.bits .and .i64 side 31 = n := ⟨_, rfl⟩
  obtain ⟨u, hu⟩ : ∃ u, Go.bits .and .i64 px 63 = u := ⟨_, rfl⟩
  obtain ⟨v, hv⟩ : ∃ v, Go.bits .and .i64 py 63 = v := ⟨_, rfl⟩
  have bm := and_15 rim
  have bn := and_31 side
  have bu := and_63 px
  have bv := and_63 py
  rw [hm] at bm
  rw [hn] at bn
  rw [hu] at bu
  rw [hv] at bv
  have wr : ∀ z : Int, 0 ≤ z → z ≤ 10000 → IntKind.i64.wrap z = z := fun z h0 h1 => IntWalk.i64_in z ⟨by omega, by omega⟩
  have w64 : ∀ z : Int, 0 ≤ z → z ≤ 10000 → wrap64 z = z := fun z h0 h1 => by unfold wrap64; omega
  have HX := Aside0.mk (blk_new w (.cells #[.int .i64 px, .int .i64 py] 23))
  have HB := Aside0.mk (below_alloc (Below.refl w.heap.size w) (.cells #[.int .i64 px, .int .i64 py] 23))
  go_enter Try.func3, Try.ntmps3
  go_wp2_with fail
  refine (awake_any _).mono ?_
  rintro e w1 ⟨rfl, hb⟩
  replace HX := Aside0.mk (blk_below HX.out hb)
  replace HB := Aside0.mk (below_then HB.out HB.out.size hb)
  clear hb
  go_wp2_with fail
  obtain ⟨s, hs⟩ : ∃ s, 2 * (1 + m) + 1 + n = s := ⟨_, rfl⟩
  obtain ⟨r, hr⟩ : ∃ r, 1 + m = r := ⟨_, rfl⟩
  rw [hs, hr]
  have br : 1 ≤ r ∧ r ≤ 16 := by omega
  have bs : 2 * r + 1 ≤ s ∧ s ≤ 64 := by omega
  have HSq1 := Aside0.mk (show Sq ⟨10, 10, 10 + s, 10 + s⟩ from ⟨by rw [bxMay_iff]; simp only; omega, by show (10 : Int) < 10 + s; omega, by show (10 : Int) < 10 + s; omega⟩)
  have HSq2 := Aside0.mk (show Sq ⟨10 + r, 10 + r, 10 + s - r, 10 + s - r⟩ from ⟨by rw [bxMay_iff]; simp only; omega, by show 10 + r < 10 + s - r; omega, by show 10 + r < 10 + s - r; omega⟩)
  have hX1 := blk_lt HX.out
  refine (square_any 2 ⟨10, 10, 10 + s, 10 + s⟩ w1).mono ?_
  rintro e w2 ⟨A1, c1, rfl, hN1, hb⟩
  replace HX := Aside0.mk (blk_below HX.out hb)
  have hle := HB.out.size
  have hle2 := hb.size
  replace HB := Aside0.mk (below_then HB.out HB.out.size hb)
  have HN1 := Aside0.mk hN1
  clear hb hN1
  go_wp2_with fail
  have HF2 := Aside0.mk (blk_new w2 (.cells #[.int .i64 2, .int .i64 2, .slice A1 1 c1] 27))
  have HX2 := Aside0.mk (blk_alloc HX.out (.cells #[.int .i64 2, .int .i64 2, .slice A1 1 c1] 27))
  have HB2 := Aside0.mk (below_alloc HB.out (.cells #[.int .i64 2, .int .i64 2, .slice A1 1 c1] 27))
  have HO2 := Aside0.mk (Kd.N_alloc (Kd.N_lower (base' := w.heap.size) (Kd.N_mono (ok' := fun k => w.heap.size ≤ k ∧ k ≠ w2.heap.size) (Kd.N_elderB HN1.out w2.heap.size (Nat.le_refl _)) (fun k hk => ⟨Nat.le_trans hle hk.1, hk.2⟩)) hle) (.cells #[.int .i64 2, .int .i64 2, .slice A1 1 c1] 27))
  have HLt := Aside0.mk (Kd.N_lt HN1.out)
  have hsz2 : (w2.alloc (.cells #[.int .i64 2, .int .i64 2, .slice A1 1 c1] 27)).heap.size = w2.heap.size + 1 := by simp
  have HXn := Aside0.mk (show ∀ k, (Value.slice A1 1 c1).ownBlock = some k → w.heap.size ≠ k from fun k hk => by have := Kd.N_base HN1.out k hk; omega)
  have HX0 := blk_lt HX.out
  clear HN1 HB HX
  generalize hfb : w2.heap.size = fb at *
  generalize w2.alloc (.cells #[.int .i64 2, .int .i64 2, .slice A1 1 c1] 27) = V2 at *
  refine (square_any 2 ⟨10 + r, 10 + r, 10 + s - r, 10 + s - r⟩ V2).mono ?_
  rintro e w3 ⟨A2, c2, rfl, hN2, hb⟩
  have HF3 := Aside0.mk (blk_alloc (blk_below HF2.out hb) (.cells #[.int .i64 2, .int .i64 2, .slice A2 1 c2] 27))
  have HX3 := Aside0.mk (blk_alloc (blk_below HX2.out hb) (.cells #[.int .i64 2, .int .i64 2, .slice A2 1 c2] 27))
  have HB3 := Aside0.mk (below_alloc (below_then HB2.out HB2.out.size hb) (.cells #[.int .i64 2, .int .i64 2, .slice A2 1 c2] 27))
  have HO3 := Aside0.mk (Kd.N_alloc (Kd.N_below HO2.out hb) (.cells #[.int .i64 2, .int .i64 2, .slice A2 1 c2] 27))
  have HG3 := Aside0.mk (blk_new w3 (.cells #[.int .i64 2, .int .i64 2, .slice A2 1 c2] 27))
  obtain ⟨g, cap, e2, _, _, _⟩ := Kd.N_form hN2 (by show (0 : Nat) < 1; omega)
  injection e2 with e3 e4 e5
  subst e3
  obtain ⟨cs4, hl4, hk4, hc4, _⟩ := Kd.N_elem hN2 ([] : List S23) 0 (by omega) (by omega)
  obtain ⟨A4, c4, rfl, hcap4, _⟩ := Kd.FK_slice_open hk4
  have HFk := Aside0.mk (Kd.FK_below hk4 (below_alloc (Below.refl _ _) (.cells #[.int .i64 2, .int .i64 2, .slice (some ⟨g, 0, none⟩) 1 c2] 27)))
  have hk0 := hc4 0 _ rfl
  have hk0' := pw_cell_below (below_alloc (Below.refl w3.heap.size w3) (.cells #[.int .i64 2, .int .i64 2, .slice (some ⟨g, 0, none⟩) 1 c2] 27)) hk0
  have hWs : fb < (w3.alloc (.cells #[.int .i64 2, .int .i64 2, .slice (some ⟨g, 0, none⟩) 1 c2] 27)).heap.size := blk_lt HF3.out
  clear hb hN2 hl4 hk4 hc4 hcap4 hk0 HF2 HX2 HB2 HO2 e4 e5
  go_upto_region 7 with (fail)
  generalize hW : w3.alloc (.cells #[.int .i64 2, .int .i64 2, .slice (some ⟨g, 0, none⟩) 1 c2] 27) = W at *
  generalize hgb : w3.heap.size = gb at *
  have HF := Aside0.mk HF3.out
  have HX := Aside0.mk HX3.out
  have HB := Aside0.mk HB3.out
  have HO := Aside0.mk HO3.out
  have f2 : W.cell? ⟨fb, 2, none⟩ = some (.slice A1 1 c1) := (blk_cell HF.out 2).trans rfl
  have g2 : W.cell? ⟨gb, 2, none⟩ = some (.slice (some ⟨g, 0, none⟩) 1 c2) := (blk_cell HG3.out 2).trans rfl
  have k0 : W.cell? ⟨g, 0, none⟩ = some (.slice A4 4 c4) := hk0'
  have HOp := Aside0.mk (show ∀ k, (V2.heap.size ≤ k ∧ k ≠ g) → (w.heap.size ≤ k ∧ k ≠ fb) ∧ some k ≠ (Value.slice A1 1 c1).ownBlock from fun k hk => ⟨⟨by omega, by omega⟩, fun e => by have := HLt.out k e.symm; omega⟩)
  have HFr := Aside0.mk (show ∀ k, W.drew.heap.size ≤ k → w.heap.size ≤ k ∧ k ≠ fb from fun k (hk : W.heap.size ≤ k) => ⟨by have := HB.out.size; omega, by omega⟩)
  obtain ⟨B1, hB1⟩ : ∃ B1 : Bx, B1 = ⟨10, 10, 10 + s, 10 + s⟩ := ⟨_, rfl⟩
  obtain ⟨B2, hB2⟩ : ∃ B2 : Bx, B2 = ⟨10 + r, 10 + r, 10 + s - r, 10 + s - r⟩ := ⟨_, rfl⟩
  rw [← hB1] at HO HSq1
  rw [← hB2] at HSq2
  change Aside0 (Kd.FK (Kd.slice 23 k23) W (fun k => V2.heap.size ≤ k ∧ k ≠ g) (sq ⟨10 + r, 10 + r, 10 + s - r, 10 + s - r⟩) [.slice A4 4 c4]) at HFk
  rw [← hB2] at HFk
  clear HF3 HX3 HB3 HO3 HG3 hk0' hW hgb
  refine start_ (n := 10) (S := fun w' => Below W.heap.size W w') (ds := [7, 9]) #[false, false, false, false, false, false, false, false, false, false] (by kernel_rfl) rfl rfl (below_drew (Below.refl _ _)) (fun hHeld => ?_)
  refine pure_ (i := 0) (N := (some 47)) (v := ?_) (a' := ?_) #[true, false, false, false, false, false, false, false, false, false] rfl rfl (by kernel_rfl) (fun _ _ _ h => h) (Or.inl ⟨by rfl, ?_⟩) ?_ ?_
  rotate_left
  · intro w'
    go_simp
    all_goals with_reducible rfl
  rotate_left
  · simp only [Act.put, List.setIfInBounds_toArray, List.set_cons_zero, List.set_cons_succ]
    rfl
  refine take_ (i := 1) (N := (some 48)) (v := ?_) (a' := ?_) #[true, true, false, false, false, false, false, false, false, false] rfl rfl (by kernel_rfl) (fun _ _ _ h => h) (Or.inl ⟨by rfl, ?_⟩) hHeld ?_ ?_
  rotate_left
  · intro w' hS'
    (try dsimp only at hS')
    have q2 := pw_cell_below hS' f2
    go_simp
    all_goals with_reducible rfl
  rotate_left
  · simp only [Act.put, List.setIfInBounds_toArray, List.set_cons_zero, List.set_cons_succ]
    rfl
  refine pure_ (i := 2) (N := (some 49)) (v := ?_) (a' := ?_) #[true, true, true, false, false, false, false, false, false, false] rfl rfl (by kernel_rfl) (fun _ _ _ h => h) (Or.inl ⟨by rfl, ?_⟩) ?_ ?_
  rotate_left
  · intro w'
    go_simp
    all_goals with_reducible rfl
  rotate_left
  · simp only [Act.put, List.setIfInBounds_toArray, List.set_cons_zero, List.set_cons_succ]
    rfl
  refine take_ (i := 3) (N := (some 50)) (v := ?_) (a' := ?_) #[true, true, true, true, false, false, false, false, false, false] rfl rfl (by kernel_rfl) (fun _ _ _ h => h) (Or.inl ⟨by rfl, ?_⟩) hHeld ?_ ?_
  rotate_left
  · intro w' hS'
    (try dsimp only at hS')
    have q2 := pw_cell_below hS' g2
    go_simp
    all_goals with_reducible rfl
  rotate_left
  · simp only [Act.put, List.setIfInBounds_toArray, List.set_cons_zero, List.set_cons_succ]
    rfl
  refine pure_ (i := 4) (N := (some 51)) (v := ?_) (a' := ?_) #[true, true, true, true, true, false, false, false, false, false] rfl rfl (by kernel_rfl) (fun _ _ _ h => h) (Or.inl ⟨by rfl, ?_⟩) ?_ ?_
  rotate_left
  · intro w'
    go_simp
    all_goals with_reducible rfl
  rotate_left
  · simp only [Act.put, List.setIfInBounds_toArray, List.set_cons_zero, List.set_cons_succ]
    rfl
  refine take_ (i := 5) (N := (some 52)) (v := ?_) (a' := ?_) #[true, true, true, true, true, true, false, false, false, false] rfl rfl (by kernel_rfl) (fun _ _ _ h => h) (Or.inl ⟨by rfl, ?_⟩) hHeld ?_ ?_
  rotate_left
  · intro w' hS'
    (try dsimp only at hS')
    have q2 := pw_cell_below hS' k0
    go_simp
    all_goals with_reducible rfl
  rotate_left
  · simp only [Act.put, List.setIfInBounds_toArray, List.set_cons_zero, List.set_cons_succ]
    rfl
  refine one_ (i := 6) (N := (some 53)) #[true, true, true, true, true, true, true, false, false, false] rfl rfl (by kernel_rfl) (by decide) (fun K hK => ?_)
  refine value_ (w1 := W.drew.alloc (.cells #[.slice A4 4 c4] 31)) (v := .slice (some ⟨W.drew.heap.size, 0, none⟩) 1 1) (by rfl) rfl (by first | (go_simp; done) | (go_simp; rfl)) ?_
  refine hK.out _ _ (below_alloc hHeld _) (fun hHeld => ?_)
  clear hK K
  refine norm_ (a' := ?_) ?_ ?_
  rotate_left
  · show Act.put _ (some 53) _ = _
    simp only [Act.put, List.setIfInBounds_toArray, List.set_cons_zero, List.set_cons_succ]
    rfl
  refine last_ (i := 7) (N := some 54) #[true, true, true, true, true, true, true, true, false, false] rfl rfl (by kernel_rfl) (by decide) (fun K hK => ?_)
  refine Kd.N_append_step (Kd.slice 23 k23) (w0 := w) w.heap.size (by rfl) (.tmp 48) (.tmp 53) 25 31 (.slice none 0 0) 24 rfl Try.underlying25 info31 rfl (by decide) (by omega) (.slice A1 1 c1) [sq B1] (sq B2) [.slice A4 4 c4] (fun k => w.heap.size ≤ k ∧ k ≠ fb) (fun k => V2.heap.size ≤ k ∧ k ≠ g) rfl rfl (Kd.FK_below HFk.out (below_drew (Below.refl _ _))) HOp.out (fun k hk => HFr.out k hk) (Kd.N_drew HO.out) (below_drew HB.out) HB.out.size (by show (1 + 1) * 24 ≤ _; omega) ?_
  intro v5 w5 hN5 hb5 hg5 hat5
  obtain ⟨A5, c5, rfl⟩ := Kd.N_slice hN5
  have HN5 := Aside0.mk hN5
  have HB5 := Aside0.mk hb5
  have hF5 := blk_grown (blk_below HF.out (below_drew (Below.refl _ _))) hg5 (fun e => Nat.lt_irrefl _ (HLt.out _ e.symm))
  have hX5 := blk_grown (blk_below HX.out (below_drew (Below.refl _ _))) hg5 (fun e => HXn.out _ e.symm rfl)
  clear hN5 hb5 hg5 hat5
  refine hK.out _ _ ?_
  clear hK K
  refine norm_ (a' := ?_) ?_ ?_
  rotate_left
  · show Act.put _ (some 54) _ = _
    simp only [Act.put, List.setIfInBounds_toArray, List.set_cons_zero, List.set_cons_succ]
    rfl
  refine pure_ (i := 8) (N := (some 55)) (v := ?_) (a' := ?_) #[true, true, true, true, true, true, true, true, true, false] rfl rfl (by kernel_rfl) (fun _ _ _ h => h) (Or.inl ⟨by rfl, ?_⟩) ?_ ?_
  rotate_left
  · intro w'
    go_simp
    all_goals with_reducible rfl
  rotate_left
  · simp only [Act.put, List.setIfInBounds_toArray, List.set_cons_zero, List.set_cons_succ]
    rfl
  refine last_ (i := 9) (N := none) #[true, true, true, true, true, true, true, true, true, true] rfl rfl (by kernel_rfl) (by decide) (fun K hK => ?_)
  have s2 : w5.cell? ⟨fb, 2, none⟩ = some (.slice A1 1 c1) := (blk_cell hF5 2).trans rfl
  have sf := blk_frozen hF5 2
  have sl := blk_lt hF5
  refine skip_ (w1 := w5.setCell ⟨fb, 2, none⟩ (.slice A5 2 c5)) (by rfl) rfl ?_ ?_
  · first | (go_simp; done) | (go_simp; rfl)
  refine hK.out _ _ ?_
  clear hK K s2 sf sl
  refine done_ (by kernel_rfl) ?_
  clear hHeld
  have HF7 := Aside0.mk (blk_put hF5 2 (.slice A5 2 c5) rfl)
  have hne : w.heap.size ≠ fb := by omega
  have HX7 := Aside0.mk (blk_far (p := ⟨fb, 2, none⟩) hX5 hne (.slice A5 2 c5))
  have HR7 := Aside0.mk (Own4.reads (Kd.N_far (p := ⟨fb, 2, none⟩) HN5.out (fun _ hk => hk.2) (.slice A5 2 c5))).1
  have HB7 := Aside0.mk (HB5.out.setCell (p := ⟨fb, 2, none⟩) (by show w.heap.size ≤ fb; omega) (.slice A5 2 c5))
  have HSub := Aside0.mk hB1
  have HSub2 := Aside0.mk hB2
  have hB1x : B1.x0 = 10 ∧ B1.y0 = 10 ∧ B1.x1 = 10 + s ∧ B1.y1 = 10 + s := by rw [hB1]; exact ⟨rfl, rfl, rfl, rfl⟩
  have hB2x : B2.x0 = 10 + r ∧ B2.y0 = 10 + r ∧ B2.x1 = 10 + s - r ∧ B2.y1 = 10 + s - r := by rw [hB2]; exact ⟨rfl, rfl, rfl, rfl⟩
  clear hF5 hX5 HN5 HB5 HF HX HB HO HLt HXn HFk HOp HFr f2 g2 k0 hB1 hB2
  generalize w5.setCell ⟨fb, 2, none⟩ (.slice A5 2 c5) = W7 at *
  change Aside0 (W7.heap[fb]? = some (.cells #[.int .i64 2, .int .i64 2, .slice A5 2 c5] 27 (0, 0))) at HF7
  change Aside0 (RC W7 A5 (holeF 2 B1 B2).rings) at HR7
  have x0 : W7.cell? ⟨w.heap.size, 0, none⟩ = some (.int .i64 px) := (blk_cell HX7.out 0).trans rfl
  have x1 : W7.cell? ⟨w.heap.size, 1, none⟩ = some (.int .i64 py) := (blk_cell HX7.out 1).trans rfl
  have f0 : W7.cell? ⟨fb, 0, none⟩ = some (.int .i64 2) := (blk_cell HF7.out 0).trans rfl
  have f1 : W7.cell? ⟨fb, 1, none⟩ = some (.int .i64 2) := (blk_cell HF7.out 1).trans rfl
  have f2 : W7.cell? ⟨fb, 2, none⟩ = some (.slice A5 2 c5) := (blk_cell HF7.out 2).trans rfl
  have fl := blk_lt HF7.out
  go_wp2_with fail
  obtain ⟨X, hX⟩ : ∃ X, 5 + u = X := ⟨_, rfl⟩
  obtain ⟨Y, hY⟩ : ∃ Y, 5 + v = Y := ⟨_, rfl⟩
  rw [hX, hY]
  have bX : 5 ≤ X ∧ X ≤ 68 := by omega
  have bY : 5 ≤ Y ∧ Y ≤ 68 := by omega
  have hmay := holeF_may HSq1.out HSq2.out (id := 2) (by omega) (by omega)
  have hpt : ptP ⟨X, Y⟩ = true := by rw [ptP_iff]; simp only; omega
  have hans := holeF_has (id := 2) HSq1.out HSq2.out (by omega) (by omega) (by omega) (by omega) hpt
  simp only [hB1x.1, hB1x.2.1, hB1x.2.2.1, hB1x.2.2.2, hB2x.1, hB2x.2.1, hB2x.2.2.1, hB2x.2.2.2] at hans
  have hcon := Has_any (holeF 2 B1 B2) A5 c5 ⟨X, Y⟩ _ (Kd.C_below HR7.out (below_alloc (Below.refl _ W7) (.cells #[.int .i64 X, .int .i64 Y] 23)))
  have e1 : hasV (holeF 2 B1 B2) ⟨X, Y⟩ = hasB (holeF 2 B1 B2) ⟨X, Y⟩ := by unfold hasV; rw [hmay, hpt]; rfl
  have e2 : okE (mayB (holeF 2 B1 B2) && ptP ⟨X, Y⟩) = 0 := by rw [hmay, hpt]; rfl
  rw [e1, e2] at hcon
  have HCon := Aside0.mk hcon
  have HQ := Aside0.mk (blk_new W7 (.cells #[.int .i64 X, .int .i64 Y] 23))
  have HB8 := Aside0.mk (below_alloc HB7.out (.cells #[.int .i64 X, .int .i64 Y] 23))
  clear hcon e1 e2 hmay hpt hB1x hB2x HSq1 HSq2 HSub HSub2 x0 x1 f0 f1 f2 fl HF7 HX7 HR7 HB7
  generalize hasB (holeF 2 B1 B2) ⟨X, Y⟩ = ans at *
  refine HCon.out.mono ?_
  rintro e W9 ⟨rfl, hb⟩
  have HQ9 := Aside0.mk (blk_below HQ.out hb)
  have HB9 := Aside0.mk (below_then HB8.out HB8.out.size hb)
  clear hb HQ HB8 HCon
  generalize W7.heap.size = qb at *
  have y0 : W9.cell? ⟨qb, 0, none⟩ = some (.int .i64 X) := (blk_cell HQ9.out 0).trans rfl
  have y1 : W9.cell? ⟨qb, 1, none⟩ = some (.int .i64 Y) := (blk_cell HQ9.out 1).trans rfl
  have ho : (¬ 10 ≤ X) ∨ (10 ≤ X ∧ ¬ X ≤ 10 + s) ∨ (10 ≤ X ∧ X ≤ 10 + s ∧ ¬ 10 ≤ Y) ∨ (10 ≤ X ∧ X ≤ 10 + s ∧ 10 ≤ Y ∧ ¬ Y ≤ 10 + s) ∨ (10 ≤ X ∧ X ≤ 10 + s ∧ 10 ≤ Y ∧ Y ≤ 10 + s) := by omega
  have hi : (¬ 10 + r < X) ∨ (10 + r < X ∧ ¬ X < 10 + s - r) ∨ (10 + r < X ∧ X < 10 + s - r ∧ ¬ 10 + r < Y) ∨ (10 + r < X ∧ X < 10 + s - r ∧ 10 + r < Y ∧ ¬ Y < 10 + s - r) ∨ (10 + r < X ∧ X < 10 + s - r ∧ 10 + r < Y ∧ Y < 10 + s - r) := by omega
  have HAns := Aside0.mk hans
  have HHs := Aside0.mk (And.intro hs (And.intro hr (And.intro hX hY)))
  clear hans hs hr hX hY hm hn hu hv bm bn bu bv
  rcases ho with h1 | ⟨h1, h2⟩ | ⟨h1, h2, h3⟩ | ⟨h1, h2, h3, h4⟩ | ⟨h1, h2, h3, h4⟩
  all_goals rcases hi with i1 | ⟨i1, i2⟩ | ⟨i1, i2, i3⟩ | ⟨i1, i2, i3, i4⟩ | ⟨i1, i2, i3, i4⟩
  all_goals cases ans
  all_goals first
    | (exfalso; have h := HAns.out; simp at h; omega)
    | (clear HAns HHs
       go_wp2_with ((go_at_call 13; refine (num_any _ _).mono ?_; rintro e w' ⟨rfl, rfl⟩))
       go_ret
       first
         | exact ⟨rfl, HB9.out⟩
         | (refine ⟨?_, HB9.out⟩
            show Ending.returned (Value.bool _) = Ending.returned (Value.bool true)
            refine congrArg (fun b => Ending.returned (Value.bool b)) ?_
            first | rfl | (simp [*]; done) | (simp; omega)))
end Go.Proofs.Ytmednnpmkhgfpaa.SH
