/- What furlonglaw4.ShapeBoxes answers: yes. -/
import Derived.Test.YtmednnpmkhgfpaaShAw
import Derived.Test.YtmednnpmkhgfpaaGeoR
namespace Go.Proofs.Ytmednnpmkhgfpaa.SH
open Go Go.RowKit Go.Proofs.YtmednnpmkhgfpaaW.PrintWords Go.Proofs.YtmednnpmkhgfpaaW.PrintLast Go.Proofs.YtmednnpmkhgfpaaW.PrintMore Go.Proofs.Ytmednnpmkhgfpaa.PShapes Go.Proofs.Ytmednnpmkhgfpaa.Geo
open Go.Proofs.Ytmednnpmkhgfpaa.GW (rBoxMay_any rPointMay_any rWithin_any rMeet_any)
set_option linter.unusedVariables false
set_option linter.unusedSimpArgs false
attribute [local go_sem high] eqA23 eqA30

theorem num_b (x : Int) (w : World) : Calls Try.prog 13 #[.int .i64 x] w fun e w' => e = .returned (.int .i64 x) ∧ Below w.heap.size w w' :=
  (num_any x w).mono fun e w' h => ⟨h.1, by rw [h.2]; exact Below.refl _ _⟩
theorem box_sq (b : Bx) (h : Sq b) (A : Option Addr) (n : Nat) (w : World) (hr : RC w A (sqF 3 b).rings) : Calls Try.prog 17 #[.agg #[.int .i64 3, .int .i64 2, .slice A 1 n]] w fun e w' => e = .returned (.tuple #[.agg #[.int .i64 b.x0, .int .i64 b.y0, .int .i64 b.x1, .int .i64 b.y1], .int .i64 0]) ∧ Below w.heap.size w w' := by
  have h2 := Box_any (sqF 3 b) A n w hr
  rw [sqF_box h (by omega) (by omega), sqF_may h (by omega) (by omega)] at h2
  exact h2
theorem has_sq (b : Bx) (h : Sq b) (p : S23) (A : Option Addr) (n : Nat) (w : World) (hr : RC w A (sqF 3 b).rings) (hh : hasV (sqF 3 b) p = withinB p.f0 p.f1 b.x0 b.y0 b.x1 b.y1) : Calls Try.prog 12 #[.agg #[.int .i64 3, .int .i64 2, .slice A 1 n], .agg #[.int .i64 p.f0, .int .i64 p.f1]] w fun e w' => e = .returned (.tuple #[.bool (withinB p.f0 p.f1 b.x0 b.y0 b.x1 b.y1), .int .i64 (okE (ptB p.f0 p.f1))]) ∧ Below w.heap.size w w' := by
  have h2 := Has_any (sqF 3 b) A n p w hr
  rw [hh, sqF_may h (by omega) (by omega), Bool.true_and] at h2
  exact h2
theorem meets_sq (b : Bx) (h : Sq b) (c : Bx) (A : Option Addr) (n : Nat) (w : World) (hr : RC w A (sqF 3 b).rings) (hh : meetsV (sqF 3 b) c = meetB b.x0 b.y0 b.x1 b.y1 c.x0 c.y0 c.x1 c.y1) : Calls Try.prog 15 #[.agg #[.int .i64 3, .int .i64 2, .slice A 1 n], .agg #[.int .i64 c.x0, .int .i64 c.y0, .int .i64 c.x1, .int .i64 c.y1]] w fun e w' => e = .returned (.tuple #[.bool (meetB b.x0 b.y0 b.x1 b.y1 c.x0 c.y0 c.x1 c.y1), .int .i64 (okE (boxB c.x0 c.y0 c.x1 c.y1))]) ∧ Below w.heap.size w w' := by
  have h2 := Meets_any (sqF 3 b) A n c w hr
  rw [hh, sqF_may h (by omega) (by omega), Bool.true_and] at h2
  exact h2
theorem okE_eq (b : Bool) : ((okE b == 0) == b) = true := by cases b <;> rfl
set_option maxHeartbeats 8000000 in
set_option maxRecDepth 100000 in
theorem boxes_any' (b : Bx) (p : S23) (c : Bx) (w : World) : Calls Try.prog 7 #[.agg #[.int .i64 b.x0, .int .i64 b.y0, .int .i64 b.x1, .int .i64 b.y1], .agg #[.int .i64 p.f0, .int .i64 p.f1], .agg #[.int .i64 c.x0, .int .i64 c.y0, .int .i64 c.x1, .int .i64 c.y1]] w fun e w' => e = .returned (.bool true) ∧ Below w.heap.size w w' := by
  have h0 := blk_alloc (blk_alloc (blk_new w (.cells #[.int .i64 b.x0, .int .i64 b.y0, .int .i64 b.x1, .int .i64 b.y1] 30)) (.cells #[.int .i64 p.f0, .int .i64 p.f1] 23)) (.cells #[.int .i64 c.x0, .int .i64 c.y0, .int .i64 c.x1, .int .i64 c.y1] 30)
  have h1 := blk_alloc (blk_new (w.alloc (.cells #[.int .i64 b.x0, .int .i64 b.y0, .int .i64 b.x1, .int .i64 b.y1] 30)) (.cells #[.int .i64 p.f0, .int .i64 p.f1] 23)) (.cells #[.int .i64 c.x0, .int .i64 c.y0, .int .i64 c.x1, .int .i64 c.y1] 30)
  have h2 := blk_new ((w.alloc (.cells #[.int .i64 b.x0, .int .i64 b.y0, .int .i64 b.x1, .int .i64 b.y1] 30)).alloc (.cells #[.int .i64 p.f0, .int .i64 p.f1] 23)) (.cells #[.int .i64 c.x0, .int .i64 c.y0, .int .i64 c.x1, .int .i64 c.y1] 30)
  simp only [World.size_alloc] at h1 h2
  have hB := below_alloc (below_alloc (below_alloc (Below.refl w.heap.size w) (.cells #[.int .i64 b.x0, .int .i64 b.y0, .int .i64 b.x1, .int .i64 b.y1] 30)) (.cells #[.int .i64 p.f0, .int .i64 p.f1] 23)) (.cells #[.int .i64 c.x0, .int .i64 c.y0, .int .i64 c.x1, .int .i64 c.y1] 30)
  go_enter Try.func7, Try.ntmps7
  go_wp2_with fail
  refine (awake_any _).mono ?_
  rintro e w1 ⟨rfl, hb⟩
  have H0 := Aside0.mk (blk_below h0 hb)
  have H1 := Aside0.mk (blk_below h1 hb)
  have H2 := Aside0.mk (blk_below h2 hb)
  have HB := Aside0.mk (below_then hB hB.size hb)
  clear hb h0 h1 h2 hB
  have b0 : w1.cell? ⟨w.heap.size, 0, none⟩ = some (.int .i64 b.x0) := (blk_cell H0.out 0).trans rfl
  have b1 : w1.cell? ⟨w.heap.size, 1, none⟩ = some (.int .i64 b.y0) := (blk_cell H0.out 1).trans rfl
  have b2 : w1.cell? ⟨w.heap.size, 2, none⟩ = some (.int .i64 b.x1) := (blk_cell H0.out 2).trans rfl
  have b3 : w1.cell? ⟨w.heap.size, 3, none⟩ = some (.int .i64 b.y1) := (blk_cell H0.out 3).trans rfl
  go_wp2_with fail
  clear b0 b1 b2 b3
  refine (rBoxMay_any b.x0 b.y0 b.x1 b.y1 w1).mono ?_
  rintro e w2 ⟨rfl, hb⟩
  replace H0 := Aside0.mk (blk_below H0.out hb)
  replace H1 := Aside0.mk (blk_below H1.out hb)
  replace H2 := Aside0.mk (blk_below H2.out hb)
  replace HB := Aside0.mk (below_then HB.out HB.out.size hb)
  clear hb
  have b0 : w2.cell? ⟨w.heap.size, 0, none⟩ = some (.int .i64 b.x0) := (blk_cell H0.out 0).trans rfl
  have b1 : w2.cell? ⟨w.heap.size, 1, none⟩ = some (.int .i64 b.y0) := (blk_cell H0.out 1).trans rfl
  have b2 : w2.cell? ⟨w.heap.size, 2, none⟩ = some (.int .i64 b.x1) := (blk_cell H0.out 2).trans rfl
  have b3 : w2.cell? ⟨w.heap.size, 3, none⟩ = some (.int .i64 b.y1) := (blk_cell H0.out 3).trans rfl
  cases hm : boxB b.x0 b.y0 b.x1 b.y1
  · clear hm
    go_wp2_with fail
    go_ret
    exact ⟨rfl, HB.out⟩
  by_cases hx : b.x0 = b.x1
  · have hx' : (b.x0 == b.x1) = true := by simp [hx]
    clear hm hx
    go_wp2_with fail
    go_ret
    exact ⟨rfl, HB.out⟩
  have hx' : (b.x0 == b.x1) = false := by simp [hx]
  by_cases hy : b.y0 = b.y1
  · have hy' : (b.y0 == b.y1) = true := by simp [hy]
    clear hm hx hy
    go_wp2_with fail
    go_ret
    exact ⟨rfl, HB.out⟩
  have hy' : (b.y0 == b.y1) = false := by simp [hy]
  have HS := Aside0.mk (show Sq b from ⟨hm, by have := boxB_iff.1 hm; omega, by have := boxB_iff.1 hm; omega⟩)
  clear hm hx hy
  go_wp2_with fail
  clear b0 b1 b2 b3 hx' hy'
  refine (square_any 3 b w2).mono ?_
  rintro e w3 ⟨A, n, rfl, hN, hb⟩
  replace H0 := Aside0.mk (blk_below H0.out hb)
  replace H1 := Aside0.mk (blk_below H1.out hb)
  replace H2 := Aside0.mk (blk_below H2.out hb)
  replace HB := Aside0.mk (below_then HB.out HB.out.size hb)
  have HR := Aside0.mk (show RC w3 A (sqF 3 b).rings from (Own4.reads hN).1)
  clear hb hN
  have hm := sqF_may (id := 3) HS.out (by omega) (by omega)
  have HMay := Aside0.mk hm
  have HBox := Aside0.mk (sqF_box (id := 3) HS.out (by omega) (by omega))
  have HHas := Aside0.mk (show hasV (sqF 3 b) p = withinB p.f0 p.f1 b.x0 b.y0 b.x1 b.y1 by
    unfold hasV
    rw [hm, Bool.true_and]
    cases hp : ptP p
    · unfold withinB
      rw [show ptB p.f0 p.f1 = false from hp]
      rfl
    · rw [sqF_has HS.out hp, Bool.true_and]
      rfl)
  have HMeet := Aside0.mk (show meetsV (sqF 3 b) c = meetB b.x0 b.y0 b.x1 b.y1 c.x0 c.y0 c.x1 c.y1 by
    unfold meetsV
    rw [hm, Bool.true_and]
    cases hc : bxMay c
    · unfold meetB
      rw [show boxB c.x0 c.y0 c.x1 c.y1 = false from hc, Bool.and_false]
      rfl
    · rw [sqF_meets HS.out (by omega) (by omega) hc, Bool.true_and]
      rfl)
  clear hm
  go_wp2_with fail
  have HF := Aside0.mk (blk_new w3 (.cells #[.int .i64 3, .int .i64 2, .slice A 1 n] 27))
  replace H0 := Aside0.mk (blk_alloc H0.out (.cells #[.int .i64 3, .int .i64 2, .slice A 1 n] 27))
  replace H1 := Aside0.mk (blk_alloc H1.out (.cells #[.int .i64 3, .int .i64 2, .slice A 1 n] 27))
  replace H2 := Aside0.mk (blk_alloc H2.out (.cells #[.int .i64 3, .int .i64 2, .slice A 1 n] 27))
  replace HB := Aside0.mk (below_alloc HB.out (.cells #[.int .i64 3, .int .i64 2, .slice A 1 n] 27))
  replace HR := Aside0.mk (Kd.C_below HR.out (below_alloc (Below.refl _ _) (.cells #[.int .i64 3, .int .i64 2, .slice A 1 n] 27)))
  generalize w3.alloc (.cells #[.int .i64 3, .int .i64 2, .slice A 1 n] 27) = w4 at *
  generalize w3.heap.size = fb at *
  refine (box_sq b HS.out A n w4 HR.out).mono ?_
  rintro e w5 ⟨rfl, hb⟩
  replace H0 := Aside0.mk (blk_alloc (blk_below H0.out hb) (.cells #[.int .i64 b.x0, .int .i64 b.y0, .int .i64 b.x1, .int .i64 b.y1] 30))
  replace H1 := Aside0.mk (blk_alloc (blk_below H1.out hb) (.cells #[.int .i64 b.x0, .int .i64 b.y0, .int .i64 b.x1, .int .i64 b.y1] 30))
  replace H2 := Aside0.mk (blk_alloc (blk_below H2.out hb) (.cells #[.int .i64 b.x0, .int .i64 b.y0, .int .i64 b.x1, .int .i64 b.y1] 30))
  replace HF := Aside0.mk (blk_alloc (blk_below HF.out hb) (.cells #[.int .i64 b.x0, .int .i64 b.y0, .int .i64 b.x1, .int .i64 b.y1] 30))
  have HX := Aside0.mk (blk_new w5 (.cells #[.int .i64 b.x0, .int .i64 b.y0, .int .i64 b.x1, .int .i64 b.y1] 30))
  replace HB := Aside0.mk (below_alloc (below_then HB.out HB.out.size hb) (.cells #[.int .i64 b.x0, .int .i64 b.y0, .int .i64 b.x1, .int .i64 b.y1] 30))
  replace HR := Aside0.mk (Kd.C_below (Kd.C_below HR.out hb) (below_alloc (Below.refl _ _) (.cells #[.int .i64 b.x0, .int .i64 b.y0, .int .i64 b.x1, .int .i64 b.y1] 30)))
  clear hb
  go_upto_region 7 with (fail)
  generalize w5.alloc (.cells #[.int .i64 b.x0, .int .i64 b.y0, .int .i64 b.x1, .int .i64 b.y1] 30) = w6 at *
  generalize w5.heap.size = xb at *
  have f0 : w6.cell? ⟨fb, 0, none⟩ = some (.int .i64 3) := (blk_cell HF.out 0).trans rfl
  have f1 : w6.cell? ⟨fb, 1, none⟩ = some (.int .i64 2) := (blk_cell HF.out 1).trans rfl
  have f2 : w6.cell? ⟨fb, 2, none⟩ = some (.slice A 1 n) := (blk_cell HF.out 2).trans rfl
  have p0 : w6.cell? ⟨w.heap.size + 1, 0, none⟩ = some (.int .i64 p.f0) := (blk_cell H1.out 0).trans rfl
  have p1 : w6.cell? ⟨w.heap.size + 1, 1, none⟩ = some (.int .i64 p.f1) := (blk_cell H1.out 1).trans rfl
  go_wp2_with fail
  clear f0 f1 f2 p0 p1
  refine (has_sq b HS.out p A n w6 HR.out HHas.out).mono ?_
  rintro e w7 ⟨rfl, hb⟩
  replace H0 := Aside0.mk (blk_below H0.out hb)
  replace H1 := Aside0.mk (blk_below H1.out hb)
  replace H2 := Aside0.mk (blk_below H2.out hb)
  replace HF := Aside0.mk (blk_below HF.out hb)
  replace HX := Aside0.mk (blk_below HX.out hb)
  replace HB := Aside0.mk (below_then HB.out HB.out.size hb)
  replace HR := Aside0.mk (Kd.C_below HR.out hb)
  clear hb
  have f0 : w7.cell? ⟨fb, 0, none⟩ = some (.int .i64 3) := (blk_cell HF.out 0).trans rfl
  have f1 : w7.cell? ⟨fb, 1, none⟩ = some (.int .i64 2) := (blk_cell HF.out 1).trans rfl
  have f2 : w7.cell? ⟨fb, 2, none⟩ = some (.slice A 1 n) := (blk_cell HF.out 2).trans rfl
  have c0 : w7.cell? ⟨w.heap.size + 1 + 1, 0, none⟩ = some (.int .i64 c.x0) := (blk_cell H2.out 0).trans rfl
  have c1 : w7.cell? ⟨w.heap.size + 1 + 1, 1, none⟩ = some (.int .i64 c.y0) := (blk_cell H2.out 1).trans rfl
  have c2 : w7.cell? ⟨w.heap.size + 1 + 1, 2, none⟩ = some (.int .i64 c.x1) := (blk_cell H2.out 2).trans rfl
  have c3 : w7.cell? ⟨w.heap.size + 1 + 1, 3, none⟩ = some (.int .i64 c.y1) := (blk_cell H2.out 3).trans rfl
  go_wp2_with fail
  clear f0 f1 f2 c0 c1 c2 c3
  refine (meets_sq b HS.out c A n w7 HR.out HMeet.out).mono ?_
  rintro e V ⟨rfl, hb⟩
  replace H0 := Aside0.mk (blk_below H0.out hb)
  replace H1 := Aside0.mk (blk_below H1.out hb)
  replace H2 := Aside0.mk (blk_below H2.out hb)
  replace HX := Aside0.mk (blk_below HX.out hb)
  replace HB := Aside0.mk (below_then HB.out HB.out.size hb)
  clear hb HF HR HHas HMeet HBox HMay HS
  have b0 : V.cell? ⟨w.heap.size, 0, none⟩ = some (.int .i64 b.x0) := (blk_cell H0.out 0).trans rfl
  have b1 : V.cell? ⟨w.heap.size, 1, none⟩ = some (.int .i64 b.y0) := (blk_cell H0.out 1).trans rfl
  have b2 : V.cell? ⟨w.heap.size, 2, none⟩ = some (.int .i64 b.x1) := (blk_cell H0.out 2).trans rfl
  have b3 : V.cell? ⟨w.heap.size, 3, none⟩ = some (.int .i64 b.y1) := (blk_cell H0.out 3).trans rfl
  have p0 : V.cell? ⟨w.heap.size + 1, 0, none⟩ = some (.int .i64 p.f0) := (blk_cell H1.out 0).trans rfl
  have p1 : V.cell? ⟨w.heap.size + 1, 1, none⟩ = some (.int .i64 p.f1) := (blk_cell H1.out 1).trans rfl
  have c0 : V.cell? ⟨w.heap.size + 1 + 1, 0, none⟩ = some (.int .i64 c.x0) := (blk_cell H2.out 0).trans rfl
  have c1 : V.cell? ⟨w.heap.size + 1 + 1, 1, none⟩ = some (.int .i64 c.y0) := (blk_cell H2.out 1).trans rfl
  have c2 : V.cell? ⟨w.heap.size + 1 + 1, 2, none⟩ = some (.int .i64 c.x1) := (blk_cell H2.out 2).trans rfl
  have c3 : V.cell? ⟨w.heap.size + 1 + 1, 3, none⟩ = some (.int .i64 c.y1) := (blk_cell H2.out 3).trans rfl
  have x0 : V.cell? ⟨xb, 0, none⟩ = some (.int .i64 b.x0) := (blk_cell HX.out 0).trans rfl
  have x1 : V.cell? ⟨xb, 1, none⟩ = some (.int .i64 b.y0) := (blk_cell HX.out 1).trans rfl
  have x2 : V.cell? ⟨xb, 2, none⟩ = some (.int .i64 b.x1) := (blk_cell HX.out 2).trans rfl
  have x3 : V.cell? ⟨xb, 3, none⟩ = some (.int .i64 b.y1) := (blk_cell HX.out 3).trans rfl
  have HQ1 := Aside0.mk (okE_eq (ptB p.f0 p.f1))
  have HQ2 := Aside0.mk (okE_eq (boxB c.x0 c.y0 c.x1 c.y1))
  clear H0 H1 H2 HX
  go_wp2_with fail
  refine start_ (n := 39) (S := fun w' => Below V.heap.size V w') (ds := []) #[false, false, false, false, false, false, false, false, false, false, false, false, false, false, false, false, false, false, false, false, false, false, false, false, false, false, false, false, false, false, false, false, false, false, false, false, false, false, false] (by kernel_rfl) rfl rfl (below_drew (Below.refl _ _)) (fun hHeld => ?_)
  refine pure_ (i := 0) (N := (some 52)) (v := ?_) (a' := ?_) #[true, false, false, false, false, false, false, false, false, false, false, false, false, false, false, false, false, false, false, false, false, false, false, false, false, false, false, false, false, false, false, false, false, false, false, false, false, false, false] rfl rfl (by kernel_rfl) (fun _ _ _ h => h) (Or.inl ⟨by rfl, ?_⟩) ?_ ?_
  rotate_left
  · intro w'
    go_simp
    all_goals with_reducible rfl
  rotate_left
  · simp only [Act.put, List.setIfInBounds_toArray, List.set_cons_zero, List.set_cons_succ]
    rfl
  refine one_ (i := 1) (N := (some 53)) #[true, true, false, false, false, false, false, false, false, false, false, false, false, false, false, false, false, false, false, false, false, false, false, false, false, false, false, false, false, false, false, false, false, false, false, false, false, false, false] rfl rfl (by kernel_rfl) (by decide) (fun K hK => ?_)
  refine goes_ Try.func13 (by kernel_rfl) rfl #[.int .i64 (0)] (by rfl) rfl rfl (by first | rfl | (simp only [List.map_toArray, List.map_cons, List.map_nil]; rfl)) ?_
  refine (num_b _ _).mono ?_
  rintro e w4 ⟨rfl, hb4⟩
  refine ⟨_, rfl, ?_⟩
  refine hK.out _ _ (below_then hHeld hHeld.size hb4) (fun hHeld => ?_)
  clear hK K
  refine norm_ (a' := ?_) ?_ ?_
  rotate_left
  · show Act.put _ (some 53) _ = _
    simp only [Act.put, List.setIfInBounds_toArray, List.set_cons_zero, List.set_cons_succ]
    rfl
  refine pure_ (i := 2) (N := (some 54)) (v := .bool true) (a' := ?_) #[true, true, true, false, false, false, false, false, false, false, false, false, false, false, false, false, false, false, false, false, false, false, false, false, false, false, false, false, false, false, false, false, false, false, false, false, false, false, false] rfl rfl (by kernel_rfl) (fun _ _ _ h => h) (Or.inl ⟨by rfl, ?_⟩) ?_ ?_
  · intro w'
    go_simp
    all_goals (first | with_reducible rfl | (simp; done))
  rotate_left
  · simp only [Act.put, List.setIfInBounds_toArray, List.set_cons_zero, List.set_cons_succ]
    rfl
  refine pure_ (i := 3) (N := (some 55)) (v := ?_) (a' := ?_) #[true, true, true, true, false, false, false, false, false, false, false, false, false, false, false, false, false, false, false, false, false, false, false, false, false, false, false, false, false, false, false, false, false, false, false, false, false, false, false] rfl rfl (by kernel_rfl) (fun _ _ _ h => h) (Or.inl ⟨by rfl, ?_⟩) ?_ ?_
  rotate_left
  · intro w'
    go_simp
    all_goals with_reducible rfl
  rotate_left
  · simp only [Act.put, List.setIfInBounds_toArray, List.set_cons_zero, List.set_cons_succ]
    rfl
  refine take_ (i := 4) (N := (some 56)) (v := ?_) (a' := ?_) #[true, true, true, true, true, false, false, false, false, false, false, false, false, false, false, false, false, false, false, false, false, false, false, false, false, false, false, false, false, false, false, false, false, false, false, false, false, false, false] rfl rfl (by kernel_rfl) (fun _ _ _ h => h) (Or.inl ⟨by rfl, ?_⟩) hHeld ?_ ?_
  rotate_left
  · intro w' hS'
    (try dsimp only at hS')
    have g0 := pw_cell_below hS' x0
    have g1 := pw_cell_below hS' x1
    have g2 := pw_cell_below hS' x2
    have g3 := pw_cell_below hS' x3
    go_simp
    all_goals with_reducible rfl
  rotate_left
  · simp only [Act.put, List.setIfInBounds_toArray, List.set_cons_zero, List.set_cons_succ]
    rfl
  refine take_ (i := 5) (N := (some 57)) (v := ?_) (a' := ?_) #[true, true, true, true, true, true, false, false, false, false, false, false, false, false, false, false, false, false, false, false, false, false, false, false, false, false, false, false, false, false, false, false, false, false, false, false, false, false, false] rfl rfl (by kernel_rfl) (fun _ _ _ h => h) (Or.inl ⟨by rfl, ?_⟩) hHeld ?_ ?_
  rotate_left
  · intro w' hS'
    (try dsimp only at hS')
    have g0 := pw_cell_below hS' b0
    have g1 := pw_cell_below hS' b1
    have g2 := pw_cell_below hS' b2
    have g3 := pw_cell_below hS' b3
    go_simp
    all_goals with_reducible rfl
  rotate_left
  · simp only [Act.put, List.setIfInBounds_toArray, List.set_cons_zero, List.set_cons_succ]
    rfl
  refine pure_ (i := 6) (N := (some 58)) (v := .bool true) (a' := ?_) #[true, true, true, true, true, true, true, false, false, false, false, false, false, false, false, false, false, false, false, false, false, false, false, false, false, false, false, false, false, false, false, false, false, false, false, false, false, false, false] rfl rfl (by kernel_rfl) (fun _ _ _ h => h) (Or.inl ⟨by rfl, ?_⟩) ?_ ?_
  · intro w'
    go_simp
    all_goals (first | with_reducible rfl | (simp; done))
  rotate_left
  · simp only [Act.put, List.setIfInBounds_toArray, List.set_cons_zero, List.set_cons_succ]
    rfl
  refine pure_ (i := 7) (N := (some 59)) (v := ?_) (a' := ?_) #[true, true, true, true, true, true, true, true, false, false, false, false, false, false, false, false, false, false, false, false, false, false, false, false, false, false, false, false, false, false, false, false, false, false, false, false, false, false, false] rfl rfl (by kernel_rfl) (fun _ _ _ h => h) (Or.inl ⟨by rfl, ?_⟩) ?_ ?_
  rotate_left
  · intro w'
    go_simp
    all_goals with_reducible rfl
  rotate_left
  · simp only [Act.put, List.setIfInBounds_toArray, List.set_cons_zero, List.set_cons_succ]
    rfl
  refine pure_ (i := 8) (N := (some 60)) (v := ?_) (a' := ?_) #[true, true, true, true, true, true, true, true, true, false, false, false, false, false, false, false, false, false, false, false, false, false, false, false, false, false, false, false, false, false, false, false, false, false, false, false, false, false, false] rfl rfl (by kernel_rfl) (fun _ _ _ h => h) (Or.inl ⟨by rfl, ?_⟩) ?_ ?_
  rotate_left
  · intro w'
    go_simp
    all_goals with_reducible rfl
  rotate_left
  · simp only [Act.put, List.setIfInBounds_toArray, List.set_cons_zero, List.set_cons_succ]
    rfl
  refine pure_ (i := 9) (N := (some 61)) (v := ?_) (a' := ?_) #[true, true, true, true, true, true, true, true, true, true, false, false, false, false, false, false, false, false, false, false, false, false, false, false, false, false, false, false, false, false, false, false, false, false, false, false, false, false, false] rfl rfl (by kernel_rfl) (fun _ _ _ h => h) (Or.inl ⟨by rfl, ?_⟩) ?_ ?_
  rotate_left
  · intro w'
    go_simp
    all_goals with_reducible rfl
  rotate_left
  · simp only [Act.put, List.setIfInBounds_toArray, List.set_cons_zero, List.set_cons_succ]
    rfl
  refine take_ (i := 12) (N := (some 64)) (v := ?_) (a' := ?_) #[true, true, true, true, true, true, true, true, true, true, false, false, true, false, false, false, false, false, false, false, false, false, false, false, false, false, false, false, false, false, false, false, false, false, false, false, false, false, false] rfl rfl (by kernel_rfl) (fun _ _ _ h => h) (Or.inl ⟨by rfl, ?_⟩) hHeld ?_ ?_
  rotate_left
  · intro w' hS'
    (try dsimp only at hS')
    have g0 := pw_cell_below hS' p0
    have g1 := pw_cell_below hS' p1
    go_simp
    all_goals with_reducible rfl
  rotate_left
  · simp only [Act.put, List.setIfInBounds_toArray, List.set_cons_zero, List.set_cons_succ]
    rfl
  refine one_ (i := 10) (N := (some 62)) #[true, true, true, true, true, true, true, true, true, true, true, false, true, false, false, false, false, false, false, false, false, false, false, false, false, false, false, false, false, false, false, false, false, false, false, false, false, false, false] rfl rfl (by kernel_rfl) (by decide) (fun K hK => ?_)
  refine goes_ Try.func13 (by kernel_rfl) rfl #[.int .i64 (okE (ptB p.f0 p.f1))] (by rfl) rfl rfl (by first | rfl | (simp only [List.map_toArray, List.map_cons, List.map_nil]; rfl)) ?_
  refine (num_b _ _).mono ?_
  rintro e w4 ⟨rfl, hb4⟩
  refine ⟨_, rfl, ?_⟩
  refine hK.out _ _ (below_then hHeld hHeld.size hb4) (fun hHeld => ?_)
  clear hK K
  refine norm_ (a' := ?_) ?_ ?_
  rotate_left
  · show Act.put _ (some 62) _ = _
    simp only [Act.put, List.setIfInBounds_toArray, List.set_cons_zero, List.set_cons_succ]
    rfl
  refine pure_ (i := 11) (N := (some 63)) (v := ?_) (a' := ?_) #[true, true, true, true, true, true, true, true, true, true, true, true, true, false, false, false, false, false, false, false, false, false, false, false, false, false, false, false, false, false, false, false, false, false, false, false, false, false, false] rfl rfl (by kernel_rfl) (fun _ _ _ h => h) (Or.inl ⟨by rfl, ?_⟩) ?_ ?_
  rotate_left
  · intro w'
    go_simp
    all_goals with_reducible rfl
  rotate_left
  · simp only [Act.put, List.setIfInBounds_toArray, List.set_cons_zero, List.set_cons_succ]
    rfl
  refine one_ (i := 13) (N := (some 65)) #[true, true, true, true, true, true, true, true, true, true, true, true, true, true, false, false, false, false, false, false, false, false, false, false, false, false, false, false, false, false, false, false, false, false, false, false, false, false, false] rfl rfl (by kernel_rfl) (by decide) (fun K hK => ?_)
  refine goes_ Try.func28 (by kernel_rfl) rfl #[.agg #[.int .i64 p.f0, .int .i64 p.f1]] (by rfl) rfl rfl (by first | rfl | (simp only [List.map_toArray, List.map_cons, List.map_nil]; rfl)) ?_
  refine (rPointMay_any p.f0 p.f1 _).mono ?_
  rintro e w4 ⟨rfl, hb4⟩
  refine ⟨_, rfl, ?_⟩
  refine hK.out _ _ (below_then hHeld hHeld.size hb4) (fun hHeld => ?_)
  clear hK K
  refine norm_ (a' := ?_) ?_ ?_
  rotate_left
  · show Act.put _ (some 65) _ = _
    simp only [Act.put, List.setIfInBounds_toArray, List.set_cons_zero, List.set_cons_succ]
    rfl
  refine pure_ (i := 14) (N := (some 66)) (v := .bool true) (a' := ?_) #[true, true, true, true, true, true, true, true, true, true, true, true, true, true, true, false, false, false, false, false, false, false, false, false, false, false, false, false, false, false, false, false, false, false, false, false, false, false, false] rfl rfl (by kernel_rfl) (fun _ _ _ h => h) (Or.inl ⟨by rfl, ?_⟩) ?_ ?_
  · intro w'
    go_simp
    all_goals (first | exact HQ1.out | exact beq_iff_eq.1 HQ1.out)
  rotate_left
  · simp only [Act.put, List.setIfInBounds_toArray, List.set_cons_zero, List.set_cons_succ]
    rfl
  refine pure_ (i := 15) (N := (some 67)) (v := ?_) (a' := ?_) #[true, true, true, true, true, true, true, true, true, true, true, true, true, true, true, true, false, false, false, false, false, false, false, false, false, false, false, false, false, false, false, false, false, false, false, false, false, false, false] rfl rfl (by kernel_rfl) (fun _ _ _ h => h) (Or.inl ⟨by rfl, ?_⟩) ?_ ?_
  rotate_left
  · intro w'
    go_simp
    all_goals with_reducible rfl
  rotate_left
  · simp only [Act.put, List.setIfInBounds_toArray, List.set_cons_zero, List.set_cons_succ]
    rfl
  refine pure_ (i := 16) (N := (some 68)) (v := ?_) (a' := ?_) #[true, true, true, true, true, true, true, true, true, true, true, true, true, true, true, true, true, false, false, false, false, false, false, false, false, false, false, false, false, false, false, false, false, false, false, false, false, false, false] rfl rfl (by kernel_rfl) (fun _ _ _ h => h) (Or.inl ⟨by rfl, ?_⟩) ?_ ?_
  rotate_left
  · intro w'
    go_simp
    all_goals with_reducible rfl
  rotate_left
  · simp only [Act.put, List.setIfInBounds_toArray, List.set_cons_zero, List.set_cons_succ]
    rfl
  refine pure_ (i := 17) (N := (some 69)) (v := ?_) (a' := ?_) #[true, true, true, true, true, true, true, true, true, true, true, true, true, true, true, true, true, true, false, false, false, false, false, false, false, false, false, false, false, false, false, false, false, false, false, false, false, false, false] rfl rfl (by kernel_rfl) (fun _ _ _ h => h) (Or.inl ⟨by rfl, ?_⟩) ?_ ?_
  rotate_left
  · intro w'
    go_simp
    all_goals with_reducible rfl
  rotate_left
  · simp only [Act.put, List.setIfInBounds_toArray, List.set_cons_zero, List.set_cons_succ]
    rfl
  refine take_ (i := 18) (N := (some 70)) (v := ?_) (a' := ?_) #[true, true, true, true, true, true, true, true, true, true, true, true, true, true, true, true, true, true, true, false, false, false, false, false, false, false, false, false, false, false, false, false, false, false, false, false, false, false, false] rfl rfl (by kernel_rfl) (fun _ _ _ h => h) (Or.inl ⟨by rfl, ?_⟩) hHeld ?_ ?_
  rotate_left
  · intro w' hS'
    (try dsimp only at hS')
    have g0 := pw_cell_below hS' p0
    have g1 := pw_cell_below hS' p1
    go_simp
    all_goals with_reducible rfl
  rotate_left
  · simp only [Act.put, List.setIfInBounds_toArray, List.set_cons_zero, List.set_cons_succ]
    rfl
  refine take_ (i := 19) (N := (some 71)) (v := ?_) (a' := ?_) #[true, true, true, true, true, true, true, true, true, true, true, true, true, true, true, true, true, true, true, true, false, false, false, false, false, false, false, false, false, false, false, false, false, false, false, false, false, false, false] rfl rfl (by kernel_rfl) (fun _ _ _ h => h) (Or.inl ⟨by rfl, ?_⟩) hHeld ?_ ?_
  rotate_left
  · intro w' hS'
    (try dsimp only at hS')
    have g0 := pw_cell_below hS' b0
    have g1 := pw_cell_below hS' b1
    have g2 := pw_cell_below hS' b2
    have g3 := pw_cell_below hS' b3
    go_simp
    all_goals with_reducible rfl
  rotate_left
  · simp only [Act.put, List.setIfInBounds_toArray, List.set_cons_zero, List.set_cons_succ]
    rfl
  refine one_ (i := 20) (N := (some 72)) #[true, true, true, true, true, true, true, true, true, true, true, true, true, true, true, true, true, true, true, true, true, false, false, false, false, false, false, false, false, false, false, false, false, false, false, false, false, false, false] rfl rfl (by kernel_rfl) (by decide) (fun K hK => ?_)
  refine goes_ Try.func26 (by kernel_rfl) rfl #[.agg #[.int .i64 p.f0, .int .i64 p.f1], .agg #[.int .i64 b.x0, .int .i64 b.y0, .int .i64 b.x1, .int .i64 b.y1]] (by rfl) rfl rfl (by first | rfl | (simp only [List.map_toArray, List.map_cons, List.map_nil]; rfl)) ?_
  refine (rWithin_any p.f0 p.f1 b.x0 b.y0 b.x1 b.y1 _).mono ?_
  rintro e w4 ⟨rfl, hb4⟩
  refine ⟨_, rfl, ?_⟩
  refine hK.out _ _ (below_then hHeld hHeld.size hb4) (fun hHeld => ?_)
  clear hK K
  refine norm_ (a' := ?_) ?_ ?_
  rotate_left
  · show Act.put _ (some 72) _ = _
    simp only [Act.put, List.setIfInBounds_toArray, List.set_cons_zero, List.set_cons_succ]
    rfl
  refine pure_ (i := 21) (N := (some 73)) (v := .bool true) (a' := ?_) #[true, true, true, true, true, true, true, true, true, true, true, true, true, true, true, true, true, true, true, true, true, true, false, false, false, false, false, false, false, false, false, false, false, false, false, false, false, false, false] rfl rfl (by kernel_rfl) (fun _ _ _ h => h) (Or.inl ⟨by rfl, ?_⟩) ?_ ?_
  · intro w'
    go_simp
    all_goals (first | with_reducible rfl | (simp; done))
  rotate_left
  · simp only [Act.put, List.setIfInBounds_toArray, List.set_cons_zero, List.set_cons_succ]
    rfl
  refine pure_ (i := 22) (N := (some 74)) (v := ?_) (a' := ?_) #[true, true, true, true, true, true, true, true, true, true, true, true, true, true, true, true, true, true, true, true, true, true, true, false, false, false, false, false, false, false, false, false, false, false, false, false, false, false, false] rfl rfl (by kernel_rfl) (fun _ _ _ h => h) (Or.inl ⟨by rfl, ?_⟩) ?_ ?_
  rotate_left
  · intro w'
    go_simp
    all_goals with_reducible rfl
  rotate_left
  · simp only [Act.put, List.setIfInBounds_toArray, List.set_cons_zero, List.set_cons_succ]
    rfl
  refine pure_ (i := 23) (N := (some 75)) (v := ?_) (a' := ?_) #[true, true, true, true, true, true, true, true, true, true, true, true, true, true, true, true, true, true, true, true, true, true, true, true, false, false, false, false, false, false, false, false, false, false, false, false, false, false, false] rfl rfl (by kernel_rfl) (fun _ _ _ h => h) (Or.inl ⟨by rfl, ?_⟩) ?_ ?_
  rotate_left
  · intro w'
    go_simp
    all_goals with_reducible rfl
  rotate_left
  · simp only [Act.put, List.setIfInBounds_toArray, List.set_cons_zero, List.set_cons_succ]
    rfl
  refine pure_ (i := 24) (N := (some 76)) (v := ?_) (a' := ?_) #[true, true, true, true, true, true, true, true, true, true, true, true, true, true, true, true, true, true, true, true, true, true, true, true, true, false, false, false, false, false, false, false, false, false, false, false, false, false, false] rfl rfl (by kernel_rfl) (fun _ _ _ h => h) (Or.inl ⟨by rfl, ?_⟩) ?_ ?_
  rotate_left
  · intro w'
    go_simp
    all_goals with_reducible rfl
  rotate_left
  · simp only [Act.put, List.setIfInBounds_toArray, List.set_cons_zero, List.set_cons_succ]
    rfl
  refine take_ (i := 27) (N := (some 79)) (v := ?_) (a' := ?_) #[true, true, true, true, true, true, true, true, true, true, true, true, true, true, true, true, true, true, true, true, true, true, true, true, true, false, false, true, false, false, false, false, false, false, false, false, false, false, false] rfl rfl (by kernel_rfl) (fun _ _ _ h => h) (Or.inl ⟨by rfl, ?_⟩) hHeld ?_ ?_
  rotate_left
  · intro w' hS'
    (try dsimp only at hS')
    have g0 := pw_cell_below hS' c0
    have g1 := pw_cell_below hS' c1
    have g2 := pw_cell_below hS' c2
    have g3 := pw_cell_below hS' c3
    go_simp
    all_goals with_reducible rfl
  rotate_left
  · simp only [Act.put, List.setIfInBounds_toArray, List.set_cons_zero, List.set_cons_succ]
    rfl
  refine one_ (i := 25) (N := (some 77)) #[true, true, true, true, true, true, true, true, true, true, true, true, true, true, true, true, true, true, true, true, true, true, true, true, true, true, false, true, false, false, false, false, false, false, false, false, false, false, false] rfl rfl (by kernel_rfl) (by decide) (fun K hK => ?_)
  refine goes_ Try.func13 (by kernel_rfl) rfl #[.int .i64 (okE (boxB c.x0 c.y0 c.x1 c.y1))] (by rfl) rfl rfl (by first | rfl | (simp only [List.map_toArray, List.map_cons, List.map_nil]; rfl)) ?_
  refine (num_b _ _).mono ?_
  rintro e w4 ⟨rfl, hb4⟩
  refine ⟨_, rfl, ?_⟩
  refine hK.out _ _ (below_then hHeld hHeld.size hb4) (fun hHeld => ?_)
  clear hK K
  refine norm_ (a' := ?_) ?_ ?_
  rotate_left
  · show Act.put _ (some 77) _ = _
    simp only [Act.put, List.setIfInBounds_toArray, List.set_cons_zero, List.set_cons_succ]
    rfl
  refine pure_ (i := 26) (N := (some 78)) (v := ?_) (a' := ?_) #[true, true, true, true, true, true, true, true, true, true, true, true, true, true, true, true, true, true, true, true, true, true, true, true, true, true, true, true, false, false, false, false, false, false, false, false, false, false, false] rfl rfl (by kernel_rfl) (fun _ _ _ h => h) (Or.inl ⟨by rfl, ?_⟩) ?_ ?_
  rotate_left
  · intro w'
    go_simp
    all_goals with_reducible rfl
  rotate_left
  · simp only [Act.put, List.setIfInBounds_toArray, List.set_cons_zero, List.set_cons_succ]
    rfl
  refine one_ (i := 28) (N := (some 80)) #[true, true, true, true, true, true, true, true, true, true, true, true, true, true, true, true, true, true, true, true, true, true, true, true, true, true, true, true, true, false, false, false, false, false, false, false, false, false, false] rfl rfl (by kernel_rfl) (by decide) (fun K hK => ?_)
  refine goes_ Try.func27 (by kernel_rfl) rfl #[.agg #[.int .i64 c.x0, .int .i64 c.y0, .int .i64 c.x1, .int .i64 c.y1]] (by rfl) rfl rfl (by first | rfl | (simp only [List.map_toArray, List.map_cons, List.map_nil]; rfl)) ?_
  refine (rBoxMay_any c.x0 c.y0 c.x1 c.y1 _).mono ?_
  rintro e w4 ⟨rfl, hb4⟩
  refine ⟨_, rfl, ?_⟩
  refine hK.out _ _ (below_then hHeld hHeld.size hb4) (fun hHeld => ?_)
  clear hK K
  refine norm_ (a' := ?_) ?_ ?_
  rotate_left
  · show Act.put _ (some 80) _ = _
    simp only [Act.put, List.setIfInBounds_toArray, List.set_cons_zero, List.set_cons_succ]
    rfl
  refine pure_ (i := 29) (N := (some 81)) (v := .bool true) (a' := ?_) #[true, true, true, true, true, true, true, true, true, true, true, true, true, true, true, true, true, true, true, true, true, true, true, true, true, true, true, true, true, true, false, false, false, false, false, false, false, false, false] rfl rfl (by kernel_rfl) (fun _ _ _ h => h) (Or.inl ⟨by rfl, ?_⟩) ?_ ?_
  · intro w'
    go_simp
    all_goals (first | exact HQ2.out | exact beq_iff_eq.1 HQ2.out)
  rotate_left
  · simp only [Act.put, List.setIfInBounds_toArray, List.set_cons_zero, List.set_cons_succ]
    rfl
  refine pure_ (i := 30) (N := (some 82)) (v := ?_) (a' := ?_) #[true, true, true, true, true, true, true, true, true, true, true, true, true, true, true, true, true, true, true, true, true, true, true, true, true, true, true, true, true, true, true, false, false, false, false, false, false, false, false] rfl rfl (by kernel_rfl) (fun _ _ _ h => h) (Or.inl ⟨by rfl, ?_⟩) ?_ ?_
  rotate_left
  · intro w'
    go_simp
    all_goals with_reducible rfl
  rotate_left
  · simp only [Act.put, List.setIfInBounds_toArray, List.set_cons_zero, List.set_cons_succ]
    rfl
  refine pure_ (i := 31) (N := (some 83)) (v := ?_) (a' := ?_) #[true, true, true, true, true, true, true, true, true, true, true, true, true, true, true, true, true, true, true, true, true, true, true, true, true, true, true, true, true, true, true, true, false, false, false, false, false, false, false] rfl rfl (by kernel_rfl) (fun _ _ _ h => h) (Or.inl ⟨by rfl, ?_⟩) ?_ ?_
  rotate_left
  · intro w'
    go_simp
    all_goals with_reducible rfl
  rotate_left
  · simp only [Act.put, List.setIfInBounds_toArray, List.set_cons_zero, List.set_cons_succ]
    rfl
  refine pure_ (i := 32) (N := (some 84)) (v := ?_) (a' := ?_) #[true, true, true, true, true, true, true, true, true, true, true, true, true, true, true, true, true, true, true, true, true, true, true, true, true, true, true, true, true, true, true, true, true, false, false, false, false, false, false] rfl rfl (by kernel_rfl) (fun _ _ _ h => h) (Or.inl ⟨by rfl, ?_⟩) ?_ ?_
  rotate_left
  · intro w'
    go_simp
    all_goals with_reducible rfl
  rotate_left
  · simp only [Act.put, List.setIfInBounds_toArray, List.set_cons_zero, List.set_cons_succ]
    rfl
  refine take_ (i := 33) (N := (some 85)) (v := ?_) (a' := ?_) #[true, true, true, true, true, true, true, true, true, true, true, true, true, true, true, true, true, true, true, true, true, true, true, true, true, true, true, true, true, true, true, true, true, true, false, false, false, false, false] rfl rfl (by kernel_rfl) (fun _ _ _ h => h) (Or.inl ⟨by rfl, ?_⟩) hHeld ?_ ?_
  rotate_left
  · intro w' hS'
    (try dsimp only at hS')
    have g0 := pw_cell_below hS' b0
    have g1 := pw_cell_below hS' b1
    have g2 := pw_cell_below hS' b2
    have g3 := pw_cell_below hS' b3
    go_simp
    all_goals with_reducible rfl
  rotate_left
  · simp only [Act.put, List.setIfInBounds_toArray, List.set_cons_zero, List.set_cons_succ]
    rfl
  refine take_ (i := 34) (N := (some 86)) (v := ?_) (a' := ?_) #[true, true, true, true, true, true, true, true, true, true, true, true, true, true, true, true, true, true, true, true, true, true, true, true, true, true, true, true, true, true, true, true, true, true, true, false, false, false, false] rfl rfl (by kernel_rfl) (fun _ _ _ h => h) (Or.inl ⟨by rfl, ?_⟩) hHeld ?_ ?_
  rotate_left
  · intro w' hS'
    (try dsimp only at hS')
    have g0 := pw_cell_below hS' c0
    have g1 := pw_cell_below hS' c1
    have g2 := pw_cell_below hS' c2
    have g3 := pw_cell_below hS' c3
    go_simp
    all_goals with_reducible rfl
  rotate_left
  · simp only [Act.put, List.setIfInBounds_toArray, List.set_cons_zero, List.set_cons_succ]
    rfl
  refine one_ (i := 35) (N := (some 87)) #[true, true, true, true, true, true, true, true, true, true, true, true, true, true, true, true, true, true, true, true, true, true, true, true, true, true, true, true, true, true, true, true, true, true, true, true, false, false, false] rfl rfl (by kernel_rfl) (by decide) (fun K hK => ?_)
  refine goes_ Try.func25 (by kernel_rfl) rfl #[.agg #[.int .i64 b.x0, .int .i64 b.y0, .int .i64 b.x1, .int .i64 b.y1], .agg #[.int .i64 c.x0, .int .i64 c.y0, .int .i64 c.x1, .int .i64 c.y1]] (by rfl) rfl rfl (by first | rfl | (simp only [List.map_toArray, List.map_cons, List.map_nil]; rfl)) ?_
  refine (rMeet_any b.x0 b.y0 b.x1 b.y1 c.x0 c.y0 c.x1 c.y1 _).mono ?_
  rintro e w4 ⟨rfl, hb4⟩
  refine ⟨_, rfl, ?_⟩
  refine hK.out _ _ (below_then hHeld hHeld.size hb4) (fun hHeld => ?_)
  clear hK K
  refine norm_ (a' := ?_) ?_ ?_
  rotate_left
  · show Act.put _ (some 87) _ = _
    simp only [Act.put, List.setIfInBounds_toArray, List.set_cons_zero, List.set_cons_succ]
    rfl
  refine pure_ (i := 36) (N := (some 88)) (v := .bool true) (a' := ?_) #[true, true, true, true, true, true, true, true, true, true, true, true, true, true, true, true, true, true, true, true, true, true, true, true, true, true, true, true, true, true, true, true, true, true, true, true, true, false, false] rfl rfl (by kernel_rfl) (fun _ _ _ h => h) (Or.inl ⟨by rfl, ?_⟩) ?_ ?_
  · intro w'
    go_simp
    all_goals (first | with_reducible rfl | (simp; done))
  rotate_left
  · simp only [Act.put, List.setIfInBounds_toArray, List.set_cons_zero, List.set_cons_succ]
    rfl
  refine pure_ (i := 37) (N := (some 89)) (v := ?_) (a' := ?_) #[true, true, true, true, true, true, true, true, true, true, true, true, true, true, true, true, true, true, true, true, true, true, true, true, true, true, true, true, true, true, true, true, true, true, true, true, true, true, false] rfl rfl (by kernel_rfl) (fun _ _ _ h => h) (Or.inl ⟨by rfl, ?_⟩) ?_ ?_
  rotate_left
  · intro w'
    go_simp
    all_goals with_reducible rfl
  rotate_left
  · simp only [Act.put, List.setIfInBounds_toArray, List.set_cons_zero, List.set_cons_succ]
    rfl
  refine pure_ (i := 38) (N := (some 6)) (v := ?_) (a' := ?_) #[true, true, true, true, true, true, true, true, true, true, true, true, true, true, true, true, true, true, true, true, true, true, true, true, true, true, true, true, true, true, true, true, true, true, true, true, true, true, true] rfl rfl (by kernel_rfl) (fun _ _ _ h => h) (Or.inl ⟨by rfl, ?_⟩) ?_ ?_
  rotate_left
  · intro w'
    go_simp
    all_goals with_reducible rfl
  rotate_left
  · simp only [Act.put, List.setIfInBounds_toArray, List.set_cons_zero, List.set_cons_succ]
    rfl
  refine done_ (by kernel_rfl) ?_
  clear b0 b1 b2 b3 p0 p1 c0 c1 c2 c3 x0 x1 x2 x3
  have HB9 := Aside0.mk (below_then HB.out HB.out.size hHeld)
  clear hHeld
  go_wp2
  go_ret
  exact ⟨rfl, HB9.out⟩
theorem boxes_any (b0 b1 b2 b3 px py c0 c1 c2 c3 : Int) (w : World) : Calls Try.prog 7 #[.agg #[.int .i64 b0, .int .i64 b1, .int .i64 b2, .int .i64 b3], .agg #[.int .i64 px, .int .i64 py], .agg #[.int .i64 c0, .int .i64 c1, .int .i64 c2, .int .i64 c3]] w fun e w' => e = .returned (.bool true) ∧ Below w.heap.size w w' :=
  boxes_any' ⟨b0, b1, b2, b3⟩ ⟨px, py⟩ ⟨c0, c1, c2, c3⟩ w
end Go.Proofs.Ytmednnpmkhgfpaa.SH
