/- The reference's Meets. -/
import Derived.Test.YtmednnpmkhgfpaaShRx
import Derived.Test.YtmednnpmkhgfpaaShW
namespace Go.Proofs.Ytmednnpmkhgfpaa.SH
open Go Go.RowKit Go.Proofs.YtmednnpmkhgfpaaW.PrintWords Go.Proofs.YtmednnpmkhgfpaaW.PrintLast Go.Proofs.YtmednnpmkhgfpaaW.PrintMore Go.Proofs.Ytmednnpmkhgfpaa.PShapes Go.Proofs.Ytmednnpmkhgfpaa.Geo
open Go.Proofs.Ytmednnpmkhgfpaa.GW (rPointMay_any rBoxMay_any rWithin_any rCross0_any)
set_option linter.unusedVariables false
set_option linter.unusedSimpArgs false
attribute [local go_sem high] eqA23

theorem rSides_own (f : Ft) (A : Option Addr) (c : Nat) (w : World) (h : RC w A f.rings) (ho : FtOk f) :
    Calls Try.prog 47 #[.agg #[.int .i64 f.id, .int .i64 f.shape, .slice A f.rings.length c]] w fun e w' => ∃ (B : Option Addr) (d : Nat), e = .returned (.slice B (sdsOf f.shape f.rings).length d) ∧ Kd.R k81 81 w' w.heap.size (fun _ => True) (.slice B (sdsOf f.shape f.rings).length d) (sdsOf f.shape f.rings) ∧ Below w.heap.size w w' := by
  refine (rSides_any f A c w h ho.ne ho.len ho.pts).mono ?_
  rintro e w' ⟨v0, rfl, hR, hb⟩
  obtain ⟨B, d, rfl, _, _⟩ := Kd.R_reads hR
  exact ⟨B, d, rfl, hR, hb⟩
theorem at_cn {w : World} {s : Nat} {b : Bx} (h : w.heap[s]? = some (.cells #[.int .i64 b.x0, .int .i64 b.y0, .int .i64 b.x1, .int .i64 b.y0, .int .i64 b.x1, .int .i64 b.y1, .int .i64 b.x0, .int .i64 b.y1] 67 (0, 0))) {k : Nat} (hk : k < 4) : w.cell? ⟨s, k * 2, none⟩ = some (.int .i64 (cnK b k).f0) ∧ w.cell? ⟨s, k * 2 + 1, none⟩ = some (.int .i64 (cnK b k).f1) := by
  have : k = 0 ∨ k = 1 ∨ k = 2 ∨ k = 3 := by omega
  rcases this with rfl | rfl | rfl | rfl
  all_goals exact ⟨(blk_cell h _).trans rfl, (blk_cell h _).trans rfl⟩
theorem rInV_any {b : Bx} {p : S23} {v : Bool} (w : World) (h : inB b p = v) : Calls Try.prog 26 #[.agg #[.int .i64 p.f0, .int .i64 p.f1], .agg #[.int .i64 b.x0, .int .i64 b.y0, .int .i64 b.x1, .int .i64 b.y1]] w fun e w' => e = .returned (.bool v) ∧ Below w.heap.size w w' := by
  subst h
  exact rWithin_any p.f0 p.f1 b.x0 b.y0 b.x1 b.y1 w
theorem rXV_any {p q c d : S23} {v : Bool} (w : World) (hp : ptP p = true) (hq : ptP q = true) (hc : ptP c = true) (hd : ptP d = true) (h : crossB p.f0 p.f1 q.f0 q.f1 c.f0 c.f1 d.f0 d.f1 = v) :
    Calls Try.prog 49 #[.agg #[.int .i64 p.f0, .int .i64 p.f1], .agg #[.int .i64 q.f0, .int .i64 q.f1], .agg #[.int .i64 c.f0, .int .i64 c.f1], .agg #[.int .i64 d.f0, .int .i64 d.f1]] w fun e w' => e = .returned (.bool v) ∧ Below w.heap.size w w' := by
  subst h
  exact rCross0_any p.f0 p.f1 q.f0 q.f1 c.f0 c.f1 d.f0 d.f1 w hp hq hc hd
theorem rHasV_any {f : Ft} {A : Option Addr} {c : Nat} {p : S23} {v : Bool} (w : World) (h : RC w A f.rings) (hm : mayB f = true) (hp : ptP p = true) (hv : hasB f p = v) :
    Calls Try.prog 46 #[.agg #[.int .i64 f.id, .int .i64 f.shape, .slice A f.rings.length c], .agg #[.int .i64 p.f0, .int .i64 p.f1]] w fun e w' => e = .returned (.bool v) ∧ Below w.heap.size w w' := by
  subst hv
  exact rHas1_any f A c p w h hm hp
set_option maxHeartbeats 16000000 in
set_option maxRecDepth 100000 in
theorem rMeets_any (f : Ft) (A : Option Addr) (c : Nat) (b : Bx) (w : World) (h : RC w A f.rings) :
    Calls Try.prog 20 #[.agg #[.int .i64 f.id, .int .i64 f.shape, .slice A f.rings.length c], .agg #[.int .i64 b.x0, .int .i64 b.y0, .int .i64 b.x1, .int .i64 b.y1]] w fun e w' => e = .returned (.tuple #[.bool (meetsV f b), .int .i64 (okE (mayB f && bxMay b))]) ∧ Below w.heap.size w w' := by
  have HR := Aside0.mk h
  clear h
  have b0 := blk_alloc (blk_new w (.cells #[.int .i64 f.id, .int .i64 f.shape, .slice A f.rings.length c] 27)) (.cells #[.int .i64 b.x0, .int .i64 b.y0, .int .i64 b.x1, .int .i64 b.y1] 30)
  have b1 := blk_new (w.alloc (.cells #[.int .i64 f.id, .int .i64 f.shape, .slice A f.rings.length c] 27)) (.cells #[.int .i64 b.x0, .int .i64 b.y0, .int .i64 b.x1, .int .i64 b.y1] 30)
  simp only [World.size_alloc] at b1
  have hB := below_alloc (below_alloc (Below.refl w.heap.size w) (.cells #[.int .i64 f.id, .int .i64 f.shape, .slice A f.rings.length c] 27)) (.cells #[.int .i64 b.x0, .int .i64 b.y0, .int .i64 b.x1, .int .i64 b.y1] 30)
  have HE := Aside0.mk (show meetsV f b = (mayB f && bxMay b && meetsB f b) from rfl)
  go_enter Try.func20, Try.ntmps20
  go_upto_region 1 with (fail)
  obtain ⟨W, hW⟩ : ∃ W, (w.alloc (.cells #[.int .i64 f.id, .int .i64 f.shape, .slice A f.rings.length c] 27)).alloc (.cells #[.int .i64 b.x0, .int .i64 b.y0, .int .i64 b.x1, .int .i64 b.y1] 30) = W := ⟨_, rfl⟩
  rw [hW] at b0 b1 hB ⊢
  clear hW
  have HB := Aside0.mk hB
  have B0 := Aside0.mk b0
  have B1 := Aside0.mk b1
  clear hB
  have f0 : W.cell? ⟨w.heap.size, 0, none⟩ = some (.int .i64 f.id) := (blk_cell b0 0).trans rfl
  have f1 : W.cell? ⟨w.heap.size, 1, none⟩ = some (.int .i64 f.shape) := (blk_cell b0 1).trans rfl
  have f2 : W.cell? ⟨w.heap.size, 2, none⟩ = some (.slice A f.rings.length c) := (blk_cell b0 2).trans rfl
  clear b0 b1
  go_wp2_with fail
  refine (rMayB_any f A c W (Kd.C_below HR.out HB.out)).mono ?_
  rintro e W1 ⟨rfl, hb⟩
  have B2 := Aside0.mk (blk_below B0.out hb)
  have B3 := Aside0.mk (blk_below B1.out hb)
  have HB1 := Aside0.mk (below_then HB.out HB.out.size hb)
  clear hb f0 f1 f2
  cases hm : mayB f
  · have HMf := Aside0.mk hm
    clear hm
    go_wp2_with fail
    go_ret2
    exact ⟨by rw [HE.out, HMf.out]; rfl, HB1.out⟩
  have HMf := Aside0.mk hm
  clear hm
  have b0 : W1.cell? ⟨w.heap.size + 1, 0, none⟩ = some (.int .i64 b.x0) := (blk_cell B3.out 0).trans rfl
  have b1 : W1.cell? ⟨w.heap.size + 1, 1, none⟩ = some (.int .i64 b.y0) := (blk_cell B3.out 1).trans rfl
  have b2 : W1.cell? ⟨w.heap.size + 1, 2, none⟩ = some (.int .i64 b.x1) := (blk_cell B3.out 2).trans rfl
  have b3 : W1.cell? ⟨w.heap.size + 1, 3, none⟩ = some (.int .i64 b.y1) := (blk_cell B3.out 3).trans rfl
  go_wp2_with fail
  refine (rBoxMay_any b.x0 b.y0 b.x1 b.y1 W1).mono ?_
  rintro e W ⟨rfl, hb⟩
  replace B2 := Aside0.mk (blk_below B2.out hb)
  replace B3 := Aside0.mk (blk_below B3.out hb)
  have HB2 := Aside0.mk (below_then HB1.out HB1.out.size hb)
  clear hb b0 b1 b2 b3 HB HB1 B0 B1
  cases hp : boxB b.x0 b.y0 b.x1 b.y1
  · have HPf := Aside0.mk (show bxMay b = false from hp)
    clear hp
    go_wp2_with fail
    go_ret2
    exact ⟨by rw [HE.out, HMf.out, HPf.out]; rfl, HB2.out⟩
  have HPf := Aside0.mk (show bxMay b = true from hp)
  clear hp
  have HO := Aside0.mk (may_ok HMf.out)
  have HRW := Aside0.mk (Kd.C_below HR.out HB2.out)
  have f0 : W.cell? ⟨w.heap.size, 0, none⟩ = some (.int .i64 f.id) := (blk_cell B2.out 0).trans rfl
  have f1 : W.cell? ⟨w.heap.size, 1, none⟩ = some (.int .i64 f.shape) := (blk_cell B2.out 1).trans rfl
  have f2 : W.cell? ⟨w.heap.size, 2, none⟩ = some (.slice A f.rings.length c) := (blk_cell B2.out 2).trans rfl
  have b0 : W.cell? ⟨w.heap.size + 1, 0, none⟩ = some (.int .i64 b.x0) := (blk_cell B3.out 0).trans rfl
  have b1 : W.cell? ⟨w.heap.size + 1, 1, none⟩ = some (.int .i64 b.y0) := (blk_cell B3.out 1).trans rfl
  have b2 : W.cell? ⟨w.heap.size + 1, 2, none⟩ = some (.int .i64 b.x1) := (blk_cell B3.out 2).trans rfl
  have b3 : W.cell? ⟨w.heap.size + 1, 3, none⟩ = some (.int .i64 b.y1) := (blk_cell B3.out 3).trans rfl
  go_upto_region 3 with (fail)
  refine be_ 7 [] (W := W) rfl (by kernel_rfl) (fun hHeld => ?_)
  refine tk_ 0 19 hHeld rfl rfl (by kernel_rfl) (fun _ _ _ h => h) (by rfl) (fun w' hS' => by
    have q0 := pw_cell_below hS' f0
    have q1 := pw_cell_below hS' f1
    have q2 := pw_cell_below hS' f2
    go_simp
    all_goals with_reducible rfl) (by simp only [Act.put, List.setIfInBounds_toArray, List.set_cons_zero, List.set_cons_succ]; rfl) ?_
  refine tk_ 2 21 hHeld rfl rfl (by kernel_rfl) (fun _ _ _ h => h) (by rfl) (fun w' hS' => by
    have r0 := pw_cell_below hS' b0
    have r1 := pw_cell_below hS' b1
    have r2 := pw_cell_below hS' b2
    have r3 := pw_cell_below hS' b3
    go_simp
    all_goals with_reducible rfl) (by simp only [Act.put, List.setIfInBounds_toArray, List.set_cons_zero, List.set_cons_succ]; rfl) ?_
  refine join_ (σ := Option Addr × Nat × Nat) 2 #[true, true, true, true, true, false, false] (fun s_ => [(20, .slice s_.1 (sdsOf f.shape f.rings).length s_.2.1), (22, .agg #[.int .i64 b.x0, .int .i64 b.y0, .int .i64 b.x1, .int .i64 b.y0, .int .i64 b.x1, .int .i64 b.y1, .int .i64 b.x0, .int .i64 b.y1]), (7, .pointer (some ⟨s_.2.2, 0, none⟩))]) (fun s_ w' => Below W.heap.size W w' ∧ Kd.R k81 81 w' W.heap.size (fun _ => True) (.slice s_.1 (sdsOf f.shape f.rings).length s_.2.1) (sdsOf f.shape f.rings) ∧ W.heap.size ≤ s_.2.2 ∧ w'.heap[s_.2.2]? = some (.cells #[.int .i64 0, .int .i64 0, .int .i64 0, .int .i64 0, .int .i64 0, .int .i64 0, .int .i64 0, .int .i64 0] 67 (0, 0))) ?_ ?_
  rotate_left
  · intro hCont
    refine two_ (i := 1) (j := 4) (Ni := some 20) (Nj := some 7) #[true, true, true, false, false, false, false] #[true, false, true, false, true, false, false] rfl rfl rfl rfl (by kernel_rfl) (by decide) (by decide) (fun K hK => ?_) (fun K hK => ?_)
    · refine goes_ Try.func47 (by kernel_rfl) rfl #[.agg #[.int .i64 f.id, .int .i64 f.shape, .slice A f.rings.length c]] (by rfl) rfl rfl (by first | rfl | (simp only [List.map_toArray, List.map_cons, List.map_nil]; rfl)) ?_
      refine (rSides_own f A c _ (Kd.C_below HRW.out hHeld) HO.out).mono ?_
      rintro e w5 ⟨B, d, rfl, hC, hb5⟩
      replace hC := Kd.R_lower hC hHeld.size
      refine ⟨_, rfl, ?_⟩
      refine hK.out _ _ (below_then hHeld hHeld.size hb5) (fun hHeld => ?_)
      clear hK K
      refine norm_ (a' := ?_) ?_ ?_
      rotate_left
      · show Act.put _ (some 20) _ = _
        simp only [Act.put, List.setIfInBounds_toArray, List.set_cons_zero, List.set_cons_succ]
        rfl
      refine two_ (i := 3) (j := 4) (Ni := some 22) (Nj := some 7) #[true, true, true, true, false, false, false] #[true, true, true, false, true, false, false] rfl rfl rfl rfl (by kernel_rfl) (by decide) (by decide) (fun K hK => ?_) (fun K hK => ?_)
      · refine goes_ Try.func48 (by kernel_rfl) rfl #[.agg #[.int .i64 b.x0, .int .i64 b.y0, .int .i64 b.x1, .int .i64 b.y1]] (by rfl) rfl rfl (by first | rfl | (simp only [List.map_toArray, List.map_cons, List.map_nil]; rfl)) ?_
        refine (rCorners_any b _).mono ?_
        rintro e w6 ⟨rfl, hb6⟩
        refine ⟨_, rfl, ?_⟩
        replace hC := Kd.R_below hC hb6
        refine hK.out _ _ (below_then hHeld hHeld.size hb6) (fun hHeld => ?_)
        clear hK K
        refine norm_ (a' := ?_) ?_ ?_
        rotate_left
        · show Act.put _ (some 22) _ = _
          simp only [Act.put, List.setIfInBounds_toArray, List.set_cons_zero, List.set_cons_succ]
          rfl
        refine one_ (i := 4) (N := some 7) #[true, true, true, true, true, false, false] rfl rfl (by kernel_rfl) (by decide) (fun K hK => ?_)
        have hlit := blk_new w6 (.cells #[.int .i64 0, .int .i64 0, .int .i64 0, .int .i64 0, .int .i64 0, .int .i64 0, .int .i64 0, .int .i64 0] 67)
        have hle := hHeld.size
        refine value_ (w1 := World.alloc w6 (.cells #[.int .i64 0, .int .i64 0, .int .i64 0, .int .i64 0, .int .i64 0, .int .i64 0, .int .i64 0, .int .i64 0] 67)) (v := .pointer (some ⟨(w6).heap.size, 0, none⟩)) (by rfl) rfl (by first | (go_simp; done) | (go_simp; rfl)) ?_
        replace hC := Kd.R_alloc hC (.cells #[.int .i64 0, .int .i64 0, .int .i64 0, .int .i64 0, .int .i64 0, .int .i64 0, .int .i64 0, .int .i64 0] 67)
        refine hK.out _ _ (below_alloc hHeld _) (fun hHeld => ?_)
        clear hK K
        exact norm_ (by simp only [putAll, Act.put, List.setIfInBounds_toArray, List.set_cons_zero, List.set_cons_succ]; try rfl) (hCont (B, d, _) _ ⟨hHeld, hC, hle, hlit⟩)
      · have hlit := blk_new w5 (.cells #[.int .i64 0, .int .i64 0, .int .i64 0, .int .i64 0, .int .i64 0, .int .i64 0, .int .i64 0, .int .i64 0] 67)
        have hle := hHeld.size
        refine value_ (w1 := World.alloc w5 (.cells #[.int .i64 0, .int .i64 0, .int .i64 0, .int .i64 0, .int .i64 0, .int .i64 0, .int .i64 0, .int .i64 0] 67)) (v := .pointer (some ⟨(w5).heap.size, 0, none⟩)) (by rfl) rfl (by first | (go_simp; done) | (go_simp; rfl)) ?_
        replace hC := Kd.R_alloc hC (.cells #[.int .i64 0, .int .i64 0, .int .i64 0, .int .i64 0, .int .i64 0, .int .i64 0, .int .i64 0, .int .i64 0] 67)
        refine hK.out _ _ (below_alloc hHeld _) (fun hHeld => ?_)
        clear hK K
        refine norm_ (a' := ?_) ?_ ?_
        rotate_left
        · show Act.put _ (some 7) _ = _
          simp only [Act.put, List.setIfInBounds_toArray, List.set_cons_zero, List.set_cons_succ]
          rfl
        refine one_ (i := 3) (N := some 22) #[true, true, true, true, true, false, false] rfl rfl (by kernel_rfl) (by decide) (fun K hK => ?_)
        refine goes_ Try.func48 (by kernel_rfl) rfl #[.agg #[.int .i64 b.x0, .int .i64 b.y0, .int .i64 b.x1, .int .i64 b.y1]] (by rfl) rfl rfl (by first | rfl | (simp only [List.map_toArray, List.map_cons, List.map_nil]; rfl)) ?_
        refine (rCorners_any b _).mono ?_
        rintro e w6 ⟨rfl, hb6⟩
        refine ⟨_, rfl, ?_⟩
        replace hlit := blk_below hlit hb6
        replace hC := Kd.R_below hC hb6
        refine hK.out _ _ (below_then hHeld hHeld.size hb6) (fun hHeld => ?_)
        clear hK K
        exact norm_ (by simp only [putAll, Act.put, List.setIfInBounds_toArray, List.set_cons_zero, List.set_cons_succ]; try rfl) (hCont (B, d, _) _ ⟨hHeld, hC, hle, hlit⟩)
    · have hlit := blk_new W.drew (.cells #[.int .i64 0, .int .i64 0, .int .i64 0, .int .i64 0, .int .i64 0, .int .i64 0, .int .i64 0, .int .i64 0] 67)
      have hle := hHeld.size
      refine value_ (w1 := World.alloc W.drew (.cells #[.int .i64 0, .int .i64 0, .int .i64 0, .int .i64 0, .int .i64 0, .int .i64 0, .int .i64 0, .int .i64 0] 67)) (v := .pointer (some ⟨(W.drew).heap.size, 0, none⟩)) (by rfl) rfl (by first | (go_simp; done) | (go_simp; rfl)) ?_
      refine hK.out _ _ (below_alloc hHeld _) (fun hHeld => ?_)
      clear hK K
      refine norm_ (a' := ?_) ?_ ?_
      rotate_left
      · show Act.put _ (some 7) _ = _
        simp only [Act.put, List.setIfInBounds_toArray, List.set_cons_zero, List.set_cons_succ]
        rfl
      refine one_ (i := 1) (N := some 20) #[true, true, true, false, true, false, false] rfl rfl (by kernel_rfl) (by decide) (fun K hK => ?_)
      refine goes_ Try.func47 (by kernel_rfl) rfl #[.agg #[.int .i64 f.id, .int .i64 f.shape, .slice A f.rings.length c]] (by rfl) rfl rfl (by first | rfl | (simp only [List.map_toArray, List.map_cons, List.map_nil]; rfl)) ?_
      refine (rSides_own f A c _ (Kd.C_below HRW.out hHeld) HO.out).mono ?_
      rintro e w5 ⟨B, d, rfl, hC, hb5⟩
      replace hC := Kd.R_lower hC hHeld.size
      refine ⟨_, rfl, ?_⟩
      replace hlit := blk_below hlit hb5
      refine hK.out _ _ (below_then hHeld hHeld.size hb5) (fun hHeld => ?_)
      clear hK K
      refine one_ (i := 3) (N := some 22) #[true, true, true, true, true, false, false] rfl rfl (by kernel_rfl) (by decide) (fun K hK => ?_)
      refine goes_ Try.func48 (by kernel_rfl) rfl #[.agg #[.int .i64 b.x0, .int .i64 b.y0, .int .i64 b.x1, .int .i64 b.y1]] (by rfl) rfl rfl (by first | rfl | (simp only [List.map_toArray, List.map_cons, List.map_nil]; rfl)) ?_
      refine (rCorners_any b _).mono ?_
      rintro e w6 ⟨rfl, hb6⟩
      refine ⟨_, rfl, ?_⟩
      replace hlit := blk_below hlit hb6
      replace hC := Kd.R_below hC hb6
      refine hK.out _ _ (below_then hHeld hHeld.size hb6) (fun hHeld => ?_)
      clear hK K
      exact norm_ (by simp only [putAll, Act.put, List.setIfInBounds_toArray, List.set_cons_zero, List.set_cons_succ]; try rfl) (hCont (B, d, _) _ ⟨hHeld, hC, hle, hlit⟩)
  rintro ⟨B, d, sb⟩ w7 ⟨hHeld, hC, hLe, hLit⟩
  refine norm_ (a' := ?_) ?_ ?_
  rotate_left
  · simp only [putAll, Act.put, List.setIfInBounds_toArray, List.set_cons_zero, List.set_cons_succ]
    rfl
  refine pu_ 5 6 rfl rfl (by kernel_rfl) (fun _ _ _ h => h) (by rfl) (fun w' => by go_simp; all_goals with_reducible rfl) (by simp only [Act.put, List.setIfInBounds_toArray, List.set_cons_zero, List.set_cons_succ]; rfl) ?_
  refine one_ (i := 6) (N := none) #[true, true, true, true, true, true, true] rfl rfl (by kernel_rfl) (by decide) (fun K hK => ?_)
  have k0 : w7.cell? ⟨sb, 0, none⟩ = some (.int .i64 0) := (blk_cell hLit 0).trans rfl
  have k1 : w7.cell? ⟨sb, 1, none⟩ = some (.int .i64 0) := (blk_cell hLit 1).trans rfl
  have k2 : w7.cell? ⟨sb, 2, none⟩ = some (.int .i64 0) := (blk_cell hLit 2).trans rfl
  have k3 : w7.cell? ⟨sb, 3, none⟩ = some (.int .i64 0) := (blk_cell hLit 3).trans rfl
  have k4 : w7.cell? ⟨sb, 4, none⟩ = some (.int .i64 0) := (blk_cell hLit 4).trans rfl
  have k5 : w7.cell? ⟨sb, 5, none⟩ = some (.int .i64 0) := (blk_cell hLit 5).trans rfl
  have k6 : w7.cell? ⟨sb, 6, none⟩ = some (.int .i64 0) := (blk_cell hLit 6).trans rfl
  have k7 : w7.cell? ⟨sb, 7, none⟩ = some (.int .i64 0) := (blk_cell hLit 7).trans rfl
  have kf := blk_frozen hLit
  have kl := blk_lt hLit
  refine skip_ (w1 := ?_) (by rfl) rfl ?_ ?_
  rotate_left
  · go_simp
    rfl
  clear k0 k1 k2 k3 k4 k5 k6 k7 kf kl
  have h0 := blk_put hLit 0 (.int .i64 b.x0) (cs' := #[.int .i64 b.x0, .int .i64 0, .int .i64 0, .int .i64 0, .int .i64 0, .int .i64 0, .int .i64 0, .int .i64 0]) rfl
  have h1 := blk_put h0 1 (.int .i64 b.y0) (cs' := #[.int .i64 b.x0, .int .i64 b.y0, .int .i64 0, .int .i64 0, .int .i64 0, .int .i64 0, .int .i64 0, .int .i64 0]) rfl
  have h2 := blk_put h1 2 (.int .i64 b.x1) (cs' := #[.int .i64 b.x0, .int .i64 b.y0, .int .i64 b.x1, .int .i64 0, .int .i64 0, .int .i64 0, .int .i64 0, .int .i64 0]) rfl
  have h3 := blk_put h2 3 (.int .i64 b.y0) (cs' := #[.int .i64 b.x0, .int .i64 b.y0, .int .i64 b.x1, .int .i64 b.y0, .int .i64 0, .int .i64 0, .int .i64 0, .int .i64 0]) rfl
  have h4 := blk_put h3 4 (.int .i64 b.x1) (cs' := #[.int .i64 b.x0, .int .i64 b.y0, .int .i64 b.x1, .int .i64 b.y0, .int .i64 b.x1, .int .i64 0, .int .i64 0, .int .i64 0]) rfl
  have h5 := blk_put h4 5 (.int .i64 b.y1) (cs' := #[.int .i64 b.x0, .int .i64 b.y0, .int .i64 b.x1, .int .i64 b.y0, .int .i64 b.x1, .int .i64 b.y1, .int .i64 0, .int .i64 0]) rfl
  have h6 := blk_put h5 6 (.int .i64 b.x0) (cs' := #[.int .i64 b.x0, .int .i64 b.y0, .int .i64 b.x1, .int .i64 b.y0, .int .i64 b.x1, .int .i64 b.y1, .int .i64 b.x0, .int .i64 0]) rfl
  have h7 := blk_put h6 7 (.int .i64 b.y1) (cs' := #[.int .i64 b.x0, .int .i64 b.y0, .int .i64 b.x1, .int .i64 b.y0, .int .i64 b.x1, .int .i64 b.y1, .int .i64 b.x0, .int .i64 b.y1]) rfl
  replace hC := Kd.R_types hC hLit (by decide)
  replace hC := Kd.R_far (p := ⟨sb, 0, none⟩) hC (fun _ hk => hk.2) (.int .i64 b.x0)
  replace hC := Kd.R_far (p := ⟨sb, 1, none⟩) hC (fun _ hk => hk.2) (.int .i64 b.y0)
  replace hC := Kd.R_far (p := ⟨sb, 2, none⟩) hC (fun _ hk => hk.2) (.int .i64 b.x1)
  replace hC := Kd.R_far (p := ⟨sb, 3, none⟩) hC (fun _ hk => hk.2) (.int .i64 b.y0)
  replace hC := Kd.R_far (p := ⟨sb, 4, none⟩) hC (fun _ hk => hk.2) (.int .i64 b.x1)
  replace hC := Kd.R_far (p := ⟨sb, 5, none⟩) hC (fun _ hk => hk.2) (.int .i64 b.y1)
  replace hC := Kd.R_far (p := ⟨sb, 6, none⟩) hC (fun _ hk => hk.2) (.int .i64 b.x0)
  replace hC := Kd.R_far (p := ⟨sb, 7, none⟩) hC (fun _ hk => hk.2) (.int .i64 b.y1)
  refine hK.out _ _ ?_ (fun hHeld => ?_)
  · repeat (refine Below.setCell ?_ hLe _)
    exact hHeld
  clear hK K
  refine done_ (by kernel_rfl) ?_
  obtain ⟨w8, hw8⟩ : ∃ w8, (World.setCell (World.setCell (World.setCell (World.setCell (World.setCell (World.setCell (World.setCell (World.setCell w7 ⟨sb, 0, none⟩ (.int .i64 b.x0)) ⟨sb, 1, none⟩ (.int .i64 b.y0)) ⟨sb, 2, none⟩ (.int .i64 b.x1)) ⟨sb, 3, none⟩ (.int .i64 b.y0)) ⟨sb, 4, none⟩ (.int .i64 b.x1)) ⟨sb, 5, none⟩ (.int .i64 b.y1)) ⟨sb, 6, none⟩ (.int .i64 b.x0)) ⟨sb, 7, none⟩ (.int .i64 b.y1)) = w8 := ⟨_, rfl⟩
  rw [hw8] at hC h7 hHeld ⊢
  clear hw8
  obtain ⟨B', d', e', _, hCC⟩ := Kd.R_reads hC
  cases e'
  have HC := Aside0.mk hCC
  have HT := Aside0.mk h7
  have B4 := Aside0.mk (blk_below B2.out hHeld)
  have B5 := Aside0.mk (blk_below B3.out hHeld)
  have HB3 := Aside0.mk (below_then HB2.out HB2.out.size hHeld)
  have HR8 := Aside0.mk (Kd.C_below HR.out HB3.out)
  clear hC hCC h7 hHeld hLe B2 B3 HB2 HRW HO f0 f1 f2 b0 b1 b2 b3 hLit h0 h1 h2 h3 h4 h5 h6
  have HMay := Aside0.mk (sds_may HMf.out)
  have HCm := Aside0.mk (fun k => cnr_may HPf.out _ (cnK_mem b k))
  have HV1 := Aside0.mk (fun k (hk : k < (sdsOf f.shape f.rings).length) h => show meetsV f b = true from by rw [HE.out, HMf.out, HPf.out, meets_hit HMf.out HPf.out hk h]; rfl)
  have HV2 := Aside0.mk (fun h => show meetsV f b = (f.shape == 2 && (cnr b).any (hasB f)) from by rw [HE.out, HMf.out, HPf.out, meets_end HMf.out HPf.out h]; rfl)
  have HLen := Aside0.mk (show ((sdsOf f.shape f.rings).length : Int) ≤ 1000 from by have := sds_len f.shape f.rings (may_ok HMf.out).pts; have := (may_ok HMf.out).len; omega)
  generalize sdsOf f.shape f.rings = l at *
  have hml := HLen.out
  go_wp2_with fail
  go_loopw [8] (fun i wr => ∃ k : Nat, k ≤ l.length ∧ i = .int .i64 (k : Int) ∧ Aside0 (∀ j, j < k → sdHit b (rdS l j) = false) ∧ Aside0 (Below w8.heap.size w8 wr)) (fun i _ => l.length - (intOf i).toNat)
  case atStart => exact ⟨0, Nat.zero_le _, rfl, ⟨fun j hj => absurd hj (by omega)⟩, ⟨Below.refl _ _⟩⟩
  case round =>
    obtain ⟨k, hk, rfl, HI, HBr⟩ := hrel
    by_cases hlt : k < l.length
    · obtain ⟨ad, e1, hs0⟩ := at_s HC.out k hlt
      subst e1
      have HMk := Aside0.mk (HMay.out _ (rdS_mem hlt))
      have HY := Aside0.mk (fun h => HV1.out k hlt h)
      have HN := Aside0.mk (fun (ht : sdHit b (rdS l k) = false) j (hj : j < k + 1) => show sdHit b (rdS l j) = false by
        rcases Nat.lt_succ_iff_lt_or_eq.1 hj with h | rfl
        · exact HI.out j h
        · exact ht)
      have HS0 := Aside0.mk hs0
      clear hs0
      obtain ⟨s, hs⟩ : ∃ s, rdS l k = s := ⟨_, rfl⟩
      rw [hs] at HMk HY HN HS0
      have HSk := Aside0.mk hs
      clear hs
      obtain ⟨p, q⟩ := s
      have HSr := Aside0.mk (show AtS wr (ad.add (k * 4)) ⟨p, q⟩ from ⟨pw_cell_below HBr.out HS0.out.1, pw_cell_below HBr.out HS0.out.2.1, pw_cell_below HBr.out HS0.out.2.2.1, pw_cell_below HBr.out HS0.out.2.2.2⟩)
      have HBx := Aside0.mk (blk_below B5.out HBr.out)
      have b0 : wr.cell? ⟨w.heap.size + 1, 0, none⟩ = some (.int .i64 b.x0) := (blk_cell HBx.out 0).trans rfl
      have b1 : wr.cell? ⟨w.heap.size + 1, 1, none⟩ = some (.int .i64 b.y0) := (blk_cell HBx.out 1).trans rfl
      have b2 : wr.cell? ⟨w.heap.size + 1, 2, none⟩ = some (.int .i64 b.x1) := (blk_cell HBx.out 2).trans rfl
      have b3 : wr.cell? ⟨w.heap.size + 1, 3, none⟩ = some (.int .i64 b.y1) := (blk_cell HBx.out 3).trans rfl
      go_upto_region 7 with (fail)
      cases hi0 : inB b p
      · cases hi1 : inB b q
        · have HI0 := Aside0.mk hi0
          have HI1 := Aside0.mk hi1
          clear hi0 hi1
          refine be_ 16 [] (W := wr) rfl (by kernel_rfl) (fun hHeld => ?_)
          refine pu_ 0 29 rfl rfl (by kernel_rfl) (fun _ _ _ h => h) (by rfl) (fun w' => by go_simp; all_goals with_reducible rfl) (by simp only [Act.put, List.setIfInBounds_toArray, List.set_cons_zero, List.set_cons_succ]; rfl) ?_
          refine pu_ 1 30 rfl rfl (by kernel_rfl) (fun _ _ _ h => h) (by rfl) (fun w' => by go_simp; all_goals with_reducible rfl) (by simp only [Act.put, List.setIfInBounds_toArray, List.set_cons_zero, List.set_cons_succ]; rfl) ?_
          refine pu_ 2 31 rfl rfl (by kernel_rfl) (fun _ _ _ h => h) (by rfl) (fun w' => by go_simp; all_goals with_reducible rfl) (by simp only [Act.put, List.setIfInBounds_toArray, List.set_cons_zero, List.set_cons_succ]; rfl) ?_
          refine pu_ 3 32 rfl rfl (by kernel_rfl) (fun _ _ _ h => h) (by rfl) (fun w' => by go_simp; all_goals with_reducible rfl) (by simp only [Act.put, List.setIfInBounds_toArray, List.set_cons_zero, List.set_cons_succ]; rfl) ?_
          refine tk_ 4 33 hHeld rfl rfl (by kernel_rfl) (fun _ _ _ h => h) (by rfl) (fun w' hS' => by
            have s0 := pw_cell_below hS' HSr.out.1
            have s1 := pw_cell_below hS' HSr.out.2.1
            have s2 := pw_cell_below hS' HSr.out.2.2.1
            have s3 := pw_cell_below hS' HSr.out.2.2.2
            go_simp
            all_goals with_reducible rfl) (by simp only [Act.put, List.setIfInBounds_toArray, List.set_cons_zero, List.set_cons_succ]; rfl) ?_
          refine tk_ 5 34 hHeld rfl rfl (by kernel_rfl) (fun _ _ _ h => h) (by rfl) (fun w' hS' => by
            have r0 := pw_cell_below hS' b0
            have r1 := pw_cell_below hS' b1
            have r2 := pw_cell_below hS' b2
            have r3 := pw_cell_below hS' b3
            go_simp
            all_goals with_reducible rfl) (by simp only [Act.put, List.setIfInBounds_toArray, List.set_cons_zero, List.set_cons_succ]; rfl) ?_
          refine cl_ 6 35 Try.func26 hHeld (rInV_any (b := b) (p := p) _ HI0.out) rfl rfl (by kernel_rfl) (by decide) (by kernel_rfl) rfl (by rfl) rfl (by first | rfl | (simp only [List.map_toArray, List.map_cons, List.map_nil]; rfl)) (by simp only [Act.put, List.setIfInBounds_toArray, List.set_cons_zero, List.set_cons_succ]; rfl) (fun w4 hb4 hHeld => ?_)
          refine pu_ 7 36 rfl rfl (by kernel_rfl) (fun _ _ _ h => h) (by rfl) (fun w' => by go_simp; all_goals with_reducible rfl) (by simp only [Act.put, List.setIfInBounds_toArray, List.set_cons_zero, List.set_cons_succ]; rfl) ?_
          refine pu_ 8 37 rfl rfl (by kernel_rfl) (fun _ _ _ h => h) (by rfl) (fun w' => by go_simp; all_goals with_reducible rfl) (by simp only [Act.put, List.setIfInBounds_toArray, List.set_cons_zero, List.set_cons_succ]; rfl) ?_
          refine pu_ 9 38 rfl rfl (by kernel_rfl) (fun _ _ _ h => h) (by rfl) (fun w' => by go_simp; all_goals with_reducible rfl) (by simp only [Act.put, List.setIfInBounds_toArray, List.set_cons_zero, List.set_cons_succ]; rfl) ?_
          refine pu_ 10 39 rfl rfl (by kernel_rfl) (fun _ _ _ h => h) (by rfl) (fun w' => by go_simp; all_goals with_reducible rfl) (by simp only [Act.put, List.setIfInBounds_toArray, List.set_cons_zero, List.set_cons_succ]; rfl) ?_
          refine pu_ 11 40 rfl rfl (by kernel_rfl) (fun _ _ _ h => h) (by rfl) (fun w' => by go_simp; all_goals with_reducible rfl) (by simp only [Act.put, List.setIfInBounds_toArray, List.set_cons_zero, List.set_cons_succ]; rfl) ?_
          refine tk_ 12 41 hHeld rfl rfl (by kernel_rfl) (fun _ _ _ h => h) (by rfl) (fun w' hS' => by
            have s0 := pw_cell_below hS' HSr.out.1
            have s1 := pw_cell_below hS' HSr.out.2.1
            have s2 := pw_cell_below hS' HSr.out.2.2.1
            have s3 := pw_cell_below hS' HSr.out.2.2.2
            go_simp
            all_goals with_reducible rfl) (by simp only [Act.put, List.setIfInBounds_toArray, List.set_cons_zero, List.set_cons_succ]; rfl) ?_
          refine tk_ 13 42 hHeld rfl rfl (by kernel_rfl) (fun _ _ _ h => h) (by rfl) (fun w' hS' => by
            have r0 := pw_cell_below hS' b0
            have r1 := pw_cell_below hS' b1
            have r2 := pw_cell_below hS' b2
            have r3 := pw_cell_below hS' b3
            go_simp
            all_goals with_reducible rfl) (by simp only [Act.put, List.setIfInBounds_toArray, List.set_cons_zero, List.set_cons_succ]; rfl) ?_
          refine cl_ 14 43 Try.func26 hHeld (rInV_any (b := b) (p := q) _ HI1.out) rfl rfl (by kernel_rfl) (by decide) (by kernel_rfl) rfl (by rfl) rfl (by first | rfl | (simp only [List.map_toArray, List.map_cons, List.map_nil]; rfl)) (by simp only [Act.put, List.setIfInBounds_toArray, List.set_cons_zero, List.set_cons_succ]; rfl) (fun w5 hb5 hHeld => ?_)
          refine pu_ 15 44 rfl rfl (by kernel_rfl) (fun _ _ _ h => h) (by rfl) (fun w' => by go_simp; all_goals with_reducible rfl) (by simp only [Act.put, List.setIfInBounds_toArray, List.set_cons_zero, List.set_cons_succ]; rfl) ?_
          refine done_ (by kernel_rfl) ?_
          have HB4 := Aside0.mk (below_then HBr.out HBr.out.size hHeld)
          clear hHeld hb4 hb5 b0 b1 b2 b3 HSr HBx
          go_wp2_with fail
          go_loopw [9] (fun i wr2 => ∃ m : Nat, m ≤ 4 ∧ i = .int .i64 (m : Int) ∧ Aside0 (∀ j, j < m → sdX b ⟨p, q⟩ j = false) ∧ Aside0 (Below w8.heap.size w8 wr2)) (fun i _ => 4 - (intOf i).toNat)
          case atStart => exact ⟨0, Nat.zero_le _, rfl, ⟨fun j hj => absurd hj (by omega)⟩, HB4⟩
          case round =>
            obtain ⟨m, hm, rfl, HJ, HBs⟩ := hrel
            by_cases hm4 : m < 4
            · have HSs := Aside0.mk (show AtS wr (ad.add (k * 4)) ⟨p, q⟩ from ⟨pw_cell_below HBs.out HS0.out.1, pw_cell_below HBs.out HS0.out.2.1, pw_cell_below HBs.out HS0.out.2.2.1, pw_cell_below HBs.out HS0.out.2.2.2⟩)
              have HT2 := Aside0.mk (blk_below HT.out HBs.out)
              have HC0 := Aside0.mk (at_cn HT2.out hm4)
              have hn4 : (m + 1) % 4 < 4 := Nat.mod_lt _ (by omega)
              have HC1 := Aside0.mk (at_cn HT2.out hn4)
              have hcm := HCm.out ((m + 1) % 4)
              rw [cnK_mod b hm4] at HC1 hcm
              have HCn := Aside0.mk hcm
              have hw : IntKind.i64.wrap ((m : Int) + 1) = (m : Int) + 1 := IntWalk.i64_in _ ⟨by omega, by omega⟩
              have ht : ((m : Int) + 1).tmod 4 = (((m + 1) % 4 : Nat) : Int) := by rw [Int.tmod_eq_emod_of_nonneg (by omega)]; omega
              have hmi : (m : Int) < 4 := by omega
              clear hcm
              generalize (m + 1) % 4 = n1 at *
              have hni : (n1 : Int) < 4 := by omega
              have HJn := Aside0.mk (fun (hx : sdX b ⟨p, q⟩ m = false) j (hj : j < m + 1) => show sdX b ⟨p, q⟩ j = false by
                rcases Nat.lt_succ_iff_lt_or_eq.1 hj with h | rfl
                · exact HJ.out j h
                · exact hx)
              go_upto_region 12 with (fail)
              cases hx : sdX b ⟨p, q⟩ m
              · have HX := Aside0.mk hx
                clear hx
                refine be_ 19 [] (W := wr) rfl (by kernel_rfl) (fun hHeld => ?_)
                refine pu_ 0 49 rfl rfl (by kernel_rfl) (fun _ _ _ h => h) (by rfl) (fun w' => by go_simp; all_goals with_reducible rfl) (by simp only [Act.put, List.setIfInBounds_toArray, List.set_cons_zero, List.set_cons_succ]; rfl) ?_
                refine pu_ 1 50 rfl rfl (by kernel_rfl) (fun _ _ _ h => h) (by rfl) (fun w' => by go_simp; all_goals with_reducible rfl) (by simp only [Act.put, List.setIfInBounds_toArray, List.set_cons_zero, List.set_cons_succ]; rfl) ?_
                refine pu_ 2 51 rfl rfl (by kernel_rfl) (fun _ _ _ h => h) (by rfl) (fun w' => by go_simp; all_goals with_reducible rfl) (by simp only [Act.put, List.setIfInBounds_toArray, List.set_cons_zero, List.set_cons_succ]; rfl) ?_
                refine pu_ 3 52 rfl rfl (by kernel_rfl) (fun _ _ _ h => h) (by rfl) (fun w' => by go_simp; all_goals with_reducible rfl) (by simp only [Act.put, List.setIfInBounds_toArray, List.set_cons_zero, List.set_cons_succ]; rfl) ?_
                refine tk_ 4 53 hHeld rfl rfl (by kernel_rfl) (fun _ _ _ h => h) (by rfl) (fun w' hS' => by
                  have s0 := pw_cell_below hS' HSs.out.1
                  have s1 := pw_cell_below hS' HSs.out.2.1
                  have s2 := pw_cell_below hS' HSs.out.2.2.1
                  have s3 := pw_cell_below hS' HSs.out.2.2.2
                  go_simp
                  all_goals with_reducible rfl) (by simp only [Act.put, List.setIfInBounds_toArray, List.set_cons_zero, List.set_cons_succ]; rfl) ?_
                refine pu_ 5 54 rfl rfl (by kernel_rfl) (fun _ _ _ h => h) (by rfl) (fun w' => by go_simp; all_goals with_reducible rfl) (by simp only [Act.put, List.setIfInBounds_toArray, List.set_cons_zero, List.set_cons_succ]; rfl) ?_
                refine pu_ 6 55 rfl rfl (by kernel_rfl) (fun _ _ _ h => h) (by rfl) (fun w' => by go_simp; all_goals with_reducible rfl) (by simp only [Act.put, List.setIfInBounds_toArray, List.set_cons_zero, List.set_cons_succ]; rfl) ?_
                refine pu_ 7 56 rfl rfl (by kernel_rfl) (fun _ _ _ h => h) (by rfl) (fun w' => by go_simp; all_goals with_reducible rfl) (by simp only [Act.put, List.setIfInBounds_toArray, List.set_cons_zero, List.set_cons_succ]; rfl) ?_
                refine pu_ 8 57 rfl rfl (by kernel_rfl) (fun _ _ _ h => h) (by rfl) (fun w' => by go_simp; all_goals with_reducible rfl) (by simp only [Act.put, List.setIfInBounds_toArray, List.set_cons_zero, List.set_cons_succ]; rfl) ?_
                refine tk_ 9 58 hHeld rfl rfl (by kernel_rfl) (fun _ _ _ h => h) (by rfl) (fun w' hS' => by
                  have s0 := pw_cell_below hS' HSs.out.1
                  have s1 := pw_cell_below hS' HSs.out.2.1
                  have s2 := pw_cell_below hS' HSs.out.2.2.1
                  have s3 := pw_cell_below hS' HSs.out.2.2.2
                  go_simp
                  all_goals with_reducible rfl) (by simp only [Act.put, List.setIfInBounds_toArray, List.set_cons_zero, List.set_cons_succ]; rfl) ?_
                refine pu_ 10 59 rfl rfl (by kernel_rfl) (fun _ _ _ h => h) (by rfl) (fun w' => by go_simp; all_goals with_reducible rfl) (by simp only [Act.put, List.setIfInBounds_toArray, List.set_cons_zero, List.set_cons_succ]; rfl) ?_
                refine pu_ 11 60 rfl rfl (by kernel_rfl) (fun _ _ _ h => h) (by rfl) (fun w' => by go_simp; all_goals with_reducible rfl) (by simp only [Act.put, List.setIfInBounds_toArray, List.set_cons_zero, List.set_cons_succ]; rfl) ?_
                refine tk_ 12 61 hHeld rfl rfl (by kernel_rfl) (fun _ _ _ h => h) (by rfl) (fun w' hS' => by
                  have c0 := pw_cell_below hS' HC0.out.1
                  have c1 := pw_cell_below hS' HC0.out.2
                  go_simp
                  all_goals with_reducible rfl) (by simp only [Act.put, List.setIfInBounds_toArray, List.set_cons_zero, List.set_cons_succ]; rfl) ?_
                refine pu_ 13 62 rfl rfl (by kernel_rfl) (fun _ _ _ h => h) (by rfl) (fun w' => by go_simp; all_goals with_reducible rfl) (by simp only [Act.put, List.setIfInBounds_toArray, List.set_cons_zero, List.set_cons_succ]; rfl) ?_
                refine pu_ 14 63 rfl rfl (by kernel_rfl) (fun _ _ _ h => h) (by rfl) (fun w' => by go_simp; all_goals with_reducible rfl) (by simp only [Act.put, List.setIfInBounds_toArray, List.set_cons_zero, List.set_cons_succ]; rfl) ?_
                refine pu_ 15 64 rfl rfl (by kernel_rfl) (fun _ _ _ h => h) (by rfl) (fun w' => by go_simp; all_goals with_reducible rfl) (by simp only [Act.put, List.setIfInBounds_toArray, List.set_cons_zero, List.set_cons_succ]; rfl) ?_
                refine pu_ 16 65 rfl rfl (by kernel_rfl) (fun _ _ _ h => h) (by rfl) (fun w' => by go_simp; all_goals with_reducible rfl) (by simp only [Act.put, List.setIfInBounds_toArray, List.set_cons_zero, List.set_cons_succ]; rfl) ?_
                refine tk_ 17 66 hHeld rfl rfl (by kernel_rfl) (fun _ _ _ h => h) (by rfl) (fun w' hS' => by
                  have c0 := pw_cell_below hS' HC1.out.1
                  have c1 := pw_cell_below hS' HC1.out.2
                  go_simp
                  all_goals with_reducible rfl) (by simp only [Act.put, List.setIfInBounds_toArray, List.set_cons_zero, List.set_cons_succ]; rfl) ?_
                refine cl_ 18 67 Try.func49 hHeld (rXV_any _ HMk.out.1 HMk.out.2 (HCm.out m) HCn.out HX.out) rfl rfl (by kernel_rfl) (by decide) (by kernel_rfl) rfl (by rfl) rfl (by first | rfl | (simp only [List.map_toArray, List.map_cons, List.map_nil]; rfl)) (by simp only [Act.put, List.setIfInBounds_toArray, List.set_cons_zero, List.set_cons_succ]; rfl) (fun w6 hb6 hHeld => ?_)
                refine done_ (by kernel_rfl) ?_
                have HB5 := Aside0.mk (below_then HBs.out HBs.out.size hHeld)
                clear hHeld hb6
                have HJx := Aside0.mk (HJn.out HX.out)
                go_wp2_with fail
                go_roundw
                case rel => exact ⟨m + 1, by omega, by go_num, HJx, HB5⟩
                case measure => simp [intOf]; omega
              · have HX := Aside0.mk hx
                clear hx
                refine be_ 19 [] (W := wr) rfl (by kernel_rfl) (fun hHeld => ?_)
                refine pu_ 0 49 rfl rfl (by kernel_rfl) (fun _ _ _ h => h) (by rfl) (fun w' => by go_simp; all_goals with_reducible rfl) (by simp only [Act.put, List.setIfInBounds_toArray, List.set_cons_zero, List.set_cons_succ]; rfl) ?_
                refine pu_ 1 50 rfl rfl (by kernel_rfl) (fun _ _ _ h => h) (by rfl) (fun w' => by go_simp; all_goals with_reducible rfl) (by simp only [Act.put, List.setIfInBounds_toArray, List.set_cons_zero, List.set_cons_succ]; rfl) ?_
                refine pu_ 2 51 rfl rfl (by kernel_rfl) (fun _ _ _ h => h) (by rfl) (fun w' => by go_simp; all_goals with_reducible rfl) (by simp only [Act.put, List.setIfInBounds_toArray, List.set_cons_zero, List.set_cons_succ]; rfl) ?_
                refine pu_ 3 52 rfl rfl (by kernel_rfl) (fun _ _ _ h => h) (by rfl) (fun w' => by go_simp; all_goals with_reducible rfl) (by simp only [Act.put, List.setIfInBounds_toArray, List.set_cons_zero, List.set_cons_succ]; rfl) ?_
                refine tk_ 4 53 hHeld rfl rfl (by kernel_rfl) (fun _ _ _ h => h) (by rfl) (fun w' hS' => by
                  have s0 := pw_cell_below hS' HSs.out.1
                  have s1 := pw_cell_below hS' HSs.out.2.1
                  have s2 := pw_cell_below hS' HSs.out.2.2.1
                  have s3 := pw_cell_below hS' HSs.out.2.2.2
                  go_simp
                  all_goals with_reducible rfl) (by simp only [Act.put, List.setIfInBounds_toArray, List.set_cons_zero, List.set_cons_succ]; rfl) ?_
                refine pu_ 5 54 rfl rfl (by kernel_rfl) (fun _ _ _ h => h) (by rfl) (fun w' => by go_simp; all_goals with_reducible rfl) (by simp only [Act.put, List.setIfInBounds_toArray, List.set_cons_zero, List.set_cons_succ]; rfl) ?_
                refine pu_ 6 55 rfl rfl (by kernel_rfl) (fun _ _ _ h => h) (by rfl) (fun w' => by go_simp; all_goals with_reducible rfl) (by simp only [Act.put, List.setIfInBounds_toArray, List.set_cons_zero, List.set_cons_succ]; rfl) ?_
                refine pu_ 7 56 rfl rfl (by kernel_rfl) (fun _ _ _ h => h) (by rfl) (fun w' => by go_simp; all_goals with_reducible rfl) (by simp only [Act.put, List.setIfInBounds_toArray, List.set_cons_zero, List.set_cons_succ]; rfl) ?_
                refine pu_ 8 57 rfl rfl (by kernel_rfl) (fun _ _ _ h => h) (by rfl) (fun w' => by go_simp; all_goals with_reducible rfl) (by simp only [Act.put, List.setIfInBounds_toArray, List.set_cons_zero, List.set_cons_succ]; rfl) ?_
                refine tk_ 9 58 hHeld rfl rfl (by kernel_rfl) (fun _ _ _ h => h) (by rfl) (fun w' hS' => by
                  have s0 := pw_cell_below hS' HSs.out.1
                  have s1 := pw_cell_below hS' HSs.out.2.1
                  have s2 := pw_cell_below hS' HSs.out.2.2.1
                  have s3 := pw_cell_below hS' HSs.out.2.2.2
                  go_simp
                  all_goals with_reducible rfl) (by simp only [Act.put, List.setIfInBounds_toArray, List.set_cons_zero, List.set_cons_succ]; rfl) ?_
                refine pu_ 10 59 rfl rfl (by kernel_rfl) (fun _ _ _ h => h) (by rfl) (fun w' => by go_simp; all_goals with_reducible rfl) (by simp only [Act.put, List.setIfInBounds_toArray, List.set_cons_zero, List.set_cons_succ]; rfl) ?_
                refine pu_ 11 60 rfl rfl (by kernel_rfl) (fun _ _ _ h => h) (by rfl) (fun w' => by go_simp; all_goals with_reducible rfl) (by simp only [Act.put, List.setIfInBounds_toArray, List.set_cons_zero, List.set_cons_succ]; rfl) ?_
                refine tk_ 12 61 hHeld rfl rfl (by kernel_rfl) (fun _ _ _ h => h) (by rfl) (fun w' hS' => by
                  have c0 := pw_cell_below hS' HC0.out.1
                  have c1 := pw_cell_below hS' HC0.out.2
                  go_simp
                  all_goals with_reducible rfl) (by simp only [Act.put, List.setIfInBounds_toArray, List.set_cons_zero, List.set_cons_succ]; rfl) ?_
                refine pu_ 13 62 rfl rfl (by kernel_rfl) (fun _ _ _ h => h) (by rfl) (fun w' => by go_simp; all_goals with_reducible rfl) (by simp only [Act.put, List.setIfInBounds_toArray, List.set_cons_zero, List.set_cons_succ]; rfl) ?_
                refine pu_ 14 63 rfl rfl (by kernel_rfl) (fun _ _ _ h => h) (by rfl) (fun w' => by go_simp; all_goals with_reducible rfl) (by simp only [Act.put, List.setIfInBounds_toArray, List.set_cons_zero, List.set_cons_succ]; rfl) ?_
                refine pu_ 15 64 rfl rfl (by kernel_rfl) (fun _ _ _ h => h) (by rfl) (fun w' => by go_simp; all_goals with_reducible rfl) (by simp only [Act.put, List.setIfInBounds_toArray, List.set_cons_zero, List.set_cons_succ]; rfl) ?_
                refine pu_ 16 65 rfl rfl (by kernel_rfl) (fun _ _ _ h => h) (by rfl) (fun w' => by go_simp; all_goals with_reducible rfl) (by simp only [Act.put, List.setIfInBounds_toArray, List.set_cons_zero, List.set_cons_succ]; rfl) ?_
                refine tk_ 17 66 hHeld rfl rfl (by kernel_rfl) (fun _ _ _ h => h) (by rfl) (fun w' hS' => by
                  have c0 := pw_cell_below hS' HC1.out.1
                  have c1 := pw_cell_below hS' HC1.out.2
                  go_simp
                  all_goals with_reducible rfl) (by simp only [Act.put, List.setIfInBounds_toArray, List.set_cons_zero, List.set_cons_succ]; rfl) ?_
                refine cl_ 18 67 Try.func49 hHeld (rXV_any _ HMk.out.1 HMk.out.2 (HCm.out m) HCn.out HX.out) rfl rfl (by kernel_rfl) (by decide) (by kernel_rfl) rfl (by rfl) rfl (by first | rfl | (simp only [List.map_toArray, List.map_cons, List.map_nil]; rfl)) (by simp only [Act.put, List.setIfInBounds_toArray, List.set_cons_zero, List.set_cons_succ]; rfl) (fun w6 hb6 hHeld => ?_)
                refine done_ (by kernel_rfl) ?_
                have HB5 := Aside0.mk (below_then HBs.out HBs.out.size hHeld)
                clear hHeld hb6
                have HV := Aside0.mk (HY.out (sd_x hm4 HI0.out HI1.out HX.out))
                go_wp2_with fail
                go_ret2
                exact ⟨by rw [HV.out, HMf.out, HPf.out]; rfl, below_then HB3.out HB3.out.size HB5.out⟩
            · obtain rfl : m = 4 := by omega
              have HNk := Aside0.mk (HN.out (sd_no HI0.out HI1.out HJ.out))
              go_wp2_with fail
              go_roundw
              case rel => exact ⟨k + 1, by omega, by go_num, HNk, HBs⟩
              case measure => simp [intOf]; omega
        · have HV := Aside0.mk (HY.out (sd_in1 hi0 hi1))
          have HI0 := Aside0.mk hi0
          have HI1 := Aside0.mk hi1
          clear hi0 hi1
          refine be_ 16 [] (W := wr) rfl (by kernel_rfl) (fun hHeld => ?_)
          refine pu_ 0 29 rfl rfl (by kernel_rfl) (fun _ _ _ h => h) (by rfl) (fun w' => by go_simp; all_goals with_reducible rfl) (by simp only [Act.put, List.setIfInBounds_toArray, List.set_cons_zero, List.set_cons_succ]; rfl) ?_
          refine pu_ 1 30 rfl rfl (by kernel_rfl) (fun _ _ _ h => h) (by rfl) (fun w' => by go_simp; all_goals with_reducible rfl) (by simp only [Act.put, List.setIfInBounds_toArray, List.set_cons_zero, List.set_cons_succ]; rfl) ?_
          refine pu_ 2 31 rfl rfl (by kernel_rfl) (fun _ _ _ h => h) (by rfl) (fun w' => by go_simp; all_goals with_reducible rfl) (by simp only [Act.put, List.setIfInBounds_toArray, List.set_cons_zero, List.set_cons_succ]; rfl) ?_
          refine pu_ 3 32 rfl rfl (by kernel_rfl) (fun _ _ _ h => h) (by rfl) (fun w' => by go_simp; all_goals with_reducible rfl) (by simp only [Act.put, List.setIfInBounds_toArray, List.set_cons_zero, List.set_cons_succ]; rfl) ?_
          refine tk_ 4 33 hHeld rfl rfl (by kernel_rfl) (fun _ _ _ h => h) (by rfl) (fun w' hS' => by
            have s0 := pw_cell_below hS' HSr.out.1
            have s1 := pw_cell_below hS' HSr.out.2.1
            have s2 := pw_cell_below hS' HSr.out.2.2.1
            have s3 := pw_cell_below hS' HSr.out.2.2.2
            go_simp
            all_goals with_reducible rfl) (by simp only [Act.put, List.setIfInBounds_toArray, List.set_cons_zero, List.set_cons_succ]; rfl) ?_
          refine tk_ 5 34 hHeld rfl rfl (by kernel_rfl) (fun _ _ _ h => h) (by rfl) (fun w' hS' => by
            have r0 := pw_cell_below hS' b0
            have r1 := pw_cell_below hS' b1
            have r2 := pw_cell_below hS' b2
            have r3 := pw_cell_below hS' b3
            go_simp
            all_goals with_reducible rfl) (by simp only [Act.put, List.setIfInBounds_toArray, List.set_cons_zero, List.set_cons_succ]; rfl) ?_
          refine cl_ 6 35 Try.func26 hHeld (rInV_any (b := b) (p := p) _ HI0.out) rfl rfl (by kernel_rfl) (by decide) (by kernel_rfl) rfl (by rfl) rfl (by first | rfl | (simp only [List.map_toArray, List.map_cons, List.map_nil]; rfl)) (by simp only [Act.put, List.setIfInBounds_toArray, List.set_cons_zero, List.set_cons_succ]; rfl) (fun w4 hb4 hHeld => ?_)
          refine pu_ 7 36 rfl rfl (by kernel_rfl) (fun _ _ _ h => h) (by rfl) (fun w' => by go_simp; all_goals with_reducible rfl) (by simp only [Act.put, List.setIfInBounds_toArray, List.set_cons_zero, List.set_cons_succ]; rfl) ?_
          refine pu_ 8 37 rfl rfl (by kernel_rfl) (fun _ _ _ h => h) (by rfl) (fun w' => by go_simp; all_goals with_reducible rfl) (by simp only [Act.put, List.setIfInBounds_toArray, List.set_cons_zero, List.set_cons_succ]; rfl) ?_
          refine pu_ 9 38 rfl rfl (by kernel_rfl) (fun _ _ _ h => h) (by rfl) (fun w' => by go_simp; all_goals with_reducible rfl) (by simp only [Act.put, List.setIfInBounds_toArray, List.set_cons_zero, List.set_cons_succ]; rfl) ?_
          refine pu_ 10 39 rfl rfl (by kernel_rfl) (fun _ _ _ h => h) (by rfl) (fun w' => by go_simp; all_goals with_reducible rfl) (by simp only [Act.put, List.setIfInBounds_toArray, List.set_cons_zero, List.set_cons_succ]; rfl) ?_
          refine pu_ 11 40 rfl rfl (by kernel_rfl) (fun _ _ _ h => h) (by rfl) (fun w' => by go_simp; all_goals with_reducible rfl) (by simp only [Act.put, List.setIfInBounds_toArray, List.set_cons_zero, List.set_cons_succ]; rfl) ?_
          refine tk_ 12 41 hHeld rfl rfl (by kernel_rfl) (fun _ _ _ h => h) (by rfl) (fun w' hS' => by
            have s0 := pw_cell_below hS' HSr.out.1
            have s1 := pw_cell_below hS' HSr.out.2.1
            have s2 := pw_cell_below hS' HSr.out.2.2.1
            have s3 := pw_cell_below hS' HSr.out.2.2.2
            go_simp
            all_goals with_reducible rfl) (by simp only [Act.put, List.setIfInBounds_toArray, List.set_cons_zero, List.set_cons_succ]; rfl) ?_
          refine tk_ 13 42 hHeld rfl rfl (by kernel_rfl) (fun _ _ _ h => h) (by rfl) (fun w' hS' => by
            have r0 := pw_cell_below hS' b0
            have r1 := pw_cell_below hS' b1
            have r2 := pw_cell_below hS' b2
            have r3 := pw_cell_below hS' b3
            go_simp
            all_goals with_reducible rfl) (by simp only [Act.put, List.setIfInBounds_toArray, List.set_cons_zero, List.set_cons_succ]; rfl) ?_
          refine cl_ 14 43 Try.func26 hHeld (rInV_any (b := b) (p := q) _ HI1.out) rfl rfl (by kernel_rfl) (by decide) (by kernel_rfl) rfl (by rfl) rfl (by first | rfl | (simp only [List.map_toArray, List.map_cons, List.map_nil]; rfl)) (by simp only [Act.put, List.setIfInBounds_toArray, List.set_cons_zero, List.set_cons_succ]; rfl) (fun w5 hb5 hHeld => ?_)
          refine pu_ 15 44 rfl rfl (by kernel_rfl) (fun _ _ _ h => h) (by rfl) (fun w' => by go_simp; all_goals with_reducible rfl) (by simp only [Act.put, List.setIfInBounds_toArray, List.set_cons_zero, List.set_cons_succ]; rfl) ?_
          refine done_ (by kernel_rfl) ?_
          have HB4 := Aside0.mk (below_then HBr.out HBr.out.size hHeld)
          clear hHeld hb4 hb5 b0 b1 b2 b3 HSr HBx
          go_wp2_with fail
          go_ret2
          exact ⟨by rw [HV.out, HMf.out, HPf.out]; rfl, below_then HB3.out HB3.out.size HB4.out⟩
      · have HV := Aside0.mk (HY.out (sd_in0 hi0))
        have HI0 := Aside0.mk hi0
        clear hi0
        refine be_ 16 [] (W := wr) rfl (by kernel_rfl) (fun hHeld => ?_)
        refine pu_ 0 29 rfl rfl (by kernel_rfl) (fun _ _ _ h => h) (by rfl) (fun w' => by go_simp; all_goals with_reducible rfl) (by simp only [Act.put, List.setIfInBounds_toArray, List.set_cons_zero, List.set_cons_succ]; rfl) ?_
        refine pu_ 1 30 rfl rfl (by kernel_rfl) (fun _ _ _ h => h) (by rfl) (fun w' => by go_simp; all_goals with_reducible rfl) (by simp only [Act.put, List.setIfInBounds_toArray, List.set_cons_zero, List.set_cons_succ]; rfl) ?_
        refine pu_ 2 31 rfl rfl (by kernel_rfl) (fun _ _ _ h => h) (by rfl) (fun w' => by go_simp; all_goals with_reducible rfl) (by simp only [Act.put, List.setIfInBounds_toArray, List.set_cons_zero, List.set_cons_succ]; rfl) ?_
        refine pu_ 3 32 rfl rfl (by kernel_rfl) (fun _ _ _ h => h) (by rfl) (fun w' => by go_simp; all_goals with_reducible rfl) (by simp only [Act.put, List.setIfInBounds_toArray, List.set_cons_zero, List.set_cons_succ]; rfl) ?_
        refine tk_ 4 33 hHeld rfl rfl (by kernel_rfl) (fun _ _ _ h => h) (by rfl) (fun w' hS' => by
          have s0 := pw_cell_below hS' HSr.out.1
          have s1 := pw_cell_below hS' HSr.out.2.1
          have s2 := pw_cell_below hS' HSr.out.2.2.1
          have s3 := pw_cell_below hS' HSr.out.2.2.2
          go_simp
          all_goals with_reducible rfl) (by simp only [Act.put, List.setIfInBounds_toArray, List.set_cons_zero, List.set_cons_succ]; rfl) ?_
        refine tk_ 5 34 hHeld rfl rfl (by kernel_rfl) (fun _ _ _ h => h) (by rfl) (fun w' hS' => by
          have r0 := pw_cell_below hS' b0
          have r1 := pw_cell_below hS' b1
          have r2 := pw_cell_below hS' b2
          have r3 := pw_cell_below hS' b3
          go_simp
          all_goals with_reducible rfl) (by simp only [Act.put, List.setIfInBounds_toArray, List.set_cons_zero, List.set_cons_succ]; rfl) ?_
        refine cl_ 6 35 Try.func26 hHeld (rInV_any (b := b) (p := p) _ HI0.out) rfl rfl (by kernel_rfl) (by decide) (by kernel_rfl) rfl (by rfl) rfl (by first | rfl | (simp only [List.map_toArray, List.map_cons, List.map_nil]; rfl)) (by simp only [Act.put, List.setIfInBounds_toArray, List.set_cons_zero, List.set_cons_succ]; rfl) (fun w4 hb4 hHeld => ?_)
        refine pu_ 7 36 rfl rfl (by kernel_rfl) (fun _ _ _ h => h) (by rfl) (fun w' => by go_simp; all_goals with_reducible rfl) (by simp only [Act.put, List.setIfInBounds_toArray, List.set_cons_zero, List.set_cons_succ]; rfl) ?_
        refine no_ 8 (some 37) rfl rfl (by kernel_rfl) (fun _ _ _ h => h) (by rfl) (by simp only [Act.put, List.setIfInBounds_toArray, List.set_cons_zero, List.set_cons_succ]; rfl) ?_
        refine no_ 9 (some 38) rfl rfl (by kernel_rfl) (fun _ _ _ h => h) (by rfl) (by simp only [Act.put, List.setIfInBounds_toArray, List.set_cons_zero, List.set_cons_succ]; rfl) ?_
        refine no_ 10 (some 39) rfl rfl (by kernel_rfl) (fun _ _ _ h => h) (by rfl) (by simp only [Act.put, List.setIfInBounds_toArray, List.set_cons_zero, List.set_cons_succ]; rfl) ?_
        refine no_ 11 (some 40) rfl rfl (by kernel_rfl) (fun _ _ _ h => h) (by rfl) (by simp only [Act.put, List.setIfInBounds_toArray, List.set_cons_zero, List.set_cons_succ]; rfl) ?_
        refine no_ 12 (some 41) rfl rfl (by kernel_rfl) (fun _ _ _ h => h) (by rfl) (by simp only [Act.put, List.setIfInBounds_toArray, List.set_cons_zero, List.set_cons_succ]; rfl) ?_
        refine no_ 13 (some 42) rfl rfl (by kernel_rfl) (fun _ _ _ h => h) (by rfl) (by simp only [Act.put, List.setIfInBounds_toArray, List.set_cons_zero, List.set_cons_succ]; rfl) ?_
        refine no_ 14 (some 43) rfl rfl (by kernel_rfl) (fun _ _ _ h => h) (by rfl) (by simp only [Act.put, List.setIfInBounds_toArray, List.set_cons_zero, List.set_cons_succ]; rfl) ?_
        refine pu_ 15 44 rfl rfl (by kernel_rfl) (fun _ _ _ h => h) (by rfl) (fun w' => by go_simp; all_goals with_reducible rfl) (by simp only [Act.put, List.setIfInBounds_toArray, List.set_cons_zero, List.set_cons_succ]; rfl) ?_
        refine done_ (by kernel_rfl) ?_
        have HB4 := Aside0.mk (below_then HBr.out HBr.out.size hHeld)
        clear hHeld hb4 b0 b1 b2 b3 HSr HBx
        go_wp2_with fail
        go_ret2
        exact ⟨by rw [HV.out, HMf.out, HPf.out]; rfl, below_then HB3.out HB3.out.size HB4.out⟩
    · obtain rfl : k = l.length := by omega
      have HV := Aside0.mk (HV2.out HI.out)
      clear HI HV1 HV2 HC HMay
      go_wp2_with fail
      go_loopw [10] (fun i wr2 => ∃ m : Nat, m ≤ 4 ∧ i = .int .i64 (m : Int) ∧ Aside0 (∀ j, j < m → (f.shape == 2 && hasB f (cnK b j)) = false) ∧ Aside0 (Below w8.heap.size w8 wr2)) (fun i _ => 4 - (intOf i).toNat)
      case atStart => exact ⟨0, Nat.zero_le _, rfl, ⟨fun j hj => absurd hj (by omega)⟩, HBr⟩
      case round =>
        obtain ⟨m, hm, rfl, HJ, HBs⟩ := hrel
        have HX0 := Aside0.mk (blk_below B4.out HBs.out)
        by_cases hm4 : m < 4
        · have f0 : wr.cell? ⟨w.heap.size, 0, none⟩ = some (.int .i64 f.id) := (blk_cell HX0.out 0).trans rfl
          have f1 : wr.cell? ⟨w.heap.size, 1, none⟩ = some (.int .i64 f.shape) := (blk_cell HX0.out 1).trans rfl
          have f2 : wr.cell? ⟨w.heap.size, 2, none⟩ = some (.slice A f.rings.length c) := (blk_cell HX0.out 2).trans rfl
          have HT2 := Aside0.mk (blk_below HT.out HBs.out)
          have HC0 := Aside0.mk (at_cn HT2.out hm4)
          have HRs := Aside0.mk (Kd.C_below HR8.out HBs.out)
          have hmi : (m : Int) < 4 := by omega
          have HJn := Aside0.mk (fun (hx : (f.shape == 2 && hasB f (cnK b m)) = false) j (hj : j < m + 1) => show (f.shape == 2 && hasB f (cnK b j)) = false by
            rcases Nat.lt_succ_iff_lt_or_eq.1 hj with h | rfl
            · exact HJ.out j h
            · exact hx)
          go_upto_region 17 with (fail)
          cases h2 : f.shape == 2
          · have HJx := Aside0.mk (HJn.out (by rw [h2]; rfl))
            refine be_ 10 [] (W := wr) rfl (by kernel_rfl) (fun hHeld => ?_)
            refine pu_ 0 72 rfl rfl (by kernel_rfl) (fun _ _ _ h => h) (by rfl) (fun w' => by go_simp; all_goals with_reducible rfl) (by simp only [Act.put, List.setIfInBounds_toArray, List.set_cons_zero, List.set_cons_succ]; rfl) ?_
            refine tk_ 1 73 hHeld rfl rfl (by kernel_rfl) (fun _ _ _ h => h) (by rfl) (fun w' hS' => by
              have q0 := pw_cell_below hS' f0
              have q1 := pw_cell_below hS' f1
              have q2 := pw_cell_below hS' f2
              go_simp
              all_goals with_reducible rfl) (by simp only [Act.put, List.setIfInBounds_toArray, List.set_cons_zero, List.set_cons_succ]; rfl) ?_
            refine pu_ 2 74 rfl rfl (by kernel_rfl) (fun _ _ _ h => h) (by rfl) (fun w' => by go_simp; all_goals with_reducible rfl) (by simp only [Act.put, List.setIfInBounds_toArray, List.set_cons_zero, List.set_cons_succ]; rfl) ?_
            refine pu_ 3 75 rfl rfl (by kernel_rfl) (fun _ _ _ h => h) (by rfl) (fun w' => by go_simp; all_goals with_reducible rfl) (by simp only [Act.put, List.setIfInBounds_toArray, List.set_cons_zero, List.set_cons_succ]; rfl) ?_
            refine no_ 4 (some 76) rfl rfl (by kernel_rfl) (fun _ _ _ h => h) (by rfl) (by simp only [Act.put, List.setIfInBounds_toArray, List.set_cons_zero, List.set_cons_succ]; rfl) ?_
            refine no_ 5 (some 77) rfl rfl (by kernel_rfl) (fun _ _ _ h => h) (by rfl) (by simp only [Act.put, List.setIfInBounds_toArray, List.set_cons_zero, List.set_cons_succ]; rfl) ?_
            refine no_ 6 (some 78) rfl rfl (by kernel_rfl) (fun _ _ _ h => h) (by rfl) (by simp only [Act.put, List.setIfInBounds_toArray, List.set_cons_zero, List.set_cons_succ]; rfl) ?_
            refine no_ 7 (some 79) rfl rfl (by kernel_rfl) (fun _ _ _ h => h) (by rfl) (by simp only [Act.put, List.setIfInBounds_toArray, List.set_cons_zero, List.set_cons_succ]; rfl) ?_
            refine no_ 8 (some 80) rfl rfl (by kernel_rfl) (fun _ _ _ h => h) (by rfl) (by simp only [Act.put, List.setIfInBounds_toArray, List.set_cons_zero, List.set_cons_succ]; rfl) ?_
            refine pu_ 9 81 rfl rfl (by kernel_rfl) (fun _ _ _ h => h) (by rfl) (fun w' => by go_simp; all_goals with_reducible rfl) (by simp only [Act.put, List.setIfInBounds_toArray, List.set_cons_zero, List.set_cons_succ]; rfl) ?_
            refine done_ (by kernel_rfl) ?_
            have HB5 := Aside0.mk (below_then HBs.out HBs.out.size hHeld)
            clear hHeld f0 f1 f2
            go_wp2_with fail
            go_roundw
            case rel => exact ⟨m + 1, by omega, by go_num, HJx, HB5⟩
            case measure => simp [intOf]; omega
          · cases hx : hasB f (cnK b m)
            · have HX := Aside0.mk hx
              have HJx := Aside0.mk (HJn.out (by rw [h2, hx]; rfl))
              clear hx
              refine be_ 10 [] (W := wr) rfl (by kernel_rfl) (fun hHeld => ?_)
              refine pu_ 0 72 rfl rfl (by kernel_rfl) (fun _ _ _ h => h) (by rfl) (fun w' => by go_simp; all_goals with_reducible rfl) (by simp only [Act.put, List.setIfInBounds_toArray, List.set_cons_zero, List.set_cons_succ]; rfl) ?_
              refine tk_ 1 73 hHeld rfl rfl (by kernel_rfl) (fun _ _ _ h => h) (by rfl) (fun w' hS' => by
                have q0 := pw_cell_below hS' f0
                have q1 := pw_cell_below hS' f1
                have q2 := pw_cell_below hS' f2
                go_simp
                all_goals with_reducible rfl) (by simp only [Act.put, List.setIfInBounds_toArray, List.set_cons_zero, List.set_cons_succ]; rfl) ?_
              refine pu_ 2 74 rfl rfl (by kernel_rfl) (fun _ _ _ h => h) (by rfl) (fun w' => by go_simp; all_goals with_reducible rfl) (by simp only [Act.put, List.setIfInBounds_toArray, List.set_cons_zero, List.set_cons_succ]; rfl) ?_
              refine pu_ 3 75 rfl rfl (by kernel_rfl) (fun _ _ _ h => h) (by rfl) (fun w' => by go_simp; all_goals with_reducible rfl) (by simp only [Act.put, List.setIfInBounds_toArray, List.set_cons_zero, List.set_cons_succ]; rfl) ?_
              refine tk_ 4 76 hHeld rfl rfl (by kernel_rfl) (fun _ _ _ h => h) (by rfl) (fun w' hS' => by
                have q0 := pw_cell_below hS' f0
                have q1 := pw_cell_below hS' f1
                have q2 := pw_cell_below hS' f2
                go_simp
                all_goals with_reducible rfl) (by simp only [Act.put, List.setIfInBounds_toArray, List.set_cons_zero, List.set_cons_succ]; rfl) ?_
              refine pu_ 5 77 rfl rfl (by kernel_rfl) (fun _ _ _ h => h) (by rfl) (fun w' => by go_simp; all_goals with_reducible rfl) (by simp only [Act.put, List.setIfInBounds_toArray, List.set_cons_zero, List.set_cons_succ]; rfl) ?_
              refine pu_ 6 78 rfl rfl (by kernel_rfl) (fun _ _ _ h => h) (by rfl) (fun w' => by go_simp; all_goals with_reducible rfl) (by simp only [Act.put, List.setIfInBounds_toArray, List.set_cons_zero, List.set_cons_succ]; rfl) ?_
              refine tk_ 7 79 hHeld rfl rfl (by kernel_rfl) (fun _ _ _ h => h) (by rfl) (fun w' hS' => by
                have c0 := pw_cell_below hS' HC0.out.1
                have c1 := pw_cell_below hS' HC0.out.2
                go_simp
                all_goals with_reducible rfl) (by simp only [Act.put, List.setIfInBounds_toArray, List.set_cons_zero, List.set_cons_succ]; rfl) ?_
              refine cl_ 8 80 Try.func46 hHeld (rHasV_any _ (Kd.C_below HRs.out hHeld) HMf.out (HCm.out m) HX.out) rfl rfl (by kernel_rfl) (by decide) (by kernel_rfl) rfl (by rfl) rfl (by first | rfl | (simp only [List.map_toArray, List.map_cons, List.map_nil]; rfl)) (by simp only [Act.put, List.setIfInBounds_toArray, List.set_cons_zero, List.set_cons_succ]; rfl) (fun w7 hb7 hHeld => ?_)
              refine pu_ 9 81 rfl rfl (by kernel_rfl) (fun _ _ _ h => h) (by rfl) (fun w' => by go_simp; all_goals with_reducible rfl) (by simp only [Act.put, List.setIfInBounds_toArray, List.set_cons_zero, List.set_cons_succ]; rfl) ?_
              refine done_ (by kernel_rfl) ?_
              have HB5 := Aside0.mk (below_then HBs.out HBs.out.size hHeld)
              clear hHeld f0 f1 f2 hb7
              go_wp2_with fail
              go_roundw
              case rel => exact ⟨m + 1, by omega, by go_num, HJx, HB5⟩
              case measure => simp [intOf]; omega
            · have HX := Aside0.mk hx
              have HVx := Aside0.mk (cn_any (b := b) (by simpa using h2) hx)
              clear hx
              refine be_ 10 [] (W := wr) rfl (by kernel_rfl) (fun hHeld => ?_)
              refine pu_ 0 72 rfl rfl (by kernel_rfl) (fun _ _ _ h => h) (by rfl) (fun w' => by go_simp; all_goals with_reducible rfl) (by simp only [Act.put, List.setIfInBounds_toArray, List.set_cons_zero, List.set_cons_succ]; rfl) ?_
              refine tk_ 1 73 hHeld rfl rfl (by kernel_rfl) (fun _ _ _ h => h) (by rfl) (fun w' hS' => by
                have q0 := pw_cell_below hS' f0
                have q1 := pw_cell_below hS' f1
                have q2 := pw_cell_below hS' f2
                go_simp
                all_goals with_reducible rfl) (by simp only [Act.put, List.setIfInBounds_toArray, List.set_cons_zero, List.set_cons_succ]; rfl) ?_
              refine pu_ 2 74 rfl rfl (by kernel_rfl) (fun _ _ _ h => h) (by rfl) (fun w' => by go_simp; all_goals with_reducible rfl) (by simp only [Act.put, List.setIfInBounds_toArray, List.set_cons_zero, List.set_cons_succ]; rfl) ?_
              refine pu_ 3 75 rfl rfl (by kernel_rfl) (fun _ _ _ h => h) (by rfl) (fun w' => by go_simp; all_goals with_reducible rfl) (by simp only [Act.put, List.setIfInBounds_toArray, List.set_cons_zero, List.set_cons_succ]; rfl) ?_
              refine tk_ 4 76 hHeld rfl rfl (by kernel_rfl) (fun _ _ _ h => h) (by rfl) (fun w' hS' => by
                have q0 := pw_cell_below hS' f0
                have q1 := pw_cell_below hS' f1
                have q2 := pw_cell_below hS' f2
                go_simp
                all_goals with_reducible rfl) (by simp only [Act.put, List.setIfInBounds_toArray, List.set_cons_zero, List.set_cons_succ]; rfl) ?_
              refine pu_ 5 77 rfl rfl (by kernel_rfl) (fun _ _ _ h => h) (by rfl) (fun w' => by go_simp; all_goals with_reducible rfl) (by simp only [Act.put, List.setIfInBounds_toArray, List.set_cons_zero, List.set_cons_succ]; rfl) ?_
              refine pu_ 6 78 rfl rfl (by kernel_rfl) (fun _ _ _ h => h) (by rfl) (fun w' => by go_simp; all_goals with_reducible rfl) (by simp only [Act.put, List.setIfInBounds_toArray, List.set_cons_zero, List.set_cons_succ]; rfl) ?_
              refine tk_ 7 79 hHeld rfl rfl (by kernel_rfl) (fun _ _ _ h => h) (by rfl) (fun w' hS' => by
                have c0 := pw_cell_below hS' HC0.out.1
                have c1 := pw_cell_below hS' HC0.out.2
                go_simp
                all_goals with_reducible rfl) (by simp only [Act.put, List.setIfInBounds_toArray, List.set_cons_zero, List.set_cons_succ]; rfl) ?_
              refine cl_ 8 80 Try.func46 hHeld (rHasV_any _ (Kd.C_below HRs.out hHeld) HMf.out (HCm.out m) HX.out) rfl rfl (by kernel_rfl) (by decide) (by kernel_rfl) rfl (by rfl) rfl (by first | rfl | (simp only [List.map_toArray, List.map_cons, List.map_nil]; rfl)) (by simp only [Act.put, List.setIfInBounds_toArray, List.set_cons_zero, List.set_cons_succ]; rfl) (fun w7 hb7 hHeld => ?_)
              refine pu_ 9 81 rfl rfl (by kernel_rfl) (fun _ _ _ h => h) (by rfl) (fun w' => by go_simp; all_goals with_reducible rfl) (by simp only [Act.put, List.setIfInBounds_toArray, List.set_cons_zero, List.set_cons_succ]; rfl) ?_
              refine done_ (by kernel_rfl) ?_
              have HB5 := Aside0.mk (below_then HBs.out HBs.out.size hHeld)
              clear hHeld f0 f1 f2 hb7
              go_wp2_with fail
              go_ret2
              exact ⟨by rw [HV.out, HVx.out, HMf.out, HPf.out]; rfl, below_then HB3.out HB3.out.size HB5.out⟩
        · obtain rfl : m = 4 := by omega
          have HVx := Aside0.mk (cn_none HJ.out)
          go_wp2_with fail
          go_ret2
          exact ⟨by rw [HV.out, HVx.out, HMf.out, HPf.out]; rfl, below_then HB3.out HB3.out.size HBs.out⟩
end Go.Proofs.Ytmednnpmkhgfpaa.SH
