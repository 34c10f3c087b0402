/- What furlonglaw4.ShapeMeets answers: yes. -/
import Derived.Test.YtmednnpmkhgfpaaShAw
import Derived.Test.YtmednnpmkhgfpaaGeoR
namespace Go.Proofs.Ytmednnpmkhgfpaa.SH
open Go Go.RowKit Go.Proofs.YtmednnpmkhgfpaaW.PrintWords Go.Proofs.YtmednnpmkhgfpaaW.PrintLast Go.Proofs.YtmednnpmkhgfpaaW.PrintMore Go.Proofs.Ytmednnpmkhgfpaa.PShapes Go.Proofs.Ytmednnpmkhgfpaa.Geo
open Go.Proofs.Ytmednnpmkhgfpaa.GW (rWithin_any rMeet_any)
set_option linter.unusedVariables false
set_option linter.unusedSimpArgs false
attribute [local go_sem high] eqA23 eqA30

theorem Box_lit (f : Ft) (A : Option Addr) (c : Nat) (w : World) (h : RC w A f.rings) :
    Calls Try.prog 17 #[.agg #[.int .i64 f.id, .int .i64 f.shape, .slice A f.rings.length c]] w fun e w' => e = .returned (.tuple #[.agg #[.int .i64 (boxV f).x0, .int .i64 (boxV f).y0, .int .i64 (boxV f).x1, .int .i64 (boxV f).y1], .int .i64 (okE (mayB f))]) ∧ Below w.heap.size w w' := Box_any f A c w h
theorem atB_is (p : S23) : bxMay (atB p) = ptP p := by
  unfold bxMay atB ptP
  dsimp only
  rw [Bool.eq_iff_iff, boxB_iff, ptB_iff]
  omega
theorem okE_tt : okE (true && true) = 0 := rfl
theorem okE_tf : okE (true && false) = 400 := rfl
theorem okE_xf (b : Bool) : okE (false && b) = 400 := rfl
theorem okE_t : okE true = 0 := rfl
theorem okE_f : okE false = 400 := rfl
set_option maxHeartbeats 8000000 in
set_option maxRecDepth 100000 in
theorem meets_law (f : Ft) (A : Option Addr) (c : Nat) (p : S23) (b : Bx) (w : World) (h : RC w A f.rings) : Calls Try.prog 6 #[.agg #[.int .i64 f.id, .int .i64 f.shape, .slice A f.rings.length c], .agg #[.int .i64 p.f0, .int .i64 p.f1], .agg #[.int .i64 b.x0, .int .i64 b.y0, .int .i64 b.x1, .int .i64 b.y1]] w fun e w' => e = .returned (.bool true) ∧ Below w.heap.size w w' := by
  have h0 := blk_alloc (blk_alloc (blk_new w (.cells #[.int .i64 f.id, .int .i64 f.shape, .slice A f.rings.length c] 27)) (.cells #[.int .i64 p.f0, .int .i64 p.f1] 23)) (.cells #[.int .i64 b.x0, .int .i64 b.y0, .int .i64 b.x1, .int .i64 b.y1] 30)
  have h1 := blk_alloc (blk_new (w.alloc (.cells #[.int .i64 f.id, .int .i64 f.shape, .slice A f.rings.length c] 27)) (.cells #[.int .i64 p.f0, .int .i64 p.f1] 23)) (.cells #[.int .i64 b.x0, .int .i64 b.y0, .int .i64 b.x1, .int .i64 b.y1] 30)
  have h2 := blk_new ((w.alloc (.cells #[.int .i64 f.id, .int .i64 f.shape, .slice A f.rings.length c] 27)).alloc (.cells #[.int .i64 p.f0, .int .i64 p.f1] 23)) (.cells #[.int .i64 b.x0, .int .i64 b.y0, .int .i64 b.x1, .int .i64 b.y1] 30)
  simp only [World.size_alloc] at h1 h2
  have hB := below_alloc (below_alloc (below_alloc (Below.refl w.heap.size w) (.cells #[.int .i64 f.id, .int .i64 f.shape, .slice A f.rings.length c] 27)) (.cells #[.int .i64 p.f0, .int .i64 p.f1] 23)) (.cells #[.int .i64 b.x0, .int .i64 b.y0, .int .i64 b.x1, .int .i64 b.y1] 30)
  have HR := Aside0.mk (Kd.C_below h hB)
  clear h
  go_enter Try.func6, Try.ntmps6
  go_wp2_with fail
  refine (awake_any _).mono ?_
  rintro e w1 ⟨rfl, hb⟩
  have H0 := Aside0.mk (blk_below h0 hb)
  have H1 := Aside0.mk (blk_below h1 hb)
  have H2 := Aside0.mk (blk_below h2 hb)
  have HB := Aside0.mk (below_then hB hB.size hb)
  replace HR := Aside0.mk (Kd.C_below HR.out hb)
  clear hb h0 h1 h2 hB
  have f0 : w1.cell? ⟨w.heap.size, 0, none⟩ = some (.int .i64 f.id) := (blk_cell H0.out 0).trans rfl
  have f1 : w1.cell? ⟨w.heap.size, 1, none⟩ = some (.int .i64 f.shape) := (blk_cell H0.out 1).trans rfl
  have f2 : w1.cell? ⟨w.heap.size, 2, none⟩ = some (.slice A f.rings.length c) := (blk_cell H0.out 2).trans rfl
  have p0 : w1.cell? ⟨w.heap.size + 1, 0, none⟩ = some (.int .i64 p.f0) := (blk_cell H1.out 0).trans rfl
  have p1 : w1.cell? ⟨w.heap.size + 1, 1, none⟩ = some (.int .i64 p.f1) := (blk_cell H1.out 1).trans rfl
  go_wp2_with fail
  clear f0 f1 f2 p0 p1
  refine (Has_any f A c p w1 HR.out).mono ?_
  rintro e w2 ⟨rfl, hb⟩
  replace H0 := Aside0.mk (blk_below H0.out hb)
  replace H1 := Aside0.mk (blk_below H1.out hb)
  replace H2 := Aside0.mk (blk_below H2.out hb)
  replace HB := Aside0.mk (below_then HB.out HB.out.size hb)
  replace HR := Aside0.mk (Kd.C_below HR.out hb)
  clear hb
  have f0 : w2.cell? ⟨w.heap.size, 0, none⟩ = some (.int .i64 f.id) := (blk_cell H0.out 0).trans rfl
  have f1 : w2.cell? ⟨w.heap.size, 1, none⟩ = some (.int .i64 f.shape) := (blk_cell H0.out 1).trans rfl
  have f2 : w2.cell? ⟨w.heap.size, 2, none⟩ = some (.slice A f.rings.length c) := (blk_cell H0.out 2).trans rfl
  have p0 : w2.cell? ⟨w.heap.size + 1, 0, none⟩ = some (.int .i64 p.f0) := (blk_cell H1.out 0).trans rfl
  have p1 : w2.cell? ⟨w.heap.size + 1, 1, none⟩ = some (.int .i64 p.f1) := (blk_cell H1.out 1).trans rfl
  go_wp2_with fail
  clear f0 f1 f2 p0 p1
  refine (Meets_any f A c (atB p) w2 HR.out).mono ?_
  rintro e w3 ⟨rfl, hb⟩
  replace H0 := Aside0.mk (blk_below H0.out hb)
  replace H1 := Aside0.mk (blk_below H1.out hb)
  replace H2 := Aside0.mk (blk_below H2.out hb)
  replace HB := Aside0.mk (below_then HB.out HB.out.size hb)
  replace HR := Aside0.mk (Kd.C_below HR.out hb)
  clear hb
  rw [atB_is p]
  have f0 : w3.cell? ⟨w.heap.size, 0, none⟩ = some (.int .i64 f.id) := (blk_cell H0.out 0).trans rfl
  have f1 : w3.cell? ⟨w.heap.size, 1, none⟩ = some (.int .i64 f.shape) := (blk_cell H0.out 1).trans rfl
  have f2 : w3.cell? ⟨w.heap.size, 2, none⟩ = some (.slice A f.rings.length c) := (blk_cell H0.out 2).trans rfl
  have b0 : w3.cell? ⟨w.heap.size + 1 + 1, 0, none⟩ = some (.int .i64 b.x0) := (blk_cell H2.out 0).trans rfl
  have b1 : w3.cell? ⟨w.heap.size + 1 + 1, 1, none⟩ = some (.int .i64 b.y0) := (blk_cell H2.out 1).trans rfl
  have b2 : w3.cell? ⟨w.heap.size + 1 + 1, 2, none⟩ = some (.int .i64 b.x1) := (blk_cell H2.out 2).trans rfl
  have b3 : w3.cell? ⟨w.heap.size + 1 + 1, 3, none⟩ = some (.int .i64 b.y1) := (blk_cell H2.out 3).trans rfl
  go_wp2_with fail
  clear f0 f1 f2 b0 b1 b2 b3
  refine (Meets_any f A c b w3 HR.out).mono ?_
  rintro e w4 ⟨rfl, hb⟩
  replace H0 := Aside0.mk (blk_below H0.out hb)
  replace H1 := Aside0.mk (blk_below H1.out hb)
  replace H2 := Aside0.mk (blk_below H2.out hb)
  replace HB := Aside0.mk (below_then HB.out HB.out.size hb)
  replace HR := Aside0.mk (Kd.C_below HR.out hb)
  clear hb
  have f0 : w4.cell? ⟨w.heap.size, 0, none⟩ = some (.int .i64 f.id) := (blk_cell H0.out 0).trans rfl
  have f1 : w4.cell? ⟨w.heap.size, 1, none⟩ = some (.int .i64 f.shape) := (blk_cell H0.out 1).trans rfl
  have f2 : w4.cell? ⟨w.heap.size, 2, none⟩ = some (.slice A f.rings.length c) := (blk_cell H0.out 2).trans rfl
  go_wp2_with fail
  clear f0 f1 f2
  refine (Box_lit f A c w4 HR.out).mono ?_
  rintro e w5 ⟨rfl, hb⟩
  replace H0 := Aside0.mk (blk_below H0.out hb)
  replace H1 := Aside0.mk (blk_below H1.out hb)
  replace H2 := Aside0.mk (blk_below H2.out hb)
  replace HB := Aside0.mk (below_then HB.out HB.out.size hb)
  replace HR := Aside0.mk (Kd.C_below HR.out hb)
  clear hb
  have hR3 : meetsV f (atB p) = hasV f p := by
    unfold meetsV hasV
    rw [atB_is]
    cases hm : mayB f
    · rfl
    · cases hp : ptP p
      · rfl
      · rw [meets_point hm hp]
  have hRs : ((mayB f = false → hasV f p = false ∧ meetsV f b = false) ∧ (ptP p = false → hasV f p = false) ∧ (bxMay b = false → meetsV f b = false) ∧ (meetsV f b = true → meetB (boxV f).x0 (boxV f).y0 (boxV f).x1 (boxV f).y1 b.x0 b.y0 b.x1 b.y1 = true) ∧ (hasV f p = true → withinB p.f0 p.f1 b.x0 b.y0 b.x1 b.y1 = true → meetsV f b = true)) := by
    refine ⟨fun e => ?_, fun e => ?_, fun e => ?_, fun e => ?_, fun e hw => ?_⟩
    · unfold hasV meetsV; rw [e]; exact ⟨rfl, rfl⟩
    · unfold hasV; rw [e, Bool.and_false]; rfl
    · unfold meetsV; rw [e, Bool.and_false]; rfl
    · unfold meetsV at e
      rw [Bool.and_eq_true, Bool.and_eq_true] at e
      exact meets_box e.1.1 e.1.2 e.2
    · unfold hasV at e
      rw [Bool.and_eq_true, Bool.and_eq_true] at e
      have hb : bxMay b = true := by
        unfold withinB at hw
        simp only [Bool.and_eq_true] at hw
        exact hw.1.1.1.1.2
      unfold meetsV
      rw [e.1.1, hb]
      exact has_meets e.1.1 hb hw e.2
  rw [hR3]
  have HRs := Aside0.mk hRs
  obtain ⟨mt, hmt⟩ : ∃ mt, meetB (boxV f).x0 (boxV f).y0 (boxV f).x1 (boxV f).y1 b.x0 b.y0 b.x1 b.y1 = mt := ⟨_, rfl⟩
  obtain ⟨wv, hwv⟩ : ∃ wv, withinB p.f0 p.f1 b.x0 b.y0 b.x1 b.y1 = wv := ⟨_, rfl⟩
  have HMt := Aside0.mk hmt
  have HWv := Aside0.mk hwv
  rw [hmt, hwv] at HRs
  clear hRs hR3 hmt hwv
  generalize boxV f = x at *
  generalize hasV f p = hv at *
  generalize meetsV f b = mv at *
  generalize mayB f = mf at *
  generalize ptP p = pp at *
  generalize bxMay b = bb at *
  have HX := Aside0.mk (blk_new w5 (.cells #[.int .i64 x.x0, .int .i64 x.y0, .int .i64 x.x1, .int .i64 x.y1] 30))
  replace H1 := Aside0.mk (blk_alloc H1.out (.cells #[.int .i64 x.x0, .int .i64 x.y0, .int .i64 x.x1, .int .i64 x.y1] 30))
  replace H2 := Aside0.mk (blk_alloc H2.out (.cells #[.int .i64 x.x0, .int .i64 x.y0, .int .i64 x.x1, .int .i64 x.y1] 30))
  replace HB := Aside0.mk (below_alloc HB.out (.cells #[.int .i64 x.x0, .int .i64 x.y0, .int .i64 x.x1, .int .i64 x.y1] 30))
  clear H0 HR
  go_upto_region 7 with (fail)
  generalize w5.alloc (.cells #[.int .i64 x.x0, .int .i64 x.y0, .int .i64 x.x1, .int .i64 x.y1] 30) = V at *
  generalize w5.heap.size = xb at *
  have x0 : V.cell? ⟨xb, 0, none⟩ = some (.int .i64 x.x0) := (blk_cell HX.out 0).trans rfl
  have x1 : V.cell? ⟨xb, 1, none⟩ = some (.int .i64 x.y0) := (blk_cell HX.out 1).trans rfl
  have x2 : V.cell? ⟨xb, 2, none⟩ = some (.int .i64 x.x1) := (blk_cell HX.out 2).trans rfl
  have x3 : V.cell? ⟨xb, 3, none⟩ = some (.int .i64 x.y1) := (blk_cell HX.out 3).trans rfl
  have b0 : V.cell? ⟨w.heap.size + 1 + 1, 0, none⟩ = some (.int .i64 b.x0) := (blk_cell H2.out 0).trans rfl
  have b1 : V.cell? ⟨w.heap.size + 1 + 1, 1, none⟩ = some (.int .i64 b.y0) := (blk_cell H2.out 1).trans rfl
  have b2 : V.cell? ⟨w.heap.size + 1 + 1, 2, none⟩ = some (.int .i64 b.x1) := (blk_cell H2.out 2).trans rfl
  have b3 : V.cell? ⟨w.heap.size + 1 + 1, 3, none⟩ = some (.int .i64 b.y1) := (blk_cell H2.out 3).trans rfl
  have p0 : V.cell? ⟨w.heap.size + 1, 0, none⟩ = some (.int .i64 p.f0) := (blk_cell H1.out 0).trans rfl
  have p1 : V.cell? ⟨w.heap.size + 1, 1, none⟩ = some (.int .i64 p.f1) := (blk_cell H1.out 1).trans rfl
  clear HX
  cases mf
  · obtain ⟨rfl, rfl⟩ := HRs.out.1 rfl
    clear HRs
    simp only [okE_tt, okE_tf, okE_f, okE_t, okE_xf]
    go_wp2_with (first
      | (go_at_call 13; refine (num_any _ _).mono ?_; rintro e w' ⟨rfl, rfl⟩)
      | (go_at_call 25; refine (rMeet_any x.x0 x.y0 x.x1 x.y1 b.x0 b.y0 b.x1 b.y1 _).mono ?_; rintro e w7 ⟨rfl, hb7⟩; rw [HMt.out]; have HB7 := Aside0.mk (below_then HB.out HB.out.size hb7); have g0 : w7.cell? ⟨w.heap.size + 1 + 1, 0, none⟩ = some (.int .i64 b.x0) := (blk_cell (blk_below H2.out hb7) 0).trans rfl; have g1 : w7.cell? ⟨w.heap.size + 1 + 1, 1, none⟩ = some (.int .i64 b.y0) := (blk_cell (blk_below H2.out hb7) 1).trans rfl; have g2 : w7.cell? ⟨w.heap.size + 1 + 1, 2, none⟩ = some (.int .i64 b.x1) := (blk_cell (blk_below H2.out hb7) 2).trans rfl; have g3 : w7.cell? ⟨w.heap.size + 1 + 1, 3, none⟩ = some (.int .i64 b.y1) := (blk_cell (blk_below H2.out hb7) 3).trans rfl; have r0 : w7.cell? ⟨w.heap.size + 1, 0, none⟩ = some (.int .i64 p.f0) := (blk_cell (blk_below H1.out hb7) 0).trans rfl; have r1 : w7.cell? ⟨w.heap.size + 1, 1, none⟩ = some (.int .i64 p.f1) := (blk_cell (blk_below H1.out hb7) 1).trans rfl; clear hb7)
      | (go_at_call 26; refine (rWithin_any p.f0 p.f1 b.x0 b.y0 b.x1 b.y1 _).mono ?_; rintro e w8 ⟨rfl, hb8⟩; rw [HWv.out]; have HB8 := Aside0.mk hb8; clear hb8))
    go_ret
    first
      | exact ⟨rfl, HB.out⟩
      | exact ⟨rfl, HB7.out⟩
      | exact ⟨rfl, below_then HB7.out HB7.out.size HB8.out⟩
      | exact ⟨rfl, below_then HB.out HB.out.size HB8.out⟩
  cases bb
  · obtain rfl := HRs.out.2.2.1 rfl
    cases pp
    · obtain rfl := HRs.out.2.1 rfl
      clear HRs
      simp only [okE_tt, okE_tf, okE_f, okE_t, okE_xf]
      go_wp2_with (first
        | (go_at_call 13; refine (num_any _ _).mono ?_; rintro e w' ⟨rfl, rfl⟩)
        | (go_at_call 25; refine (rMeet_any x.x0 x.y0 x.x1 x.y1 b.x0 b.y0 b.x1 b.y1 _).mono ?_; rintro e w7 ⟨rfl, hb7⟩; rw [HMt.out]; have HB7 := Aside0.mk (below_then HB.out HB.out.size hb7); have g0 : w7.cell? ⟨w.heap.size + 1 + 1, 0, none⟩ = some (.int .i64 b.x0) := (blk_cell (blk_below H2.out hb7) 0).trans rfl; have g1 : w7.cell? ⟨w.heap.size + 1 + 1, 1, none⟩ = some (.int .i64 b.y0) := (blk_cell (blk_below H2.out hb7) 1).trans rfl; have g2 : w7.cell? ⟨w.heap.size + 1 + 1, 2, none⟩ = some (.int .i64 b.x1) := (blk_cell (blk_below H2.out hb7) 2).trans rfl; have g3 : w7.cell? ⟨w.heap.size + 1 + 1, 3, none⟩ = some (.int .i64 b.y1) := (blk_cell (blk_below H2.out hb7) 3).trans rfl; have r0 : w7.cell? ⟨w.heap.size + 1, 0, none⟩ = some (.int .i64 p.f0) := (blk_cell (blk_below H1.out hb7) 0).trans rfl; have r1 : w7.cell? ⟨w.heap.size + 1, 1, none⟩ = some (.int .i64 p.f1) := (blk_cell (blk_below H1.out hb7) 1).trans rfl; clear hb7)
        | (go_at_call 26; refine (rWithin_any p.f0 p.f1 b.x0 b.y0 b.x1 b.y1 _).mono ?_; rintro e w8 ⟨rfl, hb8⟩; rw [HWv.out]; have HB8 := Aside0.mk hb8; clear hb8))
      go_ret
      first
        | exact ⟨rfl, HB.out⟩
        | exact ⟨rfl, HB7.out⟩
        | exact ⟨rfl, below_then HB7.out HB7.out.size HB8.out⟩
        | exact ⟨rfl, below_then HB.out HB.out.size HB8.out⟩
    · clear HRs
      simp only [okE_tt, okE_tf, okE_f, okE_t, okE_xf]
      cases hv
      · go_wp2_with (first
          | (go_at_call 13; refine (num_any _ _).mono ?_; rintro e w' ⟨rfl, rfl⟩)
          | (go_at_call 25; refine (rMeet_any x.x0 x.y0 x.x1 x.y1 b.x0 b.y0 b.x1 b.y1 _).mono ?_; rintro e w7 ⟨rfl, hb7⟩; rw [HMt.out]; have HB7 := Aside0.mk (below_then HB.out HB.out.size hb7); have g0 : w7.cell? ⟨w.heap.size + 1 + 1, 0, none⟩ = some (.int .i64 b.x0) := (blk_cell (blk_below H2.out hb7) 0).trans rfl; have g1 : w7.cell? ⟨w.heap.size + 1 + 1, 1, none⟩ = some (.int .i64 b.y0) := (blk_cell (blk_below H2.out hb7) 1).trans rfl; have g2 : w7.cell? ⟨w.heap.size + 1 + 1, 2, none⟩ = some (.int .i64 b.x1) := (blk_cell (blk_below H2.out hb7) 2).trans rfl; have g3 : w7.cell? ⟨w.heap.size + 1 + 1, 3, none⟩ = some (.int .i64 b.y1) := (blk_cell (blk_below H2.out hb7) 3).trans rfl; have r0 : w7.cell? ⟨w.heap.size + 1, 0, none⟩ = some (.int .i64 p.f0) := (blk_cell (blk_below H1.out hb7) 0).trans rfl; have r1 : w7.cell? ⟨w.heap.size + 1, 1, none⟩ = some (.int .i64 p.f1) := (blk_cell (blk_below H1.out hb7) 1).trans rfl; clear hb7)
          | (go_at_call 26; refine (rWithin_any p.f0 p.f1 b.x0 b.y0 b.x1 b.y1 _).mono ?_; rintro e w8 ⟨rfl, hb8⟩; rw [HWv.out]; have HB8 := Aside0.mk hb8; clear hb8))
        go_ret
        first
          | exact ⟨rfl, HB.out⟩
          | exact ⟨rfl, HB7.out⟩
          | exact ⟨rfl, below_then HB7.out HB7.out.size HB8.out⟩
          | exact ⟨rfl, below_then HB.out HB.out.size HB8.out⟩
      · go_wp2_with (first
          | (go_at_call 13; refine (num_any _ _).mono ?_; rintro e w' ⟨rfl, rfl⟩)
          | (go_at_call 25; refine (rMeet_any x.x0 x.y0 x.x1 x.y1 b.x0 b.y0 b.x1 b.y1 _).mono ?_; rintro e w7 ⟨rfl, hb7⟩; rw [HMt.out]; have HB7 := Aside0.mk (below_then HB.out HB.out.size hb7); have g0 : w7.cell? ⟨w.heap.size + 1 + 1, 0, none⟩ = some (.int .i64 b.x0) := (blk_cell (blk_below H2.out hb7) 0).trans rfl; have g1 : w7.cell? ⟨w.heap.size + 1 + 1, 1, none⟩ = some (.int .i64 b.y0) := (blk_cell (blk_below H2.out hb7) 1).trans rfl; have g2 : w7.cell? ⟨w.heap.size + 1 + 1, 2, none⟩ = some (.int .i64 b.x1) := (blk_cell (blk_below H2.out hb7) 2).trans rfl; have g3 : w7.cell? ⟨w.heap.size + 1 + 1, 3, none⟩ = some (.int .i64 b.y1) := (blk_cell (blk_below H2.out hb7) 3).trans rfl; have r0 : w7.cell? ⟨w.heap.size + 1, 0, none⟩ = some (.int .i64 p.f0) := (blk_cell (blk_below H1.out hb7) 0).trans rfl; have r1 : w7.cell? ⟨w.heap.size + 1, 1, none⟩ = some (.int .i64 p.f1) := (blk_cell (blk_below H1.out hb7) 1).trans rfl; clear hb7)
          | (go_at_call 26; refine (rWithin_any p.f0 p.f1 b.x0 b.y0 b.x1 b.y1 _).mono ?_; rintro e w8 ⟨rfl, hb8⟩; rw [HWv.out]; have HB8 := Aside0.mk hb8; clear hb8))
        go_ret
        first
          | exact ⟨rfl, HB.out⟩
          | exact ⟨rfl, HB7.out⟩
          | exact ⟨rfl, below_then HB7.out HB7.out.size HB8.out⟩
          | exact ⟨rfl, below_then HB.out HB.out.size HB8.out⟩
  cases mv
  · cases pp
    · obtain rfl := HRs.out.2.1 rfl
      clear HRs
      simp only [okE_tt, okE_tf, okE_f, okE_t, okE_xf]
      go_wp2_with (first
        | (go_at_call 13; refine (num_any _ _).mono ?_; rintro e w' ⟨rfl, rfl⟩)
        | (go_at_call 25; refine (rMeet_any x.x0 x.y0 x.x1 x.y1 b.x0 b.y0 b.x1 b.y1 _).mono ?_; rintro e w7 ⟨rfl, hb7⟩; rw [HMt.out]; have HB7 := Aside0.mk (below_then HB.out HB.out.size hb7); have g0 : w7.cell? ⟨w.heap.size + 1 + 1, 0, none⟩ = some (.int .i64 b.x0) := (blk_cell (blk_below H2.out hb7) 0).trans rfl; have g1 : w7.cell? ⟨w.heap.size + 1 + 1, 1, none⟩ = some (.int .i64 b.y0) := (blk_cell (blk_below H2.out hb7) 1).trans rfl; have g2 : w7.cell? ⟨w.heap.size + 1 + 1, 2, none⟩ = some (.int .i64 b.x1) := (blk_cell (blk_below H2.out hb7) 2).trans rfl; have g3 : w7.cell? ⟨w.heap.size + 1 + 1, 3, none⟩ = some (.int .i64 b.y1) := (blk_cell (blk_below H2.out hb7) 3).trans rfl; have r0 : w7.cell? ⟨w.heap.size + 1, 0, none⟩ = some (.int .i64 p.f0) := (blk_cell (blk_below H1.out hb7) 0).trans rfl; have r1 : w7.cell? ⟨w.heap.size + 1, 1, none⟩ = some (.int .i64 p.f1) := (blk_cell (blk_below H1.out hb7) 1).trans rfl; clear hb7)
        | (go_at_call 26; refine (rWithin_any p.f0 p.f1 b.x0 b.y0 b.x1 b.y1 _).mono ?_; rintro e w8 ⟨rfl, hb8⟩; rw [HWv.out]; have HB8 := Aside0.mk hb8; clear hb8))
      go_ret
      first
        | exact ⟨rfl, HB.out⟩
        | exact ⟨rfl, HB7.out⟩
        | exact ⟨rfl, below_then HB7.out HB7.out.size HB8.out⟩
        | exact ⟨rfl, below_then HB.out HB.out.size HB8.out⟩
    · simp only [okE_tt, okE_tf, okE_f, okE_t, okE_xf]
      cases hv
      · clear HRs
        go_wp2_with (first
          | (go_at_call 13; refine (num_any _ _).mono ?_; rintro e w' ⟨rfl, rfl⟩)
          | (go_at_call 25; refine (rMeet_any x.x0 x.y0 x.x1 x.y1 b.x0 b.y0 b.x1 b.y1 _).mono ?_; rintro e w7 ⟨rfl, hb7⟩; rw [HMt.out]; have HB7 := Aside0.mk (below_then HB.out HB.out.size hb7); have g0 : w7.cell? ⟨w.heap.size + 1 + 1, 0, none⟩ = some (.int .i64 b.x0) := (blk_cell (blk_below H2.out hb7) 0).trans rfl; have g1 : w7.cell? ⟨w.heap.size + 1 + 1, 1, none⟩ = some (.int .i64 b.y0) := (blk_cell (blk_below H2.out hb7) 1).trans rfl; have g2 : w7.cell? ⟨w.heap.size + 1 + 1, 2, none⟩ = some (.int .i64 b.x1) := (blk_cell (blk_below H2.out hb7) 2).trans rfl; have g3 : w7.cell? ⟨w.heap.size + 1 + 1, 3, none⟩ = some (.int .i64 b.y1) := (blk_cell (blk_below H2.out hb7) 3).trans rfl; have r0 : w7.cell? ⟨w.heap.size + 1, 0, none⟩ = some (.int .i64 p.f0) := (blk_cell (blk_below H1.out hb7) 0).trans rfl; have r1 : w7.cell? ⟨w.heap.size + 1, 1, none⟩ = some (.int .i64 p.f1) := (blk_cell (blk_below H1.out hb7) 1).trans rfl; clear hb7)
          | (go_at_call 26; refine (rWithin_any p.f0 p.f1 b.x0 b.y0 b.x1 b.y1 _).mono ?_; rintro e w8 ⟨rfl, hb8⟩; rw [HWv.out]; have HB8 := Aside0.mk hb8; clear hb8))
        go_ret
        first
          | exact ⟨rfl, HB.out⟩
          | exact ⟨rfl, HB7.out⟩
          | exact ⟨rfl, below_then HB7.out HB7.out.size HB8.out⟩
          | exact ⟨rfl, below_then HB.out HB.out.size HB8.out⟩
      · cases wv
        · clear HRs
          go_wp2_with (first
            | (go_at_call 13; refine (num_any _ _).mono ?_; rintro e w' ⟨rfl, rfl⟩)
            | (go_at_call 25; refine (rMeet_any x.x0 x.y0 x.x1 x.y1 b.x0 b.y0 b.x1 b.y1 _).mono ?_; rintro e w7 ⟨rfl, hb7⟩; rw [HMt.out]; have HB7 := Aside0.mk (below_then HB.out HB.out.size hb7); have g0 : w7.cell? ⟨w.heap.size + 1 + 1, 0, none⟩ = some (.int .i64 b.x0) := (blk_cell (blk_below H2.out hb7) 0).trans rfl; have g1 : w7.cell? ⟨w.heap.size + 1 + 1, 1, none⟩ = some (.int .i64 b.y0) := (blk_cell (blk_below H2.out hb7) 1).trans rfl; have g2 : w7.cell? ⟨w.heap.size + 1 + 1, 2, none⟩ = some (.int .i64 b.x1) := (blk_cell (blk_below H2.out hb7) 2).trans rfl; have g3 : w7.cell? ⟨w.heap.size + 1 + 1, 3, none⟩ = some (.int .i64 b.y1) := (blk_cell (blk_below H2.out hb7) 3).trans rfl; have r0 : w7.cell? ⟨w.heap.size + 1, 0, none⟩ = some (.int .i64 p.f0) := (blk_cell (blk_below H1.out hb7) 0).trans rfl; have r1 : w7.cell? ⟨w.heap.size + 1, 1, none⟩ = some (.int .i64 p.f1) := (blk_cell (blk_below H1.out hb7) 1).trans rfl; clear hb7)
            | (go_at_call 26; refine (rWithin_any p.f0 p.f1 b.x0 b.y0 b.x1 b.y1 _).mono ?_; rintro e w8 ⟨rfl, hb8⟩; rw [HWv.out]; have HB8 := Aside0.mk hb8; clear hb8))
          go_ret
          first
            | exact ⟨rfl, HB.out⟩
            | exact ⟨rfl, HB7.out⟩
            | exact ⟨rfl, below_then HB7.out HB7.out.size HB8.out⟩
            | exact ⟨rfl, below_then HB.out HB.out.size HB8.out⟩
        · exact absurd (HRs.out.2.2.2.2 rfl rfl) (by simp)
  obtain rfl := HRs.out.2.2.2.1 rfl
  cases pp
  · obtain rfl := HRs.out.2.1 rfl
    clear HRs
    simp only [okE_tt, okE_tf, okE_f, okE_t, okE_xf]
    go_wp2_with (first
      | (go_at_call 13; refine (num_any _ _).mono ?_; rintro e w' ⟨rfl, rfl⟩)
      | (go_at_call 25; refine (rMeet_any x.x0 x.y0 x.x1 x.y1 b.x0 b.y0 b.x1 b.y1 _).mono ?_; rintro e w7 ⟨rfl, hb7⟩; rw [HMt.out]; have HB7 := Aside0.mk (below_then HB.out HB.out.size hb7); have g0 : w7.cell? ⟨w.heap.size + 1 + 1, 0, none⟩ = some (.int .i64 b.x0) := (blk_cell (blk_below H2.out hb7) 0).trans rfl; have g1 : w7.cell? ⟨w.heap.size + 1 + 1, 1, none⟩ = some (.int .i64 b.y0) := (blk_cell (blk_below H2.out hb7) 1).trans rfl; have g2 : w7.cell? ⟨w.heap.size + 1 + 1, 2, none⟩ = some (.int .i64 b.x1) := (blk_cell (blk_below H2.out hb7) 2).trans rfl; have g3 : w7.cell? ⟨w.heap.size + 1 + 1, 3, none⟩ = some (.int .i64 b.y1) := (blk_cell (blk_below H2.out hb7) 3).trans rfl; have r0 : w7.cell? ⟨w.heap.size + 1, 0, none⟩ = some (.int .i64 p.f0) := (blk_cell (blk_below H1.out hb7) 0).trans rfl; have r1 : w7.cell? ⟨w.heap.size + 1, 1, none⟩ = some (.int .i64 p.f1) := (blk_cell (blk_below H1.out hb7) 1).trans rfl; clear hb7)
      | (go_at_call 26; refine (rWithin_any p.f0 p.f1 b.x0 b.y0 b.x1 b.y1 _).mono ?_; rintro e w8 ⟨rfl, hb8⟩; rw [HWv.out]; have HB8 := Aside0.mk hb8; clear hb8))
    go_ret
    first
      | exact ⟨rfl, HB.out⟩
      | exact ⟨rfl, HB7.out⟩
      | exact ⟨rfl, below_then HB7.out HB7.out.size HB8.out⟩
      | exact ⟨rfl, below_then HB.out HB.out.size HB8.out⟩
  clear HRs
  simp only [okE_tt, okE_tf, okE_f, okE_t, okE_xf]
  cases hv
  · go_wp2_with (first
      | (go_at_call 13; refine (num_any _ _).mono ?_; rintro e w' ⟨rfl, rfl⟩)
      | (go_at_call 25; refine (rMeet_any x.x0 x.y0 x.x1 x.y1 b.x0 b.y0 b.x1 b.y1 _).mono ?_; rintro e w7 ⟨rfl, hb7⟩; rw [HMt.out]; have HB7 := Aside0.mk (below_then HB.out HB.out.size hb7); have g0 : w7.cell? ⟨w.heap.size + 1 + 1, 0, none⟩ = some (.int .i64 b.x0) := (blk_cell (blk_below H2.out hb7) 0).trans rfl; have g1 : w7.cell? ⟨w.heap.size + 1 + 1, 1, none⟩ = some (.int .i64 b.y0) := (blk_cell (blk_below H2.out hb7) 1).trans rfl; have g2 : w7.cell? ⟨w.heap.size + 1 + 1, 2, none⟩ = some (.int .i64 b.x1) := (blk_cell (blk_below H2.out hb7) 2).trans rfl; have g3 : w7.cell? ⟨w.heap.size + 1 + 1, 3, none⟩ = some (.int .i64 b.y1) := (blk_cell (blk_below H2.out hb7) 3).trans rfl; have r0 : w7.cell? ⟨w.heap.size + 1, 0, none⟩ = some (.int .i64 p.f0) := (blk_cell (blk_below H1.out hb7) 0).trans rfl; have r1 : w7.cell? ⟨w.heap.size + 1, 1, none⟩ = some (.int .i64 p.f1) := (blk_cell (blk_below H1.out hb7) 1).trans rfl; clear hb7)
      | (go_at_call 26; refine (rWithin_any p.f0 p.f1 b.x0 b.y0 b.x1 b.y1 _).mono ?_; rintro e w8 ⟨rfl, hb8⟩; rw [HWv.out]; have HB8 := Aside0.mk hb8; clear hb8))
    go_ret
    first
      | exact ⟨rfl, HB.out⟩
      | exact ⟨rfl, HB7.out⟩
      | exact ⟨rfl, below_then HB7.out HB7.out.size HB8.out⟩
      | exact ⟨rfl, below_then HB.out HB.out.size HB8.out⟩
  cases wv
  · go_wp2_with (first
      | (go_at_call 13; refine (num_any _ _).mono ?_; rintro e w' ⟨rfl, rfl⟩)
      | (go_at_call 25; refine (rMeet_any x.x0 x.y0 x.x1 x.y1 b.x0 b.y0 b.x1 b.y1 _).mono ?_; rintro e w7 ⟨rfl, hb7⟩; rw [HMt.out]; have HB7 := Aside0.mk (below_then HB.out HB.out.size hb7); have g0 : w7.cell? ⟨w.heap.size + 1 + 1, 0, none⟩ = some (.int .i64 b.x0) := (blk_cell (blk_below H2.out hb7) 0).trans rfl; have g1 : w7.cell? ⟨w.heap.size + 1 + 1, 1, none⟩ = some (.int .i64 b.y0) := (blk_cell (blk_below H2.out hb7) 1).trans rfl; have g2 : w7.cell? ⟨w.heap.size + 1 + 1, 2, none⟩ = some (.int .i64 b.x1) := (blk_cell (blk_below H2.out hb7) 2).trans rfl; have g3 : w7.cell? ⟨w.heap.size + 1 + 1, 3, none⟩ = some (.int .i64 b.y1) := (blk_cell (blk_below H2.out hb7) 3).trans rfl; have r0 : w7.cell? ⟨w.heap.size + 1, 0, none⟩ = some (.int .i64 p.f0) := (blk_cell (blk_below H1.out hb7) 0).trans rfl; have r1 : w7.cell? ⟨w.heap.size + 1, 1, none⟩ = some (.int .i64 p.f1) := (blk_cell (blk_below H1.out hb7) 1).trans rfl; clear hb7)
      | (go_at_call 26; refine (rWithin_any p.f0 p.f1 b.x0 b.y0 b.x1 b.y1 _).mono ?_; rintro e w8 ⟨rfl, hb8⟩; rw [HWv.out]; have HB8 := Aside0.mk hb8; clear hb8))
    go_ret
    first
      | exact ⟨rfl, HB.out⟩
      | exact ⟨rfl, HB7.out⟩
      | exact ⟨rfl, below_then HB7.out HB7.out.size HB8.out⟩
      | exact ⟨rfl, below_then HB.out HB.out.size HB8.out⟩
  · go_wp2_with (first
      | (go_at_call 13; refine (num_any _ _).mono ?_; rintro e w' ⟨rfl, rfl⟩)
      | (go_at_call 25; refine (rMeet_any x.x0 x.y0 x.x1 x.y1 b.x0 b.y0 b.x1 b.y1 _).mono ?_; rintro e w7 ⟨rfl, hb7⟩; rw [HMt.out]; have HB7 := Aside0.mk (below_then HB.out HB.out.size hb7); have g0 : w7.cell? ⟨w.heap.size + 1 + 1, 0, none⟩ = some (.int .i64 b.x0) := (blk_cell (blk_below H2.out hb7) 0).trans rfl; have g1 : w7.cell? ⟨w.heap.size + 1 + 1, 1, none⟩ = some (.int .i64 b.y0) := (blk_cell (blk_below H2.out hb7) 1).trans rfl; have g2 : w7.cell? ⟨w.heap.size + 1 + 1, 2, none⟩ = some (.int .i64 b.x1) := (blk_cell (blk_below H2.out hb7) 2).trans rfl; have g3 : w7.cell? ⟨w.heap.size + 1 + 1, 3, none⟩ = some (.int .i64 b.y1) := (blk_cell (blk_below H2.out hb7) 3).trans rfl; have r0 : w7.cell? ⟨w.heap.size + 1, 0, none⟩ = some (.int .i64 p.f0) := (blk_cell (blk_below H1.out hb7) 0).trans rfl; have r1 : w7.cell? ⟨w.heap.size + 1, 1, none⟩ = some (.int .i64 p.f1) := (blk_cell (blk_below H1.out hb7) 1).trans rfl; clear hb7)
      | (go_at_call 26; refine (rWithin_any p.f0 p.f1 b.x0 b.y0 b.x1 b.y1 _).mono ?_; rintro e w8 ⟨rfl, hb8⟩; rw [HWv.out]; have HB8 := Aside0.mk hb8; clear hb8))
    go_ret
    first
      | exact ⟨rfl, HB.out⟩
      | exact ⟨rfl, HB7.out⟩
      | exact ⟨rfl, below_then HB7.out HB7.out.size HB8.out⟩
      | exact ⟨rfl, below_then HB.out HB.out.size HB8.out⟩
end Go.Proofs.Ytmednnpmkhgfpaa.SH
