/- The reference's Box. -/
import Derived.Test.YtmednnpmkhgfpaaShRx
import Derived.Test.YtmednnpmkhgfpaaShW
import Derived.Test.YtmednnpmkhgfpaaShOA
namespace Go.Proofs.Ytmednnpmkhgfpaa.SH
open Go Go.RowKit Go.Proofs.YtmednnpmkhgfpaaW.PrintWords Go.Proofs.YtmednnpmkhgfpaaW.PrintLast Go.Proofs.YtmednnpmkhgfpaaW.PrintMore Go.Proofs.Ytmednnpmkhgfpaa.PShapes Go.Proofs.Ytmednnpmkhgfpaa.Geo
open Go.Proofs.Ytmednnpmkhgfpaa.GW (rAround_any rJoin_any orErr joinIs)
set_option linter.unusedVariables false
set_option linter.unusedSimpArgs false
attribute [local go_sem high] eqA23

theorem rAt_any (q : S23) (w : World) : Calls Try.prog 44 #[.agg #[.int .i64 q.f0, .int .i64 q.f1], .agg #[.int .i64 q.f0, .int .i64 q.f1]] w fun e w' => e = .returned (.agg #[.int .i64 q.f0, .int .i64 q.f1, .int .i64 q.f0, .int .i64 q.f1]) ∧ Below w.heap.size w w' := by
  have h := rAround_any q.f0 q.f1 q.f0 q.f1 w
  rwa [Int.min_self, Int.min_self, Int.max_self, Int.max_self] at h
theorem rJoinP_any (b : Bx) (q : S23) (w : World) : Calls Try.prog 45 #[.agg #[.int .i64 b.x0, .int .i64 b.y0, .int .i64 b.x1, .int .i64 b.y1], .agg #[.int .i64 q.f0, .int .i64 q.f1, .int .i64 q.f0, .int .i64 q.f1]] w fun e w' => e = .returned (.tuple #[.agg #[.int .i64 (joinV b q).x0, .int .i64 (joinV b q).y0, .int .i64 (joinV b q).x1, .int .i64 (joinV b q).y1], .int .i64 (orErr (joinIs b.x0 b.y0 b.x1 b.y1 q.f0 q.f1 q.f0 q.f1) 300)]) ∧ Below w.heap.size w w' :=
  rJoin_any b.x0 b.y0 b.x1 b.y1 q.f0 q.f1 q.f0 q.f1 w
/-- the box so far lies in block s -/
structure BxI (W1 : World) (s : Nat) (b : Bx) (W : World) : Prop where
  box : W.heap[s]? = some (.cells (bxA b) 30 (0, 0))
  low : Below W1.heap.size W1 W
set_option maxHeartbeats 8000000 in
set_option maxRecDepth 100000 in
theorem rBox_any (f : Ft) (A : Option Addr) (c : Nat) (w : World) (h : RC w A f.rings) :
    Calls Try.prog 18 #[.agg #[.int .i64 f.id, .int .i64 f.shape, .slice A f.rings.length c]] w fun e w' => e = .returned (.tuple #[.agg (bxA (boxV f)), .int .i64 (okE (mayB f))]) ∧ Below w.heap.size w w' := by
  have HR := Aside0.mk h
  clear h
  have b0 := blk_alloc (blk_new w (.cells #[.int .i64 f.id, .int .i64 f.shape, .slice A f.rings.length c] 27)) (.cells #[.int .i64 0, .int .i64 0, .int .i64 0, .int .i64 0] 30)
  have b1 := blk_new (w.alloc (.cells #[.int .i64 f.id, .int .i64 f.shape, .slice A f.rings.length c] 27)) (.cells #[.int .i64 0, .int .i64 0, .int .i64 0, .int .i64 0] 30)
  simp only [World.size_alloc] at b1
  have hB := below_alloc (below_alloc (Below.refl w.heap.size w) (.cells #[.int .i64 f.id, .int .i64 f.shape, .slice A f.rings.length c] 27)) (.cells #[.int .i64 0, .int .i64 0, .int .i64 0, .int .i64 0] 30)
  go_enter Try.func18, Try.ntmps18
  go_upto_region 1 with (fail)
  obtain ⟨W, hW⟩ : ∃ W, (w.alloc (.cells #[.int .i64 f.id, .int .i64 f.shape, .slice A f.rings.length c] 27)).alloc (.cells #[.int .i64 0, .int .i64 0, .int .i64 0, .int .i64 0] 30) = W := ⟨_, rfl⟩
  rw [hW] at b0 b1 hB ⊢
  clear hW
  have f0 : W.cell? ⟨w.heap.size, 0, none⟩ = some (.int .i64 f.id) := (blk_cell b0 0).trans rfl
  have f1 : W.cell? ⟨w.heap.size, 1, none⟩ = some (.int .i64 f.shape) := (blk_cell b0 1).trans rfl
  have f2 : W.cell? ⟨w.heap.size, 2, none⟩ = some (.slice A f.rings.length c) := (blk_cell b0 2).trans rfl
  have HB := Aside0.mk hB
  have B0 := Aside0.mk b0
  have B1 := Aside0.mk b1
  clear hB b0 b1
  go_wp2_with fail
  refine (rMayB_any f A c W (Kd.C_below HR.out HB.out)).mono ?_
  rintro e W1 ⟨rfl, hb⟩
  have B2 := Aside0.mk (blk_below B0.out hb)
  have B3 := Aside0.mk (blk_below B1.out hb)
  have HB1 := Aside0.mk (below_then HB.out HB.out.size hb)
  clear hb f0 f1 f2 HB B0 B1
  cases hm : mayB f
  · have HV := Aside0.mk (show boxV f = zB by unfold boxV; rw [hm]; rfl)
    have HMf := Aside0.mk hm
    clear hm
    have r0 : W1.cell? ⟨w.heap.size + 1, 0, none⟩ = some (.int .i64 0) := (blk_cell B3.out 0).trans rfl
    have r1 : W1.cell? ⟨w.heap.size + 1, 1, none⟩ = some (.int .i64 0) := (blk_cell B3.out 1).trans rfl
    have r2 : W1.cell? ⟨w.heap.size + 1, 2, none⟩ = some (.int .i64 0) := (blk_cell B3.out 2).trans rfl
    have r3 : W1.cell? ⟨w.heap.size + 1, 3, none⟩ = some (.int .i64 0) := (blk_cell B3.out 3).trans rfl
    have rf := blk_frozen B3.out
    have rl := blk_lt B3.out
    go_wp2_with fail
    have hs := set4_blk (b0 := zB) B3.out zB
    have hBz := set4_below HB1.out (g := w.heap.size + 1) (by omega) zB
    clear r0 r1 r2 r3 rf rl
    show bodyPost _ _ _ _ _ (set4 W1 (w.heap.size + 1) zB)
    generalize set4 W1 (w.heap.size + 1) zB = W2 at *
    have r0 : W2.cell? ⟨w.heap.size + 1, 0, none⟩ = some (.int .i64 0) := (blk_cell hs 0).trans rfl
    have r1 : W2.cell? ⟨w.heap.size + 1, 1, none⟩ = some (.int .i64 0) := (blk_cell hs 1).trans rfl
    have r2 : W2.cell? ⟨w.heap.size + 1, 2, none⟩ = some (.int .i64 0) := (blk_cell hs 2).trans rfl
    have r3 : W2.cell? ⟨w.heap.size + 1, 3, none⟩ = some (.int .i64 0) := (blk_cell hs 3).trans rfl
    refine bodyPost_ret (v := .tuple #[.agg #[.int .i64 0, .int .i64 0, .int .i64 0, .int .i64 0], .int .i64 400]) (by simp [r0, r1, r2, r3, results, Try.f18, go_sem]) rfl ⟨by rw [HV.out, HMf.out]; rfl, hBz⟩
  · have HM := Aside0.mk hm
    have HP0 := Aside0.mk (show ptP (rdP (rdR f.rings 0) 0) = true ∧ 0 < f.rings.length ∧ 0 < (rdR f.rings 0).length from by
      obtain ⟨_, _, hl, _, h⟩ := may_iff.1 hm
      have hl0 : 0 < (rdR f.rings 0).length := by
        rcases h with ⟨_, _, h1, _⟩ | ⟨_, _, hr⟩ | ⟨_, hr⟩
        · omega
        · have := (ring_iff.1 hr).1; omega
        · have := (ring_iff.1 (hr _ (rdR_mem (k := 0) (by omega)))).1; omega
      exact ⟨may_pts hm _ (rdR_mem (k := 0) (by omega)) _ (rdP_mem hl0), by omega, hl0⟩)
    have HFl := Aside0.mk (fun q (hq : q ∈ f.rings.flatten) => flat_may hm hq)
    have HV := Aside0.mk (show boxV f = boxW (rdP (rdR f.rings 0) 0) f.rings.flatten by unfold boxV; rw [if_pos HM.out]; exact (boxW_is HP0.out.1 HFl.out).symm)
    have hfl : f.rings.length ≤ 4 := (may_ok hm).len
    clear hm
    have HR1 := Aside0.mk (Kd.C_below HR.out HB1.out)
    obtain ⟨ad, A0, c0, e1, hx, hc0, hps⟩ := at_r HR1.out 0 HP0.out.2.1
    subst e1
    obtain ⟨ap, e2, p0, p1⟩ := at_p hps 0 HP0.out.2.2
    subst e2
    rw [show ap.add (0 * 2) = ap from rfl] at p0 p1
    have f2 : W1.cell? ⟨w.heap.size, 2, none⟩ = some (.slice (some ad) f.rings.length c) := (blk_cell B2.out 2).trans rfl
    rw [show ad.add (0 * 1) = ad from rfl] at hx
    have hrl : 0 < f.rings.length := HP0.out.2.1
    have hpl : 0 < (rdR f.rings 0).length := HP0.out.2.2
    clear hps
    generalize hpe : rdP (rdR f.rings 0) 0 = p at *
    generalize (rdR f.rings 0).length = n0 at *
    clear hpe
    go_upto_region 3 with (fail)
    refine be_ 15 [14] (W := W1) rfl (by kernel_rfl) (fun hHeld => ?_)
    generalize W1.drew = wd at hHeld ⊢
    refine pu_ 0 11 rfl rfl (by kernel_rfl) (fun _ _ _ h => h) (by rfl) (fun w' => by go_simp; all_goals with_reducible rfl) (by simp only [Act.put, List.setIfInBounds_toArray, List.set_cons_zero, List.set_cons_succ]; rfl) ?_
    refine tk_ 1 12 hHeld rfl rfl (by kernel_rfl) (fun _ _ _ h => h) (by rfl) (fun w' hS' => by
      have g2 := pw_cell_below hS' f2
      go_simp
      all_goals with_reducible rfl) (by simp only [Act.put, List.setIfInBounds_toArray, List.set_cons_zero, List.set_cons_succ]; rfl) ?_
    refine pu_ 2 13 rfl rfl (by kernel_rfl) (fun _ _ _ h => h) (by rfl) (fun w' => by go_simp; all_goals with_reducible rfl) (by simp only [Act.put, List.setIfInBounds_toArray, List.set_cons_zero, List.set_cons_succ]; rfl) ?_
    refine tk_ 3 14 hHeld rfl rfl (by kernel_rfl) (fun _ _ _ h => h) (by rfl) (fun w' hS' => by
      have gx := pw_cell_below hS' hx
      go_simp
      all_goals with_reducible rfl) (by simp only [Act.put, List.setIfInBounds_toArray, List.set_cons_zero, List.set_cons_succ]; rfl) ?_
    refine pu_ 4 15 rfl rfl (by kernel_rfl) (fun _ _ _ h => h) (by rfl) (fun w' => by go_simp; all_goals with_reducible rfl) (by simp only [Act.put, List.setIfInBounds_toArray, List.set_cons_zero, List.set_cons_succ]; rfl) ?_
    refine tk_ 5 16 hHeld rfl rfl (by kernel_rfl) (fun _ _ _ h => h) (by rfl) (fun w' hS' => by
      have g0 := pw_cell_below hS' p0
      have g1 := pw_cell_below hS' p1
      go_simp
      all_goals with_reducible rfl) (by simp only [Act.put, List.setIfInBounds_toArray, List.set_cons_zero, List.set_cons_succ]; rfl) ?_
    refine pu_ 6 17 rfl rfl (by kernel_rfl) (fun _ _ _ h => h) (by rfl) (fun w' => by go_simp; all_goals with_reducible rfl) (by simp only [Act.put, List.setIfInBounds_toArray, List.set_cons_zero, List.set_cons_succ]; rfl) ?_
    refine tk_ 7 18 hHeld rfl rfl (by kernel_rfl) (fun _ _ _ h => h) (by rfl) (fun w' hS' => by
      have g2 := pw_cell_below hS' f2
      go_simp
      all_goals with_reducible rfl) (by simp only [Act.put, List.setIfInBounds_toArray, List.set_cons_zero, List.set_cons_succ]; rfl) ?_
    refine pu_ 8 19 rfl rfl (by kernel_rfl) (fun _ _ _ h => h) (by rfl) (fun w' => by go_simp; all_goals with_reducible rfl) (by simp only [Act.put, List.setIfInBounds_toArray, List.set_cons_zero, List.set_cons_succ]; rfl) ?_
    refine tk_ 9 20 hHeld rfl rfl (by kernel_rfl) (fun _ _ _ h => h) (by rfl) (fun w' hS' => by
      have gx := pw_cell_below hS' hx
      go_simp
      all_goals with_reducible rfl) (by simp only [Act.put, List.setIfInBounds_toArray, List.set_cons_zero, List.set_cons_succ]; rfl) ?_
    refine pu_ 10 21 rfl rfl (by kernel_rfl) (fun _ _ _ h => h) (by rfl) (fun w' => by go_simp; all_goals with_reducible rfl) (by simp only [Act.put, List.setIfInBounds_toArray, List.set_cons_zero, List.set_cons_succ]; rfl) ?_
    refine tk_ 11 22 hHeld rfl rfl (by kernel_rfl) (fun _ _ _ h => h) (by rfl) (fun w' hS' => by
      have g0 := pw_cell_below hS' p0
      have g1 := pw_cell_below hS' p1
      go_simp
      all_goals with_reducible rfl) (by simp only [Act.put, List.setIfInBounds_toArray, List.set_cons_zero, List.set_cons_succ]; rfl) ?_
    refine join_ (σ := Nat) 1 #[true, true, true, true, true, true, true, true, true, true, true, true, true, true, false] (fun s_ => [(23, .agg #[.int .i64 p.f0, .int .i64 p.f1, .int .i64 p.f0, .int .i64 p.f1]), (4, .pointer (some ⟨s_, 0, none⟩))]) (fun s_ w' => Below W1.heap.size W1 w' ∧ W1.heap.size ≤ s_ ∧ w'.heap[s_]? = some (.cells #[.int .i64 0, .int .i64 0, .int .i64 0, .int .i64 0] 30 (0, 0))) ?_ ?_
    rotate_left
    · intro hCont
      refine two_ (i := 12) (j := 13) (Ni := some 23) (Nj := some 4) #[true, true, true, true, true, true, true, true, true, true, true, true, true, false, false] #[true, true, true, true, true, true, true, true, true, true, true, true, false, true, false] rfl rfl rfl rfl (by kernel_rfl) (by decide) (by decide) (fun K hK => ?_) (fun K hK => ?_)
      · refine goes_ Try.func44 (by kernel_rfl) rfl #[.agg #[.int .i64 p.f0, .int .i64 p.f1], .agg #[.int .i64 p.f0, .int .i64 p.f1]] (by rfl) rfl rfl (by first | rfl | (simp only [List.map_toArray, List.map_cons, List.map_nil]; rfl)) ?_
        refine (rAt_any p _).mono ?_
        rintro e w4 ⟨rfl, hb4⟩
        refine ⟨_, rfl, ?_⟩
        refine hK.out _ _ (below_then hHeld hHeld.size hb4) (fun hHeld => ?_)
        clear hK K
        refine norm_ (a' := ?_) ?_ ?_
        rotate_left
        · show Act.put _ (some 23) _ = _
          simp only [Act.put, List.setIfInBounds_toArray, List.set_cons_zero, List.set_cons_succ]
          rfl
        refine one_ (i := 13) (N := some 4) #[true, true, true, true, true, true, true, true, true, true, true, true, true, true, false] rfl rfl (by kernel_rfl) (by decide) (fun K hK => ?_)
        refine value_ (w1 := World.alloc w4 (.cells #[.int .i64 0, .int .i64 0, .int .i64 0, .int .i64 0] 30)) (v := .pointer (some ⟨(w4).heap.size, 0, none⟩)) (by rfl) rfl (by first | (go_simp; done) | (go_simp; rfl)) ?_
        have hlit := blk_new w4 (.cells #[.int .i64 0, .int .i64 0, .int .i64 0, .int .i64 0] 30)
        have hle := hHeld.size
        refine hK.out _ _ (below_alloc hHeld _) (fun hHeld => ?_)
        clear hK K
        exact norm_ (by simp only [putAll, Act.put, List.setIfInBounds_toArray, List.set_cons_zero, List.set_cons_succ]; try rfl) (hCont _ _ ⟨hHeld, hle, hlit⟩)
      · refine value_ (w1 := World.alloc wd (.cells #[.int .i64 0, .int .i64 0, .int .i64 0, .int .i64 0] 30)) (v := .pointer (some ⟨(wd).heap.size, 0, none⟩)) (by rfl) rfl (by first | (go_simp; done) | (go_simp; rfl)) ?_
        have hlit := blk_new wd (.cells #[.int .i64 0, .int .i64 0, .int .i64 0, .int .i64 0] 30)
        have hle : W1.heap.size ≤ wd.heap.size := hHeld.size
        refine hK.out _ _ (below_alloc hHeld _) (fun hHeld => ?_)
        clear hK K
        refine norm_ (a' := ?_) ?_ ?_
        rotate_left
        · show Act.put _ (some 4) _ = _
          simp only [Act.put, List.setIfInBounds_toArray, List.set_cons_zero, List.set_cons_succ]
          rfl
        refine one_ (i := 12) (N := some 23) #[true, true, true, true, true, true, true, true, true, true, true, true, true, true, false] rfl rfl (by kernel_rfl) (by decide) (fun K hK => ?_)
        refine goes_ Try.func44 (by kernel_rfl) rfl #[.agg #[.int .i64 p.f0, .int .i64 p.f1], .agg #[.int .i64 p.f0, .int .i64 p.f1]] (by rfl) rfl rfl (by first | rfl | (simp only [List.map_toArray, List.map_cons, List.map_nil]; rfl)) ?_
        refine (rAt_any p _).mono ?_
        rintro e w4 ⟨rfl, hb4⟩
        refine ⟨_, rfl, ?_⟩
        replace hlit := blk_below hlit hb4
        refine hK.out _ _ (below_then hHeld hHeld.size hb4) (fun hHeld => ?_)
        clear hK K
        exact norm_ (by simp only [putAll, Act.put, List.setIfInBounds_toArray, List.set_cons_zero, List.set_cons_succ]; try rfl) (hCont _ _ ⟨hHeld, hle, hlit⟩)
    rintro s4 w4 ⟨hHeld, hLe, hLit⟩
    refine norm_ (a' := ?_) ?_ ?_
    rotate_left
    · simp only [putAll, Act.put, List.setIfInBounds_toArray, List.set_cons_zero, List.set_cons_succ]
      rfl
    refine last_ (i := 14) (N := none) #[true, true, true, true, true, true, true, true, true, true, true, true, true, true, true] rfl rfl (by kernel_rfl) (by decide) (fun K hK => ?_)
    have hob := hLit
    have s0 : w4.cell? ⟨s4, 0, none⟩ = some (.int .i64 0) := (blk_cell hob 0).trans rfl
    have s1 : w4.cell? ⟨s4, 1, none⟩ = some (.int .i64 0) := (blk_cell hob 1).trans rfl
    have s2 : w4.cell? ⟨s4, 2, none⟩ = some (.int .i64 0) := (blk_cell hob 2).trans rfl
    have s3 : w4.cell? ⟨s4, 3, none⟩ = some (.int .i64 0) := (blk_cell hob 3).trans rfl
    have sf := blk_frozen hob
    have sl := blk_lt hob
    refine skip_ (w1 := set4 w4 s4 (atB p)) (by rfl) rfl ?_ ?_
    · unfold set4
      go_simp
      all_goals first | done | rfl
    refine hK.out _ _ ?_
    clear hK K s0 s1 s2 s3 sf sl
    refine done_ (by kernel_rfl) ?_
    clear hob
    have HI := Aside0.mk (BxI.mk (W1 := W1) (b := boxW p (f.rings.take 0).flatten) (set4_blk (b0 := zB) hLit (atB p)) (set4_below hHeld hLe (atB p)))
    have HLe := Aside0.mk hLe
    clear hHeld hLit hLe hx p0 p1 f2 hrl hpl
    generalize set4 w4 s4 (atB p) = w6 at *
    go_wp2_with fail
    go_loopw [5] (fun i wr => ∃ k : Nat, k ≤ f.rings.length ∧ i = .int .i64 (k : Int) ∧ Aside0 (BxI W1 s4 (boxW p (f.rings.take k).flatten) wr)) (fun i _ => f.rings.length - (intOf i).toNat)
    case atStart => exact ⟨0, Nat.zero_le _, rfl, HI⟩
    case round =>
      clear HI
      obtain ⟨k, hk, rfl, HI⟩ := hrel
      have f2 : wr.cell? ⟨w.heap.size, 2, none⟩ = some (.slice (some ad) f.rings.length c) := (blk_cell (blk_below B2.out HI.out.low) 2).trans rfl
      by_cases hlt : k < f.rings.length
      · obtain ⟨ad', A1, c1, e1, hx0, hc1, hps⟩ := at_r HR1.out k hlt
        cases e1
        have HX := Aside0.mk hx0
        have HPs := Aside0.mk hps
        have HTk := Aside0.mk (show (f.rings.take (k + 1)).flatten = (f.rings.take k).flatten ++ rdR f.rings k from by
          rw [List.take_succ_eq_append_getElem hlt, List.flatten_append]
          have e : f.rings[k] = rdR f.rings k := by unfold rdR; simp [hlt]
          rw [e]; simp)
        have hlm9 : (rdR f.rings k).length ≤ 9223372036854775807 := by have := hps.2.1; omega
        clear hx0 hps
        generalize rdR f.rings k = r at *
        have HJ0 := Aside0.mk (show BxI W1 s4 (boxW p ((f.rings.take k).flatten ++ r.take 0)) wr from by rw [List.take_zero, List.append_nil]; exact HI.out)
        go_wp2_with fail
        clear HI f2
        go_loopw [6] (fun i wr2 => ∃ m : Nat, m ≤ r.length ∧ i = .int .i64 (m : Int) ∧ Aside0 (BxI W1 s4 (boxW p ((f.rings.take k).flatten ++ r.take m)) wr2)) (fun i _ => r.length - (intOf i).toNat)
        case atStart => exact ⟨0, Nat.zero_le _, rfl, HJ0⟩
        case round =>
          clear HJ0
          obtain ⟨m, hm, rfl, HJ⟩ := hrel
          have f2 : wr.cell? ⟨w.heap.size, 2, none⟩ = some (.slice (some ad) f.rings.length c) := (blk_cell (blk_below B2.out HJ.out.low) 2).trans rfl
          have hx := pw_cell_below HJ.out.low HX.out
          by_cases hlm : m < r.length
          · obtain ⟨aq, e2, q0, q1⟩ := at_p (Kd.C_below HPs.out HJ.out.low) m hlm
            subst e2
            have HAd := Aside0.mk (show boxW p ((f.rings.take k).flatten ++ r.take (m + 1)) = joinV (boxW p ((f.rings.take k).flatten ++ r.take m)) (rdP r m) from by
              rw [List.take_succ_eq_append_getElem hlm, ← List.append_assoc, boxW_add]
              have e : r[m] = rdP r m := by unfold rdP; simp [hlm]
              rw [e])
            generalize rdP r m = q at *
            generalize boxW p ((f.rings.take k).flatten ++ r.take m) = b at *
            have o0 : wr.cell? ⟨s4, 0, none⟩ = some (.int .i64 b.x0) := (blk_cell HJ.out.box 0).trans rfl
            have o1 : wr.cell? ⟨s4, 1, none⟩ = some (.int .i64 b.y0) := (blk_cell HJ.out.box 1).trans rfl
            have o2 : wr.cell? ⟨s4, 2, none⟩ = some (.int .i64 b.x1) := (blk_cell HJ.out.box 2).trans rfl
            have o3 : wr.cell? ⟨s4, 3, none⟩ = some (.int .i64 b.y1) := (blk_cell HJ.out.box 3).trans rfl
            have hmi : (m : Int) < r.length := by omega
            go_upto_region 10 with (fail)
            refine be_ 23 [22] (W := wr) rfl (by kernel_rfl) (fun hHeld => ?_)
            refine tk_ 0 42 hHeld rfl rfl (by kernel_rfl) (fun _ _ _ h => h) (by rfl) (fun w' hS' => by
              have g0 := pw_cell_below hS' o0
              have g1 := pw_cell_below hS' o1
              have g2 := pw_cell_below hS' o2
              have g3 := pw_cell_below hS' o3
              go_simp
              all_goals with_reducible rfl) (by simp only [Act.put, List.setIfInBounds_toArray, List.set_cons_zero, List.set_cons_succ]; rfl) ?_
            refine pu_ 1 43 rfl rfl (by kernel_rfl) (fun _ _ _ h => h) (by rfl) (fun w' => by go_simp; all_goals with_reducible rfl) (by simp only [Act.put, List.setIfInBounds_toArray, List.set_cons_zero, List.set_cons_succ]; rfl) ?_
            refine tk_ 2 44 hHeld rfl rfl (by kernel_rfl) (fun _ _ _ h => h) (by rfl) (fun w' hS' => by
              have g2 := pw_cell_below hS' f2
              go_simp
              all_goals with_reducible rfl) (by simp only [Act.put, List.setIfInBounds_toArray, List.set_cons_zero, List.set_cons_succ]; rfl) ?_
            refine pu_ 3 45 rfl rfl (by kernel_rfl) (fun _ _ _ h => h) (by rfl) (fun w' => by go_simp; all_goals with_reducible rfl) (by simp only [Act.put, List.setIfInBounds_toArray, List.set_cons_zero, List.set_cons_succ]; rfl) ?_
            refine pu_ 4 46 rfl rfl (by kernel_rfl) (fun _ _ _ h => h) (by rfl) (fun w' => by go_simp; all_goals with_reducible rfl) (by simp only [Act.put, List.setIfInBounds_toArray, List.set_cons_zero, List.set_cons_succ]; rfl) ?_
            refine tk_ 5 47 hHeld rfl rfl (by kernel_rfl) (fun _ _ _ h => h) (by rfl) (fun w' hS' => by
              have gx := pw_cell_below hS' hx
              go_simp
              all_goals with_reducible rfl) (by simp only [Act.put, List.setIfInBounds_toArray, List.set_cons_zero, List.set_cons_succ]; rfl) ?_
            refine pu_ 6 48 rfl rfl (by kernel_rfl) (fun _ _ _ h => h) (by rfl) (fun w' => by go_simp; all_goals with_reducible rfl) (by simp only [Act.put, List.setIfInBounds_toArray, List.set_cons_zero, List.set_cons_succ]; rfl) ?_
            refine pu_ 7 49 rfl rfl (by kernel_rfl) (fun _ _ _ h => h) (by rfl) (fun w' => by go_simp; all_goals with_reducible rfl) (by simp only [Act.put, List.setIfInBounds_toArray, List.set_cons_zero, List.set_cons_succ]; rfl) ?_
            refine tk_ 8 50 hHeld rfl rfl (by kernel_rfl) (fun _ _ _ h => h) (by rfl) (fun w' hS' => by
              have g0 := pw_cell_below hS' q0
              have g1 := pw_cell_below hS' q1
              go_simp
              all_goals with_reducible rfl) (by simp only [Act.put, List.setIfInBounds_toArray, List.set_cons_zero, List.set_cons_succ]; rfl) ?_
            refine pu_ 9 51 rfl rfl (by kernel_rfl) (fun _ _ _ h => h) (by rfl) (fun w' => by go_simp; all_goals with_reducible rfl) (by simp only [Act.put, List.setIfInBounds_toArray, List.set_cons_zero, List.set_cons_succ]; rfl) ?_
            refine tk_ 10 52 hHeld rfl rfl (by kernel_rfl) (fun _ _ _ h => h) (by rfl) (fun w' hS' => by
              have g2 := pw_cell_below hS' f2
              go_simp
              all_goals with_reducible rfl) (by simp only [Act.put, List.setIfInBounds_toArray, List.set_cons_zero, List.set_cons_succ]; rfl) ?_
            refine pu_ 11 53 rfl rfl (by kernel_rfl) (fun _ _ _ h => h) (by rfl) (fun w' => by go_simp; all_goals with_reducible rfl) (by simp only [Act.put, List.setIfInBounds_toArray, List.set_cons_zero, List.set_cons_succ]; rfl) ?_
            refine pu_ 12 54 rfl rfl (by kernel_rfl) (fun _ _ _ h => h) (by rfl) (fun w' => by go_simp; all_goals with_reducible rfl) (by simp only [Act.put, List.setIfInBounds_toArray, List.set_cons_zero, List.set_cons_succ]; rfl) ?_
            refine tk_ 13 55 hHeld rfl rfl (by kernel_rfl) (fun _ _ _ h => h) (by rfl) (fun w' hS' => by
              have gx := pw_cell_below hS' hx
              go_simp
              all_goals with_reducible rfl) (by simp only [Act.put, List.setIfInBounds_toArray, List.set_cons_zero, List.set_cons_succ]; rfl) ?_
            refine pu_ 14 56 rfl rfl (by kernel_rfl) (fun _ _ _ h => h) (by rfl) (fun w' => by go_simp; all_goals with_reducible rfl) (by simp only [Act.put, List.setIfInBounds_toArray, List.set_cons_zero, List.set_cons_succ]; rfl) ?_
            refine pu_ 15 57 rfl rfl (by kernel_rfl) (fun _ _ _ h => h) (by rfl) (fun w' => by go_simp; all_goals with_reducible rfl) (by simp only [Act.put, List.setIfInBounds_toArray, List.set_cons_zero, List.set_cons_succ]; rfl) ?_
            refine tk_ 16 58 hHeld rfl rfl (by kernel_rfl) (fun _ _ _ h => h) (by rfl) (fun w' hS' => by
              have g0 := pw_cell_below hS' q0
              have g1 := pw_cell_below hS' q1
              go_simp
              all_goals with_reducible rfl) (by simp only [Act.put, List.setIfInBounds_toArray, List.set_cons_zero, List.set_cons_succ]; rfl) ?_
            refine cl_ 17 59 Try.func44 hHeld (rAt_any q _) rfl rfl (by kernel_rfl) (by decide) (by kernel_rfl) rfl (by rfl) rfl (by first | rfl | (simp only [List.map_toArray, List.map_cons, List.map_nil]; rfl)) (by simp only [Act.put, List.setIfInBounds_toArray, List.set_cons_zero, List.set_cons_succ]; rfl) (fun w4 hb4 hHeld => ?_)
            refine cl_ 18 60 Try.func45 hHeld (rJoinP_any b q _) rfl rfl (by kernel_rfl) (by decide) (by kernel_rfl) rfl (by rfl) rfl (by first | rfl | (simp only [List.map_toArray, List.map_cons, List.map_nil]; rfl)) (by simp only [Act.put, List.setIfInBounds_toArray, List.set_cons_zero, List.set_cons_succ]; rfl) (fun w5 hb5 hHeld => ?_)
            refine pu_ 19 41 rfl rfl (by kernel_rfl) (fun _ _ _ h => h) (by rfl) (fun w' => by go_simp; all_goals with_reducible rfl) (by simp only [Act.put, List.setIfInBounds_toArray, List.set_cons_zero, List.set_cons_succ]; rfl) ?_
            refine pu_ 20 61 rfl rfl (by kernel_rfl) (fun _ _ _ h => h) (by rfl) (fun w' => by go_simp; all_goals with_reducible rfl) (by simp only [Act.put, List.setIfInBounds_toArray, List.set_cons_zero, List.set_cons_succ]; rfl) ?_
            refine pu_ 21 62 rfl rfl (by kernel_rfl) (fun _ _ _ h => h) (by rfl) (fun w' => by go_simp; all_goals with_reducible rfl) (by simp only [Act.put, List.setIfInBounds_toArray, List.set_cons_zero, List.set_cons_succ]; rfl) ?_
            refine last_ (i := 22) (N := none) #[true, true, true, true, true, true, true, true, true, true, true, true, true, true, true, true, true, true, true, true, true, true, true] rfl rfl (by kernel_rfl) (by decide) (fun K hK => ?_)
            have hob := blk_below HJ.out.box hHeld
            have s0 : w5.cell? ⟨s4, 0, none⟩ = some (.int .i64 b.x0) := (blk_cell hob 0).trans rfl
            have s1 : w5.cell? ⟨s4, 1, none⟩ = some (.int .i64 b.y0) := (blk_cell hob 1).trans rfl
            have s2 : w5.cell? ⟨s4, 2, none⟩ = some (.int .i64 b.x1) := (blk_cell hob 2).trans rfl
            have s3 : w5.cell? ⟨s4, 3, none⟩ = some (.int .i64 b.y1) := (blk_cell hob 3).trans rfl
            have sf := blk_frozen hob
            have sl := blk_lt hob
            refine skip_ (w1 := set4 w5 s4 (joinV b q)) (by rfl) rfl ?_ ?_
            · unfold set4
              go_simp
              all_goals first | done | rfl
            refine hK.out _ _ ?_
            clear hK K s0 s1 s2 s3 sf sl
            refine done_ (by kernel_rfl) ?_
            have HJ2 := Aside0.mk (show BxI W1 s4 (boxW p ((f.rings.take k).flatten ++ r.take (m + 1))) (set4 w5 s4 (joinV b q)) from by
              rw [HAd.out]
              exact ⟨set4_blk hob _, set4_below (below_then HJ.out.low HJ.out.low.size hHeld) HLe.out _⟩)
            clear hHeld hob o0 o1 o2 o3 f2 hx q0 q1
            generalize set4 w5 s4 (joinV b q) = w7 at *
            go_wp2_with fail
            go_roundw
            case rel => exact ⟨m + 1, by omega, by go_num, HJ2⟩
            case measure => simp [intOf]; omega
          · obtain rfl : m = r.length := by omega
            have HJ2 := Aside0.mk (show BxI W1 s4 (boxW p (f.rings.take (k + 1)).flatten) wr from by rw [HTk.out]; have := HJ.out; rwa [List.take_length] at this)
            go_wp2_with fail
            go_roundw
            case rel => exact ⟨k + 1, by omega, by go_num, HJ2⟩
            case measure => simp [intOf]; omega
      · obtain rfl : k = f.rings.length := by omega
        rw [List.take_length] at HI
        have HV2 := Aside0.mk HV.out
        generalize boxW p f.rings.flatten = b at *
        have o0 : wr.cell? ⟨s4, 0, none⟩ = some (.int .i64 b.x0) := (blk_cell HI.out.box 0).trans rfl
        have o1 : wr.cell? ⟨s4, 1, none⟩ = some (.int .i64 b.y0) := (blk_cell HI.out.box 1).trans rfl
        have o2 : wr.cell? ⟨s4, 2, none⟩ = some (.int .i64 b.x1) := (blk_cell HI.out.box 2).trans rfl
        have o3 : wr.cell? ⟨s4, 3, none⟩ = some (.int .i64 b.y1) := (blk_cell HI.out.box 3).trans rfl
        have HRb := Aside0.mk (blk_below B3.out HI.out.low)
        have r0 : wr.cell? ⟨w.heap.size + 1, 0, none⟩ = some (.int .i64 0) := (blk_cell HRb.out 0).trans rfl
        have r1 : wr.cell? ⟨w.heap.size + 1, 1, none⟩ = some (.int .i64 0) := (blk_cell HRb.out 1).trans rfl
        have r2 : wr.cell? ⟨w.heap.size + 1, 2, none⟩ = some (.int .i64 0) := (blk_cell HRb.out 2).trans rfl
        have r3 : wr.cell? ⟨w.heap.size + 1, 3, none⟩ = some (.int .i64 0) := (blk_cell HRb.out 3).trans rfl
        have rf := blk_frozen HRb.out
        have rl := blk_lt HRb.out
        go_wp2_with fail
        have hs := set4_blk (b0 := zB) HRb.out b
        have hBz := set4_below (below_then HB1.out HB1.out.size HI.out.low) (g := w.heap.size + 1) (by omega) b
        clear r0 r1 r2 r3 rf rl o0 o1 o2 o3 f2
        show bodyPost _ _ _ _ _ (set4 wr (w.heap.size + 1) b)
        generalize set4 wr (w.heap.size + 1) b = W2 at *
        have r0 : W2.cell? ⟨w.heap.size + 1, 0, none⟩ = some (.int .i64 b.x0) := (blk_cell hs 0).trans rfl
        have r1 : W2.cell? ⟨w.heap.size + 1, 1, none⟩ = some (.int .i64 b.y0) := (blk_cell hs 1).trans rfl
        have r2 : W2.cell? ⟨w.heap.size + 1, 2, none⟩ = some (.int .i64 b.x1) := (blk_cell hs 2).trans rfl
        have r3 : W2.cell? ⟨w.heap.size + 1, 3, none⟩ = some (.int .i64 b.y1) := (blk_cell hs 3).trans rfl
        refine bodyPost_ret (v := .tuple #[.agg #[.int .i64 b.x0, .int .i64 b.y0, .int .i64 b.x1, .int .i64 b.y1], .int .i64 0]) (by simp [r0, r1, r2, r3, results, Try.f18, go_sem]) rfl ⟨by rw [HV2.out, HM.out]; rfl, hBz⟩
end Go.Proofs.Ytmednnpmkhgfpaa.SH
