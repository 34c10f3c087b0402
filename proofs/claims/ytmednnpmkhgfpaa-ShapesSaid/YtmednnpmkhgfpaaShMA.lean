/- A box's corners; whether a stretch crosses one of its sides. -/
import Derived.Test.YtmednnpmkhgfpaaShKA
import Derived.Test.YtmednnpmkhgfpaaShW
import Derived.Test.YtmednnpmkhgfpaaGeoWA
section
namespace Go.Proofs.Ytmednnpmkhgfpaa.SH
open Go Go.RowKit Go.Proofs.YtmednnpmkhgfpaaW.PrintWords Go.Proofs.YtmednnpmkhgfpaaW.PrintLast Go.Proofs.YtmednnpmkhgfpaaW.PrintMore Go.Proofs.Ytmednnpmkhgfpaa.PShapes Go.Proofs.Ytmednnpmkhgfpaa.Geo
open Go.Proofs.Ytmednnpmkhgfpaa.GW (cross_any crossA)
set_option linter.unusedVariables false
set_option linter.unusedSimpArgs false
attribute [local go_sem high] eqA23

set_option maxHeartbeats 8000000 in
set_option maxRecDepth 100000 in
theorem corners_any (a b c d : Int) (w : World) : Calls Try.prog 37 #[.agg #[.int .i64 a, .int .i64 b, .int .i64 c, .int .i64 d]] w fun e w' => e = .returned (.agg #[.int .i64 a, .int .i64 b, .int .i64 c, .int .i64 b, .int .i64 c, .int .i64 d, .int .i64 a, .int .i64 d]) ∧ Below w.heap.size w w' := by
  go_enter Try.func37, Try.ntmps37
  go_wp2
  refine bodyPost_ret (v := .agg #[.int .i64 a, .int .i64 b, .int .i64 c, .int .i64 b, .int .i64 c, .int .i64 d, .int .i64 a, .int .i64 d]) (by simp [*, results, Try.f37, go_sem]) rfl ⟨rfl, ?_⟩
  exact below_alloc (below_alloc (Below.refl _ _) _) _
theorem idx0 (a b c d e f g h : Int) (w : World) : (Instr.index 67 (.agg #[.int .i64 a, .int .i64 b, .int .i64 c, .int .i64 d, .int .i64 e, .int .i64 f, .int .i64 g, .int .i64 h]) (.int .i64 0)).run Try.prog w = .ok (.agg #[.int .i64 a, .int .i64 b]) w := by kernel_rfl
theorem idx1 (a b c d e f g h : Int) (w : World) : (Instr.index 67 (.agg #[.int .i64 a, .int .i64 b, .int .i64 c, .int .i64 d, .int .i64 e, .int .i64 f, .int .i64 g, .int .i64 h]) (.int .i64 1)).run Try.prog w = .ok (.agg #[.int .i64 c, .int .i64 d]) w := by kernel_rfl
theorem idx2 (a b c d e f g h : Int) (w : World) : (Instr.index 67 (.agg #[.int .i64 a, .int .i64 b, .int .i64 c, .int .i64 d, .int .i64 e, .int .i64 f, .int .i64 g, .int .i64 h]) (.int .i64 2)).run Try.prog w = .ok (.agg #[.int .i64 e, .int .i64 f]) w := by kernel_rfl
theorem idx3 (a b c d e f g h : Int) (w : World) : (Instr.index 67 (.agg #[.int .i64 a, .int .i64 b, .int .i64 c, .int .i64 d, .int .i64 e, .int .i64 f, .int .i64 g, .int .i64 h]) (.int .i64 3)).run Try.prog w = .ok (.agg #[.int .i64 g, .int .i64 h]) w := by kernel_rfl
attribute [local go_sem high] idx0 idx1 idx2 idx3
def cornerOf (c0 c1 c2 c3 : S23) : Nat → S23
  | 0 => c0 | 1 => c1 | 2 => c2 | 3 => c3 | _ => c0
def sideX (a b c0 c1 c2 c3 : S23) (k : Nat) : Bool := crossA a.f0 a.f1 b.f0 b.f1 (cornerOf c0 c1 c2 c3 k).f0 (cornerOf c0 c1 c2 c3 k).f1 (cornerOf c0 c1 c2 c3 (k + 1)).f0 (cornerOf c0 c1 c2 c3 (k + 1)).f1
def sidesB (a b c0 c1 c2 c3 : S23) : Bool := (List.range 4).any (sideX a b c0 c1 c2 c3)
theorem sides_yes (a b c0 c1 c2 c3 : S23) (k : Nat) (hk : k < 4) (h : sideX a b c0 c1 c2 c3 k = true) : sidesB a b c0 c1 c2 c3 = true := List.any_eq_true.2 ⟨k, List.mem_range.2 hk, h⟩
theorem sides_no (a b c0 c1 c2 c3 : S23) (h : ∀ k, k < 4 → sideX a b c0 c1 c2 c3 k = false) : sidesB a b c0 c1 c2 c3 = false := List.any_eq_false.2 (fun k hk => by rw [h k (List.mem_range.1 hk)]; simp)
set_option maxHeartbeats 8000000 in
set_option maxRecDepth 100000 in
theorem sides_any (a b c0 c1 c2 c3 : S23) (w : World) : Calls Try.prog 39 #[.agg #[.int .i64 a.f0, .int .i64 a.f1], .agg #[.int .i64 b.f0, .int .i64 b.f1], .agg #[.int .i64 c0.f0, .int .i64 c0.f1, .int .i64 c1.f0, .int .i64 c1.f1, .int .i64 c2.f0, .int .i64 c2.f1, .int .i64 c3.f0, .int .i64 c3.f1]] w
    fun e w' => e = .returned (.bool (sidesB a b c0 c1 c2 c3)) ∧ Below w.heap.size w w' := by
  go_enter Try.func39, Try.ntmps39
  go_upto_region 1 with (fail)
  have hA := blk_alloc (blk_alloc (blk_new w (.cells #[.int .i64 a.f0, .int .i64 a.f1] 23)) (.cells #[.int .i64 b.f0, .int .i64 b.f1] 23)) (.cells #[.int .i64 c0.f0, .int .i64 c0.f1, .int .i64 c1.f0, .int .i64 c1.f1, .int .i64 c2.f0, .int .i64 c2.f1, .int .i64 c3.f0, .int .i64 c3.f1] 67)
  have hB := blk_alloc (blk_new (w.alloc (.cells #[.int .i64 a.f0, .int .i64 a.f1] 23)) (.cells #[.int .i64 b.f0, .int .i64 b.f1] 23)) (.cells #[.int .i64 c0.f0, .int .i64 c0.f1, .int .i64 c1.f0, .int .i64 c1.f1, .int .i64 c2.f0, .int .i64 c2.f1, .int .i64 c3.f0, .int .i64 c3.f1] 67)
  have hC := blk_new ((w.alloc (.cells #[.int .i64 a.f0, .int .i64 a.f1] 23)).alloc (.cells #[.int .i64 b.f0, .int .i64 b.f1] 23)) (.cells #[.int .i64 c0.f0, .int .i64 c0.f1, .int .i64 c1.f0, .int .i64 c1.f1, .int .i64 c2.f0, .int .i64 c2.f1, .int .i64 c3.f0, .int .i64 c3.f1] 67)
  have hB0 := below_alloc (below_alloc (below_alloc (Below.refl w.heap.size w) (.cells #[.int .i64 a.f0, .int .i64 a.f1] 23)) (.cells #[.int .i64 b.f0, .int .i64 b.f1] 23)) (.cells #[.int .i64 c0.f0, .int .i64 c0.f1, .int .i64 c1.f0, .int .i64 c1.f1, .int .i64 c2.f0, .int .i64 c2.f1, .int .i64 c3.f0, .int .i64 c3.f1] 67)
  simp only [World.size_alloc] at hB hC
  obtain ⟨W0, hW0⟩ : ∃ W0, ((w.alloc (.cells #[.int .i64 a.f0, .int .i64 a.f1] 23)).alloc (.cells #[.int .i64 b.f0, .int .i64 b.f1] 23)).alloc (.cells #[.int .i64 c0.f0, .int .i64 c0.f1, .int .i64 c1.f0, .int .i64 c1.f1, .int .i64 c2.f0, .int .i64 c2.f1, .int .i64 c3.f0, .int .i64 c3.f1] 67) = W0 := ⟨_, rfl⟩
  rw [hW0] at hA hB hC hB0 ⊢
  clear hW0
  have HA := Aside0.mk hA
  have HBb := Aside0.mk hB
  have HC := Aside0.mk hC
  have HB0 := Aside0.mk hB0
  have hd : ∀ j v, #[Value.int .i64 c0.f0, .int .i64 c0.f1, .int .i64 c1.f0, .int .i64 c1.f1, .int .i64 c2.f0, .int .i64 c2.f1, .int .i64 c3.f0, .int .i64 c3.f1][j]? = some v → W0.cell? ⟨w.heap.size + 1 + 1, j, none⟩ = some v := fun j v h => (blk_cell hC j).trans h
  have d0 := hd 0 _ rfl
  have d1 := hd 1 _ rfl
  have d2 := hd 2 _ rfl
  have d3 := hd 3 _ rfl
  have d4 := hd 4 _ rfl
  have d5 := hd 5 _ rfl
  have d6 := hd 6 _ rfl
  have d7 := hd 7 _ rfl
  clear hd hA hB hC hB0
  go_wp2_with fail
  clear d0 d1 d2 d3 d4 d5 d6 d7
  go_loopw [12] (fun i wr => ∃ (k : Nat) (z : Int), k ≤ 4 ∧ i = .int .i64 z ∧ z = k ∧ Aside0 (∀ j, j < k → sideX a b c0 c1 c2 c3 j = false) ∧ Aside0 (Below W0.heap.size W0 wr)) (fun i _ => 4 - (intOf i).toNat)
  case atStart => exact ⟨0, 0, by omega, rfl, rfl, ⟨fun j hj => absurd hj (by omega)⟩, ⟨Below.refl _ _⟩⟩
  case round =>
    obtain ⟨k, z, hk, rfl, hz, HNo, HB⟩ := hrel
    have hc : k = 0 ∨ k = 1 ∨ k = 2 ∨ k = 3 ∨ k = 4 := by omega
    rcases hc with rfl | rfl | rfl | rfl | rfl
    all_goals simp only [Int.cast_ofNat_Int, Int.natCast_zero, Int.natCast_one] at hz
    all_goals subst hz
    · have hw : IntKind.i64.wrap 1 = 1 := rfl
      have ht : (1 : Int).tmod 4 = 1 := rfl
      go_upto_region 4 with (fail)
      have HX := Aside0.mk (blk_new wr (.cells #[.int .i64 c0.f0, .int .i64 c0.f1] 23))
      have HBw := Aside0.mk (below_alloc HB.out (.cells #[.int .i64 c0.f0, .int .i64 c0.f1] 23))
      generalize wr.alloc (.cells #[.int .i64 c0.f0, .int .i64 c0.f1] 23) = W at *
      generalize wr.heap.size = xb at *
      have a0 : W.cell? ⟨w.heap.size, 0, none⟩ = some (.int .i64 a.f0) := (blk_cell (blk_below HA.out HBw.out) 0).trans rfl
      have a1 : W.cell? ⟨w.heap.size, 1, none⟩ = some (.int .i64 a.f1) := (blk_cell (blk_below HA.out HBw.out) 1).trans rfl
      have b0 : W.cell? ⟨w.heap.size + 1, 0, none⟩ = some (.int .i64 b.f0) := (blk_cell (blk_below HBb.out HBw.out) 0).trans rfl
      have b1 : W.cell? ⟨w.heap.size + 1, 1, none⟩ = some (.int .i64 b.f1) := (blk_cell (blk_below HBb.out HBw.out) 1).trans rfl
      have x0 : W.cell? ⟨xb, 0, none⟩ = some (.int .i64 c0.f0) := (blk_cell HX.out 0).trans rfl
      have x1 : W.cell? ⟨xb, 1, none⟩ = some (.int .i64 c0.f1) := (blk_cell HX.out 1).trans rfl
      have y0 : W.cell? ⟨w.heap.size + 1 + 1, 2, none⟩ = some (.int .i64 c1.f0) := (blk_cell (blk_below HC.out HBw.out) 2).trans rfl
      have y1 : W.cell? ⟨w.heap.size + 1 + 1, 3, none⟩ = some (.int .i64 c1.f1) := (blk_cell (blk_below HC.out HBw.out) 3).trans rfl
      cases hx : crossA a.f0 a.f1 b.f0 b.f1 c0.f0 c0.f1 c1.f0 c1.f1
      case false =>
        refine be_ 14 [] (W := W) rfl (by kernel_rfl) (fun hHeld => ?_)
        refine tk_ 0 17 hHeld rfl rfl (by kernel_rfl) (fun _ _ _ h => h) (by rfl) (fun w' hS' => by
          have g0 := pw_cell_below hS' a0
          have g1 := pw_cell_below hS' a1
          go_simp
          all_goals with_reducible rfl) (by simp only [Act.put, List.setIfInBounds_toArray, List.set_cons_zero, List.set_cons_succ]; rfl) ?_
        refine tk_ 1 18 hHeld rfl rfl (by kernel_rfl) (fun _ _ _ h => h) (by rfl) (fun w' hS' => by
          have g0 := pw_cell_below hS' b0
          have g1 := pw_cell_below hS' b1
          go_simp
          all_goals with_reducible rfl) (by simp only [Act.put, List.setIfInBounds_toArray, List.set_cons_zero, List.set_cons_succ]; rfl) ?_
        refine tk_ 2 19 hHeld rfl rfl (by kernel_rfl) (fun _ _ _ h => h) (by rfl) (fun w' hS' => by
          have g0 := pw_cell_below hS' x0
          have g1 := pw_cell_below hS' x1
          go_simp
          all_goals with_reducible rfl) (by simp only [Act.put, List.setIfInBounds_toArray, List.set_cons_zero, List.set_cons_succ]; rfl) ?_
        refine pu_ 3 20 rfl rfl (by kernel_rfl) (fun _ _ _ h => h) (by rfl) (fun w' => by go_simp; all_goals with_reducible rfl) (by simp only [Act.put, List.setIfInBounds_toArray, List.set_cons_zero, List.set_cons_succ]; rfl) ?_
        refine pu_ 4 21 rfl rfl (by kernel_rfl) (fun _ _ _ h => h) (by rfl) (fun w' => by go_simp; all_goals with_reducible rfl) (by simp only [Act.put, List.setIfInBounds_toArray, List.set_cons_zero, List.set_cons_succ]; rfl) ?_
        refine pu_ 5 22 rfl rfl (by kernel_rfl) (fun _ _ _ h => h) (by rfl) (fun w' => by go_simp; all_goals with_reducible rfl) (by simp only [Act.put, List.setIfInBounds_toArray, List.set_cons_zero, List.set_cons_succ]; rfl) ?_
        refine pu_ 6 23 rfl rfl (by kernel_rfl) (fun _ _ _ h => h) (by rfl) (fun w' => by go_simp; all_goals with_reducible rfl) (by simp only [Act.put, List.setIfInBounds_toArray, List.set_cons_zero, List.set_cons_succ]; rfl) ?_
        refine tk_ 7 24 hHeld rfl rfl (by kernel_rfl) (fun _ _ _ h => h) (by rfl) (fun w' hS' => by
          have g0 := pw_cell_below hS' y0
          have g1 := pw_cell_below hS' y1
          go_simp
          all_goals with_reducible rfl) (by simp only [Act.put, List.setIfInBounds_toArray, List.set_cons_zero, List.set_cons_succ]; rfl) ?_
        refine cl_ 8 25 Try.func59 hHeld (cv_ (cross_any a.f0 a.f1 b.f0 b.f1 c0.f0 c0.f1 c1.f0 c1.f1 _) (by rw [hx])) rfl rfl (by kernel_rfl) (by decide) (by kernel_rfl) rfl (by rfl) rfl (by first | rfl | (simp only [List.map_toArray, List.map_cons, List.map_nil]; rfl)) (by simp only [Act.put, List.setIfInBounds_toArray, List.set_cons_zero, List.set_cons_succ]; rfl) (fun w4 hb4 hHeld => ?_)
        refine pu_ 9 16 rfl rfl (by kernel_rfl) (fun _ _ _ h => h) (by rfl) (fun w' => by go_simp; all_goals with_reducible rfl) (by simp only [Act.put, List.setIfInBounds_toArray, List.set_cons_zero, List.set_cons_succ]; rfl) ?_
        refine pu_ 10 26 rfl rfl (by kernel_rfl) (fun _ _ _ h => h) (by rfl) (fun w' => by go_simp; all_goals with_reducible rfl) (by simp only [Act.put, List.setIfInBounds_toArray, List.set_cons_zero, List.set_cons_succ]; rfl) ?_
        refine pu_ 11 27 rfl rfl (by kernel_rfl) (fun _ _ _ h => h) (by rfl) (fun w' => by go_simp; all_goals with_reducible rfl) (by simp only [Act.put, List.setIfInBounds_toArray, List.set_cons_zero, List.set_cons_succ]; rfl) ?_
        refine pu_ 12 9 rfl rfl (by kernel_rfl) (fun _ _ _ h => h) (by rfl) (fun w' => by go_simp; all_goals with_reducible rfl) (by simp only [Act.put, List.setIfInBounds_toArray, List.set_cons_zero, List.set_cons_succ]; rfl) ?_
        refine pu_ 13 10 rfl rfl (by kernel_rfl) (fun _ _ _ h => h) (by rfl) (fun w' => by go_simp; all_goals with_reducible rfl) (by simp only [Act.put, List.setIfInBounds_toArray, List.set_cons_zero, List.set_cons_succ]; rfl) ?_
        refine done_ (by kernel_rfl) ?_
        have HB3 := Aside0.mk (below_then HBw.out HBw.out.size hHeld)
        clear hHeld a0 a1 b0 b1 x0 x1 y0 y1 hb4
        go_wp2
        go_roundw
        case rel => exact ⟨1, 1, by omega, by rfl, by rfl, ⟨fun j hj => by rcases Nat.lt_succ_iff_lt_or_eq.1 hj with h | rfl; exact HNo.out j h; exact hx⟩, HB3⟩
        case measure => simp [intOf]
      case true =>
        refine be_ 14 [] (W := W) rfl (by kernel_rfl) (fun hHeld => ?_)
        refine tk_ 0 17 hHeld rfl rfl (by kernel_rfl) (fun _ _ _ h => h) (by rfl) (fun w' hS' => by
          have g0 := pw_cell_below hS' a0
          have g1 := pw_cell_below hS' a1
          go_simp
          all_goals with_reducible rfl) (by simp only [Act.put, List.setIfInBounds_toArray, List.set_cons_zero, List.set_cons_succ]; rfl) ?_
        refine tk_ 1 18 hHeld rfl rfl (by kernel_rfl) (fun _ _ _ h => h) (by rfl) (fun w' hS' => by
          have g0 := pw_cell_below hS' b0
          have g1 := pw_cell_below hS' b1
          go_simp
          all_goals with_reducible rfl) (by simp only [Act.put, List.setIfInBounds_toArray, List.set_cons_zero, List.set_cons_succ]; rfl) ?_
        refine tk_ 2 19 hHeld rfl rfl (by kernel_rfl) (fun _ _ _ h => h) (by rfl) (fun w' hS' => by
          have g0 := pw_cell_below hS' x0
          have g1 := pw_cell_below hS' x1
          go_simp
          all_goals with_reducible rfl) (by simp only [Act.put, List.setIfInBounds_toArray, List.set_cons_zero, List.set_cons_succ]; rfl) ?_
        refine pu_ 3 20 rfl rfl (by kernel_rfl) (fun _ _ _ h => h) (by rfl) (fun w' => by go_simp; all_goals with_reducible rfl) (by simp only [Act.put, List.setIfInBounds_toArray, List.set_cons_zero, List.set_cons_succ]; rfl) ?_
        refine pu_ 4 21 rfl rfl (by kernel_rfl) (fun _ _ _ h => h) (by rfl) (fun w' => by go_simp; all_goals with_reducible rfl) (by simp only [Act.put, List.setIfInBounds_toArray, List.set_cons_zero, List.set_cons_succ]; rfl) ?_
        refine pu_ 5 22 rfl rfl (by kernel_rfl) (fun _ _ _ h => h) (by rfl) (fun w' => by go_simp; all_goals with_reducible rfl) (by simp only [Act.put, List.setIfInBounds_toArray, List.set_cons_zero, List.set_cons_succ]; rfl) ?_
        refine pu_ 6 23 rfl rfl (by kernel_rfl) (fun _ _ _ h => h) (by rfl) (fun w' => by go_simp; all_goals with_reducible rfl) (by simp only [Act.put, List.setIfInBounds_toArray, List.set_cons_zero, List.set_cons_succ]; rfl) ?_
        refine tk_ 7 24 hHeld rfl rfl (by kernel_rfl) (fun _ _ _ h => h) (by rfl) (fun w' hS' => by
          have g0 := pw_cell_below hS' y0
          have g1 := pw_cell_below hS' y1
          go_simp
          all_goals with_reducible rfl) (by simp only [Act.put, List.setIfInBounds_toArray, List.set_cons_zero, List.set_cons_succ]; rfl) ?_
        refine cl_ 8 25 Try.func59 hHeld (cv_ (cross_any a.f0 a.f1 b.f0 b.f1 c0.f0 c0.f1 c1.f0 c1.f1 _) (by rw [hx])) rfl rfl (by kernel_rfl) (by decide) (by kernel_rfl) rfl (by rfl) rfl (by first | rfl | (simp only [List.map_toArray, List.map_cons, List.map_nil]; rfl)) (by simp only [Act.put, List.setIfInBounds_toArray, List.set_cons_zero, List.set_cons_succ]; rfl) (fun w4 hb4 hHeld => ?_)
        refine pu_ 9 16 rfl rfl (by kernel_rfl) (fun _ _ _ h => h) (by rfl) (fun w' => by go_simp; all_goals with_reducible rfl) (by simp only [Act.put, List.setIfInBounds_toArray, List.set_cons_zero, List.set_cons_succ]; rfl) ?_
        refine pu_ 10 26 rfl rfl (by kernel_rfl) (fun _ _ _ h => h) (by rfl) (fun w' => by go_simp; all_goals with_reducible rfl) (by simp only [Act.put, List.setIfInBounds_toArray, List.set_cons_zero, List.set_cons_succ]; rfl) ?_
        refine pu_ 11 27 rfl rfl (by kernel_rfl) (fun _ _ _ h => h) (by rfl) (fun w' => by go_simp; all_goals with_reducible rfl) (by simp only [Act.put, List.setIfInBounds_toArray, List.set_cons_zero, List.set_cons_succ]; rfl) ?_
        refine pu_ 12 9 rfl rfl (by kernel_rfl) (fun _ _ _ h => h) (by rfl) (fun w' => by go_simp; all_goals with_reducible rfl) (by simp only [Act.put, List.setIfInBounds_toArray, List.set_cons_zero, List.set_cons_succ]; rfl) ?_
        refine pu_ 13 10 rfl rfl (by kernel_rfl) (fun _ _ _ h => h) (by rfl) (fun w' => by go_simp; all_goals with_reducible rfl) (by simp only [Act.put, List.setIfInBounds_toArray, List.set_cons_zero, List.set_cons_succ]; rfl) ?_
        refine done_ (by kernel_rfl) ?_
        have HB3 := Aside0.mk (below_then HBw.out HBw.out.size hHeld)
        clear hHeld a0 a1 b0 b1 x0 x1 y0 y1 hb4
        have HYes := Aside0.mk (sides_yes a b c0 c1 c2 c3 0 (by omega) hx)
        clear hx
        go_wp2
        go_ret
        exact ⟨by rw [HYes.out]; rfl, below_then HB0.out HB0.out.size HB3.out⟩
    · have hw : IntKind.i64.wrap 2 = 2 := rfl
      have ht : (2 : Int).tmod 4 = 2 := rfl
      go_upto_region 4 with (fail)
      have HX := Aside0.mk (blk_new wr (.cells #[.int .i64 c1.f0, .int .i64 c1.f1] 23))
      have HBw := Aside0.mk (below_alloc HB.out (.cells #[.int .i64 c1.f0, .int .i64 c1.f1] 23))
      generalize wr.alloc (.cells #[.int .i64 c1.f0, .int .i64 c1.f1] 23) = W at *
      generalize wr.heap.size = xb at *
      have a0 : W.cell? ⟨w.heap.size, 0, none⟩ = some (.int .i64 a.f0) := (blk_cell (blk_below HA.out HBw.out) 0).trans rfl
      have a1 : W.cell? ⟨w.heap.size, 1, none⟩ = some (.int .i64 a.f1) := (blk_cell (blk_below HA.out HBw.out) 1).trans rfl
      have b0 : W.cell? ⟨w.heap.size + 1, 0, none⟩ = some (.int .i64 b.f0) := (blk_cell (blk_below HBb.out HBw.out) 0).trans rfl
      have b1 : W.cell? ⟨w.heap.size + 1, 1, none⟩ = some (.int .i64 b.f1) := (blk_cell (blk_below HBb.out HBw.out) 1).trans rfl
      have x0 : W.cell? ⟨xb, 0, none⟩ = some (.int .i64 c1.f0) := (blk_cell HX.out 0).trans rfl
      have x1 : W.cell? ⟨xb, 1, none⟩ = some (.int .i64 c1.f1) := (blk_cell HX.out 1).trans rfl
      have y0 : W.cell? ⟨w.heap.size + 1 + 1, 4, none⟩ = some (.int .i64 c2.f0) := (blk_cell (blk_below HC.out HBw.out) 4).trans rfl
      have y1 : W.cell? ⟨w.heap.size + 1 + 1, 5, none⟩ = some (.int .i64 c2.f1) := (blk_cell (blk_below HC.out HBw.out) 5).trans rfl
      cases hx : crossA a.f0 a.f1 b.f0 b.f1 c1.f0 c1.f1 c2.f0 c2.f1
      case false =>
        refine be_ 14 [] (W := W) rfl (by kernel_rfl) (fun hHeld => ?_)
        refine tk_ 0 17 hHeld rfl rfl (by kernel_rfl) (fun _ _ _ h => h) (by rfl) (fun w' hS' => by
          have g0 := pw_cell_below hS' a0
          have g1 := pw_cell_below hS' a1
          go_simp
          all_goals with_reducible rfl) (by simp only [Act.put, List.setIfInBounds_toArray, List.set_cons_zero, List.set_cons_succ]; rfl) ?_
        refine tk_ 1 18 hHeld rfl rfl (by kernel_rfl) (fun _ _ _ h => h) (by rfl) (fun w' hS' => by
          have g0 := pw_cell_below hS' b0
          have g1 := pw_cell_below hS' b1
          go_simp
          all_goals with_reducible rfl) (by simp only [Act.put, List.setIfInBounds_toArray, List.set_cons_zero, List.set_cons_succ]; rfl) ?_
        refine tk_ 2 19 hHeld rfl rfl (by kernel_rfl) (fun _ _ _ h => h) (by rfl) (fun w' hS' => by
          have g0 := pw_cell_below hS' x0
          have g1 := pw_cell_below hS' x1
          go_simp
          all_goals with_reducible rfl) (by simp only [Act.put, List.setIfInBounds_toArray, List.set_cons_zero, List.set_cons_succ]; rfl) ?_
        refine pu_ 3 20 rfl rfl (by kernel_rfl) (fun _ _ _ h => h) (by rfl) (fun w' => by go_simp; all_goals with_reducible rfl) (by simp only [Act.put, List.setIfInBounds_toArray, List.set_cons_zero, List.set_cons_succ]; rfl) ?_
        refine pu_ 4 21 rfl rfl (by kernel_rfl) (fun _ _ _ h => h) (by rfl) (fun w' => by go_simp; all_goals with_reducible rfl) (by simp only [Act.put, List.setIfInBounds_toArray, List.set_cons_zero, List.set_cons_succ]; rfl) ?_
        refine pu_ 5 22 rfl rfl (by kernel_rfl) (fun _ _ _ h => h) (by rfl) (fun w' => by go_simp; all_goals with_reducible rfl) (by simp only [Act.put, List.setIfInBounds_toArray, List.set_cons_zero, List.set_cons_succ]; rfl) ?_
        refine pu_ 6 23 rfl rfl (by kernel_rfl) (fun _ _ _ h => h) (by rfl) (fun w' => by go_simp; all_goals with_reducible rfl) (by simp only [Act.put, List.setIfInBounds_toArray, List.set_cons_zero, List.set_cons_succ]; rfl) ?_
        refine tk_ 7 24 hHeld rfl rfl (by kernel_rfl) (fun _ _ _ h => h) (by rfl) (fun w' hS' => by
          have g0 := pw_cell_below hS' y0
          have g1 := pw_cell_below hS' y1
          go_simp
          all_goals with_reducible rfl) (by simp only [Act.put, List.setIfInBounds_toArray, List.set_cons_zero, List.set_cons_succ]; rfl) ?_
        refine cl_ 8 25 Try.func59 hHeld (cv_ (cross_any a.f0 a.f1 b.f0 b.f1 c1.f0 c1.f1 c2.f0 c2.f1 _) (by rw [hx])) rfl rfl (by kernel_rfl) (by decide) (by kernel_rfl) rfl (by rfl) rfl (by first | rfl | (simp only [List.map_toArray, List.map_cons, List.map_nil]; rfl)) (by simp only [Act.put, List.setIfInBounds_toArray, List.set_cons_zero, List.set_cons_succ]; rfl) (fun w4 hb4 hHeld => ?_)
        refine pu_ 9 16 rfl rfl (by kernel_rfl) (fun _ _ _ h => h) (by rfl) (fun w' => by go_simp; all_goals with_reducible rfl) (by simp only [Act.put, List.setIfInBounds_toArray, List.set_cons_zero, List.set_cons_succ]; rfl) ?_
        refine pu_ 10 26 rfl rfl (by kernel_rfl) (fun _ _ _ h => h) (by rfl) (fun w' => by go_simp; all_goals with_reducible rfl) (by simp only [Act.put, List.setIfInBounds_toArray, List.set_cons_zero, List.set_cons_succ]; rfl) ?_
        refine pu_ 11 27 rfl rfl (by kernel_rfl) (fun _ _ _ h => h) (by rfl) (fun w' => by go_simp; all_goals with_reducible rfl) (by simp only [Act.put, List.setIfInBounds_toArray, List.set_cons_zero, List.set_cons_succ]; rfl) ?_
        refine pu_ 12 9 rfl rfl (by kernel_rfl) (fun _ _ _ h => h) (by rfl) (fun w' => by go_simp; all_goals with_reducible rfl) (by simp only [Act.put, List.setIfInBounds_toArray, List.set_cons_zero, List.set_cons_succ]; rfl) ?_
        refine pu_ 13 10 rfl rfl (by kernel_rfl) (fun _ _ _ h => h) (by rfl) (fun w' => by go_simp; all_goals with_reducible rfl) (by simp only [Act.put, List.setIfInBounds_toArray, List.set_cons_zero, List.set_cons_succ]; rfl) ?_
        refine done_ (by kernel_rfl) ?_
        have HB3 := Aside0.mk (below_then HBw.out HBw.out.size hHeld)
        clear hHeld a0 a1 b0 b1 x0 x1 y0 y1 hb4
        go_wp2
        go_roundw
        case rel => exact ⟨2, 2, by omega, by rfl, by rfl, ⟨fun j hj => by rcases Nat.lt_succ_iff_lt_or_eq.1 hj with h | rfl; exact HNo.out j h; exact hx⟩, HB3⟩
        case measure => simp [intOf]
      case true =>
        refine be_ 14 [] (W := W) rfl (by kernel_rfl) (fun hHeld => ?_)
        refine tk_ 0 17 hHeld rfl rfl (by kernel_rfl) (fun _ _ _ h => h) (by rfl) (fun w' hS' => by
          have g0 := pw_cell_below hS' a0
          have g1 := pw_cell_below hS' a1
          go_simp
          all_goals with_reducible rfl) (by simp only [Act.put, List.setIfInBounds_toArray, List.set_cons_zero, List.set_cons_succ]; rfl) ?_
        refine tk_ 1 18 hHeld rfl rfl (by kernel_rfl) (fun _ _ _ h => h) (by rfl) (fun w' hS' => by
          have g0 := pw_cell_below hS' b0
          have g1 := pw_cell_below hS' b1
          go_simp
          all_goals with_reducible rfl) (by simp only [Act.put, List.setIfInBounds_toArray, List.set_cons_zero, List.set_cons_succ]; rfl) ?_
        refine tk_ 2 19 hHeld rfl rfl (by kernel_rfl) (fun _ _ _ h => h) (by rfl) (fun w' hS' => by
          have g0 := pw_cell_below hS' x0
          have g1 := pw_cell_below hS' x1
          go_simp
          all_goals with_reducible rfl) (by simp only [Act.put, List.setIfInBounds_toArray, List.set_cons_zero, List.set_cons_succ]; rfl) ?_
        refine pu_ 3 20 rfl rfl (by kernel_rfl) (fun _ _ _ h => h) (by rfl) (fun w' => by go_simp; all_goals with_reducible rfl) (by simp only [Act.put, List.setIfInBounds_toArray, List.set_cons_zero, List.set_cons_succ]; rfl) ?_
        refine pu_ 4 21 rfl rfl (by kernel_rfl) (fun _ _ _ h => h) (by rfl) (fun w' => by go_simp; all_goals with_reducible rfl) (by simp only [Act.put, List.setIfInBounds_toArray, List.set_cons_zero, List.set_cons_succ]; rfl) ?_
        refine pu_ 5 22 rfl rfl (by kernel_rfl) (fun _ _ _ h => h) (by rfl) (fun w' => by go_simp; all_goals with_reducible rfl) (by simp only [Act.put, List.setIfInBounds_toArray, List.set_cons_zero, List.set_cons_succ]; rfl) ?_
        refine pu_ 6 23 rfl rfl (by kernel_rfl) (fun _ _ _ h => h) (by rfl) (fun w' => by go_simp; all_goals with_reducible rfl) (by simp only [Act.put, List.setIfInBounds_toArray, List.set_cons_zero, List.set_cons_succ]; rfl) ?_
        refine tk_ 7 24 hHeld rfl rfl (by kernel_rfl) (fun _ _ _ h => h) (by rfl) (fun w' hS' => by
          have g0 := pw_cell_below hS' y0
          have g1 := pw_cell_below hS' y1
          go_simp
          all_goals with_reducible rfl) (by simp only [Act.put, List.setIfInBounds_toArray, List.set_cons_zero, List.set_cons_succ]; rfl) ?_
        refine cl_ 8 25 Try.func59 hHeld (cv_ (cross_any a.f0 a.f1 b.f0 b.f1 c1.f0 c1.f1 c2.f0 c2.f1 _) (by rw [hx])) rfl rfl (by kernel_rfl) (by decide) (by kernel_rfl) rfl (by rfl) rfl (by first | rfl | (simp only [List.map_toArray, List.map_cons, List.map_nil]; rfl)) (by simp only [Act.put, List.setIfInBounds_toArray, List.set_cons_zero, List.set_cons_succ]; rfl) (fun w4 hb4 hHeld => ?_)
        refine pu_ 9 16 rfl rfl (by kernel_rfl) (fun _ _ _ h => h) (by rfl) (fun w' => by go_simp; all_goals with_reducible rfl) (by simp only [Act.put, List.setIfInBounds_toArray, List.set_cons_zero, List.set_cons_succ]; rfl) ?_
        refine pu_ 10 26 rfl rfl (by kernel_rfl) (fun _ _ _ h => h) (by rfl) (fun w' => by go_simp; all_goals with_reducible rfl) (by simp only [Act.put, List.setIfInBounds_toArray, List.set_cons_zero, List.set_cons_succ]; rfl) ?_
        refine pu_ 11 27 rfl rfl (by kernel_rfl) (fun _ _ _ h => h) (by rfl) (fun w' => by go_simp; all_goals with_reducible rfl) (by simp only [Act.put, List.setIfInBounds_toArray, List.set_cons_zero, List.set_cons_succ]; rfl) ?_
        refine pu_ 12 9 rfl rfl (by kernel_rfl) (fun _ _ _ h => h) (by rfl) (fun w' => by go_simp; all_goals with_reducible rfl) (by simp only [Act.put, List.setIfInBounds_toArray, List.set_cons_zero, List.set_cons_succ]; rfl) ?_
        refine pu_ 13 10 rfl rfl (by kernel_rfl) (fun _ _ _ h => h) (by rfl) (fun w' => by go_simp; all_goals with_reducible rfl) (by simp only [Act.put, List.setIfInBounds_toArray, List.set_cons_zero, List.set_cons_succ]; rfl) ?_
        refine done_ (by kernel_rfl) ?_
        have HB3 := Aside0.mk (below_then HBw.out HBw.out.size hHeld)
        clear hHeld a0 a1 b0 b1 x0 x1 y0 y1 hb4
        have HYes := Aside0.mk (sides_yes a b c0 c1 c2 c3 1 (by omega) hx)
        clear hx
        go_wp2
        go_ret
        exact ⟨by rw [HYes.out]; rfl, below_then HB0.out HB0.out.size HB3.out⟩
    · have hw : IntKind.i64.wrap 3 = 3 := rfl
      have ht : (3 : Int).tmod 4 = 3 := rfl
      go_upto_region 4 with (fail)
      have HX := Aside0.mk (blk_new wr (.cells #[.int .i64 c2.f0, .int .i64 c2.f1] 23))
      have HBw := Aside0.mk (below_alloc HB.out (.cells #[.int .i64 c2.f0, .int .i64 c2.f1] 23))
      generalize wr.alloc (.cells #[.int .i64 c2.f0, .int .i64 c2.f1] 23) = W at *
      generalize wr.heap.size = xb at *
      have a0 : W.cell? ⟨w.heap.size, 0, none⟩ = some (.int .i64 a.f0) := (blk_cell (blk_below HA.out HBw.out) 0).trans rfl
      have a1 : W.cell? ⟨w.heap.size, 1, none⟩ = some (.int .i64 a.f1) := (blk_cell (blk_below HA.out HBw.out) 1).trans rfl
      have b0 : W.cell? ⟨w.heap.size + 1, 0, none⟩ = some (.int .i64 b.f0) := (blk_cell (blk_below HBb.out HBw.out) 0).trans rfl
      have b1 : W.cell? ⟨w.heap.size + 1, 1, none⟩ = some (.int .i64 b.f1) := (blk_cell (blk_below HBb.out HBw.out) 1).trans rfl
      have x0 : W.cell? ⟨xb, 0, none⟩ = some (.int .i64 c2.f0) := (blk_cell HX.out 0).trans rfl
      have x1 : W.cell? ⟨xb, 1, none⟩ = some (.int .i64 c2.f1) := (blk_cell HX.out 1).trans rfl
      have y0 : W.cell? ⟨w.heap.size + 1 + 1, 6, none⟩ = some (.int .i64 c3.f0) := (blk_cell (blk_below HC.out HBw.out) 6).trans rfl
      have y1 : W.cell? ⟨w.heap.size + 1 + 1, 7, none⟩ = some (.int .i64 c3.f1) := (blk_cell (blk_below HC.out HBw.out) 7).trans rfl
      cases hx : crossA a.f0 a.f1 b.f0 b.f1 c2.f0 c2.f1 c3.f0 c3.f1
      case false =>
        refine be_ 14 [] (W := W) rfl (by kernel_rfl) (fun hHeld => ?_)
        refine tk_ 0 17 hHeld rfl rfl (by kernel_rfl) (fun _ _ _ h => h) (by rfl) (fun w' hS' => by
          have g0 := pw_cell_below hS' a0
          have g1 := pw_cell_below hS' a1
          go_simp
          all_goals with_reducible rfl) (by simp only [Act.put, List.setIfInBounds_toArray, List.set_cons_zero, List.set_cons_succ]; rfl) ?_
        refine tk_ 1 18 hHeld rfl rfl (by kernel_rfl) (fun _ _ _ h => h) (by rfl) (fun w' hS' => by
          have g0 := pw_cell_below hS' b0
          have g1 := pw_cell_below hS' b1
          go_simp
          all_goals with_reducible rfl) (by simp only [Act.put, List.setIfInBounds_toArray, List.set_cons_zero, List.set_cons_succ]; rfl) ?_
        refine tk_ 2 19 hHeld rfl rfl (by kernel_rfl) (fun _ _ _ h => h) (by rfl) (fun w' hS' => by
          have g0 := pw_cell_below hS' x0
          have g1 := pw_cell_below hS' x1
          go_simp
          all_goals with_reducible rfl) (by simp only [Act.put, List.setIfInBounds_toArray, List.set_cons_zero, List.set_cons_succ]; rfl) ?_
        refine pu_ 3 20 rfl rfl (by kernel_rfl) (fun _ _ _ h => h) (by rfl) (fun w' => by go_simp; all_goals with_reducible rfl) (by simp only [Act.put, List.setIfInBounds_toArray, List.set_cons_zero, List.set_cons_succ]; rfl) ?_
        refine pu_ 4 21 rfl rfl (by kernel_rfl) (fun _ _ _ h => h) (by rfl) (fun w' => by go_simp; all_goals with_reducible rfl) (by simp only [Act.put, List.setIfInBounds_toArray, List.set_cons_zero, List.set_cons_succ]; rfl) ?_
        refine pu_ 5 22 rfl rfl (by kernel_rfl) (fun _ _ _ h => h) (by rfl) (fun w' => by go_simp; all_goals with_reducible rfl) (by simp only [Act.put, List.setIfInBounds_toArray, List.set_cons_zero, List.set_cons_succ]; rfl) ?_
        refine pu_ 6 23 rfl rfl (by kernel_rfl) (fun _ _ _ h => h) (by rfl) (fun w' => by go_simp; all_goals with_reducible rfl) (by simp only [Act.put, List.setIfInBounds_toArray, List.set_cons_zero, List.set_cons_succ]; rfl) ?_
        refine tk_ 7 24 hHeld rfl rfl (by kernel_rfl) (fun _ _ _ h => h) (by rfl) (fun w' hS' => by
          have g0 := pw_cell_below hS' y0
          have g1 := pw_cell_below hS' y1
          go_simp
          all_goals with_reducible rfl) (by simp only [Act.put, List.setIfInBounds_toArray, List.set_cons_zero, List.set_cons_succ]; rfl) ?_
        refine cl_ 8 25 Try.func59 hHeld (cv_ (cross_any a.f0 a.f1 b.f0 b.f1 c2.f0 c2.f1 c3.f0 c3.f1 _) (by rw [hx])) rfl rfl (by kernel_rfl) (by decide) (by kernel_rfl) rfl (by rfl) rfl (by first | rfl | (simp only [List.map_toArray, List.map_cons, List.map_nil]; rfl)) (by simp only [Act.put, List.setIfInBounds_toArray, List.set_cons_zero, List.set_cons_succ]; rfl) (fun w4 hb4 hHeld => ?_)
        refine pu_ 9 16 rfl rfl (by kernel_rfl) (fun _ _ _ h => h) (by rfl) (fun w' => by go_simp; all_goals with_reducible rfl) (by simp only [Act.put, List.setIfInBounds_toArray, List.set_cons_zero, List.set_cons_succ]; rfl) ?_
        refine pu_ 10 26 rfl rfl (by kernel_rfl) (fun _ _ _ h => h) (by rfl) (fun w' => by go_simp; all_goals with_reducible rfl) (by simp only [Act.put, List.setIfInBounds_toArray, List.set_cons_zero, List.set_cons_succ]; rfl) ?_
        refine pu_ 11 27 rfl rfl (by kernel_rfl) (fun _ _ _ h => h) (by rfl) (fun w' => by go_simp; all_goals with_reducible rfl) (by simp only [Act.put, List.setIfInBounds_toArray, List.set_cons_zero, List.set_cons_succ]; rfl) ?_
        refine pu_ 12 9 rfl rfl (by kernel_rfl) (fun _ _ _ h => h) (by rfl) (fun w' => by go_simp; all_goals with_reducible rfl) (by simp only [Act.put, List.setIfInBounds_toArray, List.set_cons_zero, List.set_cons_succ]; rfl) ?_
        refine pu_ 13 10 rfl rfl (by kernel_rfl) (fun _ _ _ h => h) (by rfl) (fun w' => by go_simp; all_goals with_reducible rfl) (by simp only [Act.put, List.setIfInBounds_toArray, List.set_cons_zero, List.set_cons_succ]; rfl) ?_
        refine done_ (by kernel_rfl) ?_
        have HB3 := Aside0.mk (below_then HBw.out HBw.out.size hHeld)
        clear hHeld a0 a1 b0 b1 x0 x1 y0 y1 hb4
        go_wp2
        go_roundw
        case rel => exact ⟨3, 3, by omega, by rfl, by rfl, ⟨fun j hj => by rcases Nat.lt_succ_iff_lt_or_eq.1 hj with h | rfl; exact HNo.out j h; exact hx⟩, HB3⟩
        case measure => simp [intOf]
      case true =>
        refine be_ 14 [] (W := W) rfl (by kernel_rfl) (fun hHeld => ?_)
        refine tk_ 0 17 hHeld rfl rfl (by kernel_rfl) (fun _ _ _ h => h) (by rfl) (fun w' hS' => by
          have g0 := pw_cell_below hS' a0
          have g1 := pw_cell_below hS' a1
          go_simp
          all_goals with_reducible rfl) (by simp only [Act.put, List.setIfInBounds_toArray, List.set_cons_zero, List.set_cons_succ]; rfl) ?_
        refine tk_ 1 18 hHeld rfl rfl (by kernel_rfl) (fun _ _ _ h => h) (by rfl) (fun w' hS' => by
          have g0 := pw_cell_below hS' b0
          have g1 := pw_cell_below hS' b1
          go_simp
          all_goals with_reducible rfl) (by simp only [Act.put, List.setIfInBounds_toArray, List.set_cons_zero, List.set_cons_succ]; rfl) ?_
        refine tk_ 2 19 hHeld rfl rfl (by kernel_rfl) (fun _ _ _ h => h) (by rfl) (fun w' hS' => by
          have g0 := pw_cell_below hS' x0
          have g1 := pw_cell_below hS' x1
          go_simp
          all_goals with_reducible rfl) (by simp only [Act.put, List.setIfInBounds_toArray, List.set_cons_zero, List.set_cons_succ]; rfl) ?_
        refine pu_ 3 20 rfl rfl (by kernel_rfl) (fun _ _ _ h => h) (by rfl) (fun w' => by go_simp; all_goals with_reducible rfl) (by simp only [Act.put, List.setIfInBounds_toArray, List.set_cons_zero, List.set_cons_succ]; rfl) ?_
        refine pu_ 4 21 rfl rfl (by kernel_rfl) (fun _ _ _ h => h) (by rfl) (fun w' => by go_simp; all_goals with_reducible rfl) (by simp only [Act.put, List.setIfInBounds_toArray, List.set_cons_zero, List.set_cons_succ]; rfl) ?_
        refine pu_ 5 22 rfl rfl (by kernel_rfl) (fun _ _ _ h => h) (by rfl) (fun w' => by go_simp; all_goals with_reducible rfl) (by simp only [Act.put, List.setIfInBounds_toArray, List.set_cons_zero, List.set_cons_succ]; rfl) ?_
        refine pu_ 6 23 rfl rfl (by kernel_rfl) (fun _ _ _ h => h) (by rfl) (fun w' => by go_simp; all_goals with_reducible rfl) (by simp only [Act.put, List.setIfInBounds_toArray, List.set_cons_zero, List.set_cons_succ]; rfl) ?_
        refine tk_ 7 24 hHeld rfl rfl (by kernel_rfl) (fun _ _ _ h => h) (by rfl) (fun w' hS' => by
          have g0 := pw_cell_below hS' y0
          have g1 := pw_cell_below hS' y1
          go_simp
          all_goals with_reducible rfl) (by simp only [Act.put, List.setIfInBounds_toArray, List.set_cons_zero, List.set_cons_succ]; rfl) ?_
        refine cl_ 8 25 Try.func59 hHeld (cv_ (cross_any a.f0 a.f1 b.f0 b.f1 c2.f0 c2.f1 c3.f0 c3.f1 _) (by rw [hx])) rfl rfl (by kernel_rfl) (by decide) (by kernel_rfl) rfl (by rfl) rfl (by first | rfl | (simp only [List.map_toArray, List.map_cons, List.map_nil]; rfl)) (by simp only [Act.put, List.setIfInBounds_toArray, List.set_cons_zero, List.set_cons_succ]; rfl) (fun w4 hb4 hHeld => ?_)
        refine pu_ 9 16 rfl rfl (by kernel_rfl) (fun _ _ _ h => h) (by rfl) (fun w' => by go_simp; all_goals with_reducible rfl) (by simp only [Act.put, List.setIfInBounds_toArray, List.set_cons_zero, List.set_cons_succ]; rfl) ?_
        refine pu_ 10 26 rfl rfl (by kernel_rfl) (fun _ _ _ h => h) (by rfl) (fun w' => by go_simp; all_goals with_reducible rfl) (by simp only [Act.put, List.setIfInBounds_toArray, List.set_cons_zero, List.set_cons_succ]; rfl) ?_
        refine pu_ 11 27 rfl rfl (by kernel_rfl) (fun _ _ _ h => h) (by rfl) (fun w' => by go_simp; all_goals with_reducible rfl) (by simp only [Act.put, List.setIfInBounds_toArray, List.set_cons_zero, List.set_cons_succ]; rfl) ?_
        refine pu_ 12 9 rfl rfl (by kernel_rfl) (fun _ _ _ h => h) (by rfl) (fun w' => by go_simp; all_goals with_reducible rfl) (by simp only [Act.put, List.setIfInBounds_toArray, List.set_cons_zero, List.set_cons_succ]; rfl) ?_
        refine pu_ 13 10 rfl rfl (by kernel_rfl) (fun _ _ _ h => h) (by rfl) (fun w' => by go_simp; all_goals with_reducible rfl) (by simp only [Act.put, List.setIfInBounds_toArray, List.set_cons_zero, List.set_cons_succ]; rfl) ?_
        refine done_ (by kernel_rfl) ?_
        have HB3 := Aside0.mk (below_then HBw.out HBw.out.size hHeld)
        clear hHeld a0 a1 b0 b1 x0 x1 y0 y1 hb4
        have HYes := Aside0.mk (sides_yes a b c0 c1 c2 c3 2 (by omega) hx)
        clear hx
        go_wp2
        go_ret
        exact ⟨by rw [HYes.out]; rfl, below_then HB0.out HB0.out.size HB3.out⟩
    · have hw : IntKind.i64.wrap 4 = 4 := rfl
      have ht : (4 : Int).tmod 4 = 0 := rfl
      go_upto_region 4 with (fail)
      have HX := Aside0.mk (blk_new wr (.cells #[.int .i64 c3.f0, .int .i64 c3.f1] 23))
      have HBw := Aside0.mk (below_alloc HB.out (.cells #[.int .i64 c3.f0, .int .i64 c3.f1] 23))
      generalize wr.alloc (.cells #[.int .i64 c3.f0, .int .i64 c3.f1] 23) = W at *
      generalize wr.heap.size = xb at *
      have a0 : W.cell? ⟨w.heap.size, 0, none⟩ = some (.int .i64 a.f0) := (blk_cell (blk_below HA.out HBw.out) 0).trans rfl
      have a1 : W.cell? ⟨w.heap.size, 1, none⟩ = some (.int .i64 a.f1) := (blk_cell (blk_below HA.out HBw.out) 1).trans rfl
      have b0 : W.cell? ⟨w.heap.size + 1, 0, none⟩ = some (.int .i64 b.f0) := (blk_cell (blk_below HBb.out HBw.out) 0).trans rfl
      have b1 : W.cell? ⟨w.heap.size + 1, 1, none⟩ = some (.int .i64 b.f1) := (blk_cell (blk_below HBb.out HBw.out) 1).trans rfl
      have x0 : W.cell? ⟨xb, 0, none⟩ = some (.int .i64 c3.f0) := (blk_cell HX.out 0).trans rfl
      have x1 : W.cell? ⟨xb, 1, none⟩ = some (.int .i64 c3.f1) := (blk_cell HX.out 1).trans rfl
      have y0 : W.cell? ⟨w.heap.size + 1 + 1, 0, none⟩ = some (.int .i64 c0.f0) := (blk_cell (blk_below HC.out HBw.out) 0).trans rfl
      have y1 : W.cell? ⟨w.heap.size + 1 + 1, 1, none⟩ = some (.int .i64 c0.f1) := (blk_cell (blk_below HC.out HBw.out) 1).trans rfl
      cases hx : crossA a.f0 a.f1 b.f0 b.f1 c3.f0 c3.f1 c0.f0 c0.f1
      case false =>
        refine be_ 14 [] (W := W) rfl (by kernel_rfl) (fun hHeld => ?_)
        refine tk_ 0 17 hHeld rfl rfl (by kernel_rfl) (fun _ _ _ h => h) (by rfl) (fun w' hS' => by
          have g0 := pw_cell_below hS' a0
          have g1 := pw_cell_below hS' a1
          go_simp
          all_goals with_reducible rfl) (by simp only [Act.put, List.setIfInBounds_toArray, List.set_cons_zero, List.set_cons_succ]; rfl) ?_
        refine tk_ 1 18 hHeld rfl rfl (by kernel_rfl) (fun _ _ _ h => h) (by rfl) (fun w' hS' => by
          have g0 := pw_cell_below hS' b0
          have g1 := pw_cell_below hS' b1
          go_simp
          all_goals with_reducible rfl) (by simp only [Act.put, List.setIfInBounds_toArray, List.set_cons_zero, List.set_cons_succ]; rfl) ?_
        refine tk_ 2 19 hHeld rfl rfl (by kernel_rfl) (fun _ _ _ h => h) (by rfl) (fun w' hS' => by
          have g0 := pw_cell_below hS' x0
          have g1 := pw_cell_below hS' x1
          go_simp
          all_goals with_reducible rfl) (by simp only [Act.put, List.setIfInBounds_toArray, List.set_cons_zero, List.set_cons_succ]; rfl) ?_
        refine pu_ 3 20 rfl rfl (by kernel_rfl) (fun _ _ _ h => h) (by rfl) (fun w' => by go_simp; all_goals with_reducible rfl) (by simp only [Act.put, List.setIfInBounds_toArray, List.set_cons_zero, List.set_cons_succ]; rfl) ?_
        refine pu_ 4 21 rfl rfl (by kernel_rfl) (fun _ _ _ h => h) (by rfl) (fun w' => by go_simp; all_goals with_reducible rfl) (by simp only [Act.put, List.setIfInBounds_toArray, List.set_cons_zero, List.set_cons_succ]; rfl) ?_
        refine pu_ 5 22 rfl rfl (by kernel_rfl) (fun _ _ _ h => h) (by rfl) (fun w' => by go_simp; all_goals with_reducible rfl) (by simp only [Act.put, List.setIfInBounds_toArray, List.set_cons_zero, List.set_cons_succ]; rfl) ?_
        refine pu_ 6 23 rfl rfl (by kernel_rfl) (fun _ _ _ h => h) (by rfl) (fun w' => by go_simp; all_goals with_reducible rfl) (by simp only [Act.put, List.setIfInBounds_toArray, List.set_cons_zero, List.set_cons_succ]; rfl) ?_
        refine tk_ 7 24 hHeld rfl rfl (by kernel_rfl) (fun _ _ _ h => h) (by rfl) (fun w' hS' => by
          have g0 := pw_cell_below hS' y0
          have g1 := pw_cell_below hS' y1
          go_simp
          all_goals with_reducible rfl) (by simp only [Act.put, List.setIfInBounds_toArray, List.set_cons_zero, List.set_cons_succ]; rfl) ?_
        refine cl_ 8 25 Try.func59 hHeld (cv_ (cross_any a.f0 a.f1 b.f0 b.f1 c3.f0 c3.f1 c0.f0 c0.f1 _) (by rw [hx])) rfl rfl (by kernel_rfl) (by decide) (by kernel_rfl) rfl (by rfl) rfl (by first | rfl | (simp only [List.map_toArray, List.map_cons, List.map_nil]; rfl)) (by simp only [Act.put, List.setIfInBounds_toArray, List.set_cons_zero, List.set_cons_succ]; rfl) (fun w4 hb4 hHeld => ?_)
        refine pu_ 9 16 rfl rfl (by kernel_rfl) (fun _ _ _ h => h) (by rfl) (fun w' => by go_simp; all_goals with_reducible rfl) (by simp only [Act.put, List.setIfInBounds_toArray, List.set_cons_zero, List.set_cons_succ]; rfl) ?_
        refine pu_ 10 26 rfl rfl (by kernel_rfl) (fun _ _ _ h => h) (by rfl) (fun w' => by go_simp; all_goals with_reducible rfl) (by simp only [Act.put, List.setIfInBounds_toArray, List.set_cons_zero, List.set_cons_succ]; rfl) ?_
        refine pu_ 11 27 rfl rfl (by kernel_rfl) (fun _ _ _ h => h) (by rfl) (fun w' => by go_simp; all_goals with_reducible rfl) (by simp only [Act.put, List.setIfInBounds_toArray, List.set_cons_zero, List.set_cons_succ]; rfl) ?_
        refine pu_ 12 9 rfl rfl (by kernel_rfl) (fun _ _ _ h => h) (by rfl) (fun w' => by go_simp; all_goals with_reducible rfl) (by simp only [Act.put, List.setIfInBounds_toArray, List.set_cons_zero, List.set_cons_succ]; rfl) ?_
        refine pu_ 13 10 rfl rfl (by kernel_rfl) (fun _ _ _ h => h) (by rfl) (fun w' => by go_simp; all_goals with_reducible rfl) (by simp only [Act.put, List.setIfInBounds_toArray, List.set_cons_zero, List.set_cons_succ]; rfl) ?_
        refine done_ (by kernel_rfl) ?_
        have HB3 := Aside0.mk (below_then HBw.out HBw.out.size hHeld)
        clear hHeld a0 a1 b0 b1 x0 x1 y0 y1 hb4
        go_wp2
        go_roundw
        case rel => exact ⟨4, 4, by omega, by rfl, by rfl, ⟨fun j hj => by rcases Nat.lt_succ_iff_lt_or_eq.1 hj with h | rfl; exact HNo.out j h; exact hx⟩, HB3⟩
        case measure => simp [intOf]
      case true =>
        refine be_ 14 [] (W := W) rfl (by kernel_rfl) (fun hHeld => ?_)
        refine tk_ 0 17 hHeld rfl rfl (by kernel_rfl) (fun _ _ _ h => h) (by rfl) (fun w' hS' => by
          have g0 := pw_cell_below hS' a0
          have g1 := pw_cell_below hS' a1
          go_simp
          all_goals with_reducible rfl) (by simp only [Act.put, List.setIfInBounds_toArray, List.set_cons_zero, List.set_cons_succ]; rfl) ?_
        refine tk_ 1 18 hHeld rfl rfl (by kernel_rfl) (fun _ _ _ h => h) (by rfl) (fun w' hS' => by
          have g0 := pw_cell_below hS' b0
          have g1 := pw_cell_below hS' b1
          go_simp
          all_goals with_reducible rfl) (by simp only [Act.put, List.setIfInBounds_toArray, List.set_cons_zero, List.set_cons_succ]; rfl) ?_
        refine tk_ 2 19 hHeld rfl rfl (by kernel_rfl) (fun _ _ _ h => h) (by rfl) (fun w' hS' => by
          have g0 := pw_cell_below hS' x0
          have g1 := pw_cell_below hS' x1
          go_simp
          all_goals with_reducible rfl) (by simp only [Act.put, List.setIfInBounds_toArray, List.set_cons_zero, List.set_cons_succ]; rfl) ?_
        refine pu_ 3 20 rfl rfl (by kernel_rfl) (fun _ _ _ h => h) (by rfl) (fun w' => by go_simp; all_goals with_reducible rfl) (by simp only [Act.put, List.setIfInBounds_toArray, List.set_cons_zero, List.set_cons_succ]; rfl) ?_
        refine pu_ 4 21 rfl rfl (by kernel_rfl) (fun _ _ _ h => h) (by rfl) (fun w' => by go_simp; all_goals with_reducible rfl) (by simp only [Act.put, List.setIfInBounds_toArray, List.set_cons_zero, List.set_cons_succ]; rfl) ?_
        refine pu_ 5 22 rfl rfl (by kernel_rfl) (fun _ _ _ h => h) (by rfl) (fun w' => by go_simp; all_goals with_reducible rfl) (by simp only [Act.put, List.setIfInBounds_toArray, List.set_cons_zero, List.set_cons_succ]; rfl) ?_
        refine pu_ 6 23 rfl rfl (by kernel_rfl) (fun _ _ _ h => h) (by rfl) (fun w' => by go_simp; all_goals with_reducible rfl) (by simp only [Act.put, List.setIfInBounds_toArray, List.set_cons_zero, List.set_cons_succ]; rfl) ?_
        refine tk_ 7 24 hHeld rfl rfl (by kernel_rfl) (fun _ _ _ h => h) (by rfl) (fun w' hS' => by
          have g0 := pw_cell_below hS' y0
          have g1 := pw_cell_below hS' y1
          go_simp
          all_goals with_reducible rfl) (by simp only [Act.put, List.setIfInBounds_toArray, List.set_cons_zero, List.set_cons_succ]; rfl) ?_
        refine cl_ 8 25 Try.func59 hHeld (cv_ (cross_any a.f0 a.f1 b.f0 b.f1 c3.f0 c3.f1 c0.f0 c0.f1 _) (by rw [hx])) rfl rfl (by kernel_rfl) (by decide) (by kernel_rfl) rfl (by rfl) rfl (by first | rfl | (simp only [List.map_toArray, List.map_cons, List.map_nil]; rfl)) (by simp only [Act.put, List.setIfInBounds_toArray, List.set_cons_zero, List.set_cons_succ]; rfl) (fun w4 hb4 hHeld => ?_)
        refine pu_ 9 16 rfl rfl (by kernel_rfl) (fun _ _ _ h => h) (by rfl) (fun w' => by go_simp; all_goals with_reducible rfl) (by simp only [Act.put, List.setIfInBounds_toArray, List.set_cons_zero, List.set_cons_succ]; rfl) ?_
        refine pu_ 10 26 rfl rfl (by kernel_rfl) (fun _ _ _ h => h) (by rfl) (fun w' => by go_simp; all_goals with_reducible rfl) (by simp only [Act.put, List.setIfInBounds_toArray, List.set_cons_zero, List.set_cons_succ]; rfl) ?_
        refine pu_ 11 27 rfl rfl (by kernel_rfl) (fun _ _ _ h => h) (by rfl) (fun w' => by go_simp; all_goals with_reducible rfl) (by simp only [Act.put, List.setIfInBounds_toArray, List.set_cons_zero, List.set_cons_succ]; rfl) ?_
        refine pu_ 12 9 rfl rfl (by kernel_rfl) (fun _ _ _ h => h) (by rfl) (fun w' => by go_simp; all_goals with_reducible rfl) (by simp only [Act.put, List.setIfInBounds_toArray, List.set_cons_zero, List.set_cons_succ]; rfl) ?_
        refine pu_ 13 10 rfl rfl (by kernel_rfl) (fun _ _ _ h => h) (by rfl) (fun w' => by go_simp; all_goals with_reducible rfl) (by simp only [Act.put, List.setIfInBounds_toArray, List.set_cons_zero, List.set_cons_succ]; rfl) ?_
        refine done_ (by kernel_rfl) ?_
        have HB3 := Aside0.mk (below_then HBw.out HBw.out.size hHeld)
        clear hHeld a0 a1 b0 b1 x0 x1 y0 y1 hb4
        have HYes := Aside0.mk (sides_yes a b c0 c1 c2 c3 3 (by omega) hx)
        clear hx
        go_wp2
        go_ret
        exact ⟨by rw [HYes.out]; rfl, below_then HB0.out HB0.out.size HB3.out⟩
    · have HNot := Aside0.mk (sides_no a b c0 c1 c2 c3 HNo.out)
      go_wp2
      go_ret
      exact ⟨by rw [HNot.out]; rfl, below_then HB0.out HB0.out.size HB.out⟩
end Go.Proofs.Ytmednnpmkhgfpaa.SH
end
section
/- Has a feature one of a row of places? -/
namespace Go.Proofs.Ytmednnpmkhgfpaa.SH
open Go Go.RowKit Go.Proofs.YtmednnpmkhgfpaaW.PrintWords Go.Proofs.Ytmednnpmkhgfpaa.PShapes Go.Proofs.Ytmednnpmkhgfpaa.Geo
set_option linter.unusedVariables false
set_option linter.unusedSimpArgs false
attribute [local go_sem high] eqA23

theorem own_any (fb : Nat) (f : Ft) (A : Option Addr) (c : Nat) (p : S23) (w : World) (hf : Feat w fb f A c) (hm : mayB f = true) (hp : ptP p = true) :
    Calls Try.prog 40 #[.agg #[.int .i64 p.f0, .int .i64 p.f1], .pointer (some ⟨fb, 0, none⟩)] w fun e w' => e = .returned (.bool (hasB f p)) ∧ Below w.heap.size w w' := by
  have HF := Aside0.mk (hf.below (below_alloc (Below.refl _ _) (.cells #[.int .i64 p.f0, .int .i64 p.f1] 23)))
  have HM := Aside0.mk hm
  have HP := Aside0.mk hp
  clear hf hm hp
  go_enter Try.func40, Try.ntmps40
  go_wp2_with fail
  refine (has_any fb f A c p _ HF.out.id HF.out.shape HF.out.rings HF.out.row (may_pts HM.out) HP.out (may_ne HM.out) (may_zero HM.out)).mono ?_
  rintro e w1 ⟨rfl, hb⟩
  have HB := Aside0.mk (below_then (below_alloc (Below.refl w.heap.size w) (.cells #[.int .i64 p.f0, .int .i64 p.f1] 23)) (below_alloc (Below.refl w.heap.size w) (.cells #[.int .i64 p.f0, .int .i64 p.f1] 23)).size hb)
  clear hb
  go_wp2_with fail
  go_ret
  exact ⟨rfl, HB.out⟩
def idxHas (f : Ft) : List S23 → Int → Int
  | [], _ => -1
  | x :: l, i => if hasB f x then i else idxHas f l (i + 1)
theorem idxHas_at (f : Ft) (l : List S23) (k : Nat) (hk : k < l.length) : idxHas f (l.drop k) k = if hasB f (rdP l k) then (k : Int) else idxHas f (l.drop (k + 1)) ((k : Int) + 1) := by
  have e : l.drop k = rdP l k :: l.drop (k + 1) := by
    rw [List.drop_eq_getElem_cons hk]
    unfold rdP
    simp [hk]
  rw [e, idxHas]
theorem idxHas_neg (f : Ft) : ∀ (l : List S23) (i : Int), 0 ≤ i → decide (0 ≤ idxHas f l i) = l.any (hasB f)
  | [], _, _ => rfl
  | x :: l, i, h => by
    unfold idxHas
    rw [List.any_cons]
    cases hasB f x
    · simpa using idxHas_neg f l (i + 1) (by omega)
    · simpa using h
set_option maxHeartbeats 4000000 in
set_option maxRecDepth 100000 in
theorem indexHas_any (fb : Nat) (f : Ft) (A0 : Option Addr) (c0 : Nat) (A : Option Addr) (c : Nat) (ps : List S23) (w : World) (hf : Feat w fb f A0 c0) (hm : mayB f = true) (h : PC w A ps) (hps : ∀ p ∈ ps, ptP p = true) :
    Calls Try.prog 60 #[.slice A ps.length c, .func (.func 40) #[] #[.pointer (some ⟨fb, 0, none⟩)]] w fun e w' => e = .returned (.int .i64 (idxHas f ps 0)) ∧ Below w.heap.size w w' := by
  have HR := Aside0.mk h
  have HF := Aside0.mk hf
  have HM := Aside0.mk hm
  have HPs := Aside0.mk hps
  have hmax : (ps.length : Int) ≤ 9223372036854775807 := by have := h.2.1; omega
  clear h hf hm hps
  go_enter Try.func60, Try.ntmps60
  go_wp2
  go_loopw [8] (fun i wr => ∃ k : Nat, k ≤ ps.length ∧ i = .int .i64 k ∧ Aside0 (idxHas f (ps.drop k) k = idxHas f ps 0) ∧ Aside0 (Below w.heap.size w wr)) (fun i _ => ps.length - (intOf i).toNat)
  case atStart => exact ⟨0, Nat.zero_le _, rfl, ⟨rfl⟩, ⟨Below.refl _ _⟩⟩
  case round =>
    obtain ⟨k, hk, rfl, HI, HB⟩ := hrel
    by_cases hlt : k < ps.length
    · have HX := Aside0.mk (idxHas_at f ps k hlt)
      obtain ⟨ad, e1, p0, p1⟩ := at_p (Kd.C_below HR.out HB.out) k hlt
      subst e1
      have HPt := Aside0.mk (HPs.out _ (rdP_mem hlt))
      generalize rdP ps k = p at *
      go_wp2_with fail
      refine (own_any fb f A0 c0 p _ (HF.out.below HB.out) HM.out HPt.out).mono ?_
      rintro e w1 ⟨rfl, hb⟩
      have HB1 := Aside0.mk (below_then HB.out HB.out.size hb)
      clear hb
      cases hh : hasB f p
      · rw [hh] at HX
        go_wp2_with fail
        go_roundw
        case rel => exact ⟨k + 1, by omega, by go_num, ⟨by rw [← HI.out, HX.out]; rfl⟩, HB1⟩
        case measure => simp [intOf]; omega
      · rw [hh] at HX
        go_wp2_with fail
        go_ret
        refine ⟨?_, HB1.out⟩
        rw [← HI.out, HX.out]
        rfl
    · go_wp2
      go_ret
      refine ⟨?_, HB.out⟩
      rw [← HI.out, List.drop_eq_nil_of_le (by omega)]
      rfl
theorem anyHas_any (fb : Nat) (f : Ft) (A0 : Option Addr) (c0 : Nat) (A : Option Addr) (c : Nat) (ps : List S23) (w : World) (hf : Feat w fb f A0 c0) (hm : mayB f = true) (h : PC w A ps) (hps : ∀ p ∈ ps, ptP p = true) :
    Calls Try.prog 41 #[.slice A ps.length c, .func (.func 40) #[] #[.pointer (some ⟨fb, 0, none⟩)]] w fun e w' => e = .returned (.bool (ps.any (hasB f))) ∧ Below w.heap.size w w' := by
  have HC := Aside0.mk (indexHas_any fb f A0 c0 A c ps w hf hm h hps)
  clear h hf hps
  have HE := Aside0.mk (idxHas_neg f ps 0 (Int.le_refl _))
  go_enter Try.func41, Try.ntmps41
  go_wp2_with fail
  refine HC.out.mono ?_
  rintro e w1 ⟨rfl, hb⟩
  have HB := Aside0.mk hb
  clear hb
  go_wp2_with fail
  go_ret
  exact ⟨by rw [← HE.out]; rfl, HB.out⟩
end Go.Proofs.Ytmednnpmkhgfpaa.SH
end
