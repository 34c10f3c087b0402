/- What shape.ring answers: may a ring be. -/
import Derived.Test.YtmednnpmkhgfpaaShA
import Derived.Test.YtmednnpmkhgfpaaShW
import Derived.Test.YtmednnpmkhgfpaaGeoWA
import Derived.RangeFuncNested
import Derived.RangeFuncBound
import Derived.RangeFuncCalls
import Derived.RangeFuncLeaves
import Derived.Shelf.Abstract
import Derived.Shelf.RegionOpen
import Derived.WalkKit
import Derived.OwnWalkIn
import Derived.TacticsInMore
import Derived.LoopNIn
import Derived.LoopIn
section
namespace Go.Proofs.Ytmednnpmkhgfpaa.SH
open Go Go.RowKit Go.Proofs.YtmednnpmkhgfpaaW.PrintWords Go.Proofs.YtmednnpmkhgfpaaW.PrintLast Go.Proofs.YtmednnpmkhgfpaaW.PrintMore Go.Proofs.Ytmednnpmkhgfpaa.PShapes Go.Proofs.Ytmednnpmkhgfpaa.Geo
open Go.Proofs.Ytmednnpmkhgfpaa.GW (pointMay_any)
set_option linter.unusedVariables false
set_option linter.unusedSimpArgs false
attribute [local go_sem high] eqA23

set_option maxHeartbeats 8000000 in
set_option maxRecDepth 100000 in
theorem ring_any (A : Option Addr) (c : Nat) (ps : List S23) (least : Int) (closed : Bool) (w : World) (h : PC w A ps) :
    Calls Try.prog 31 #[.slice A ps.length c, .int .i64 least, .bool closed] w fun e w' => e = .returned (.bool (ringB ps least closed)) ∧ Below w.heap.size w w' := by
  have HR := Aside0.mk h
  have hmax : (ps.length : Int) ≤ 9223372036854775807 := by have := h.2.1; omega
  clear h
  by_cases h1 : (ps.length : Int) < least
  · rw [ring_short h1]
    go_enter Try.func31, Try.ntmps31
    go_wp2
    go_ret
    exact ⟨rfl, Below.refl _ _⟩
  by_cases h2 : (16 : Int) < ps.length
  · rw [ring_long (by omega)]
    go_enter Try.func31, Try.ntmps31
    go_wp2
    go_ret
    exact ⟨rfl, Below.refl _ _⟩
  go_enter Try.func31, Try.ntmps31
  go_wp2
  go_loopw [21] (fun i wr => ∃ k : Nat, k ≤ ps.length ∧ i = .int .i64 (k : Int) ∧ Aside0 (∀ j, j < k → okAt ps closed j = true) ∧ Aside0 (Below w.heap.size w wr)) (fun i _ => ps.length - (intOf i).toNat)
  case atStart => exact ⟨0, Nat.zero_le _, rfl, ⟨fun j hj => absurd hj (by omega)⟩, ⟨Below.refl _ _⟩⟩
  case round =>
    obtain ⟨k, hk, rfl, HOk, HB⟩ := hrel
    by_cases hkn : k < ps.length
    · obtain ⟨ad, e, c0, c1⟩ := at_p (Kd.C_below HR.out HB.out) k hkn
      subst e
      have hnl := nxt_lt hkn
      obtain ⟨ad1, e1, hq⟩ := at_p (Kd.C_below HR.out HB.out) _ hnl
      cases e1
      have h0n : 0 < ps.length := by omega
      have HGd := Aside0.mk (show okAt ps closed k = (ptP (rdP ps k) && !((decide (0 < nxt ps.length k) || closed) && eqP (rdP ps k) (rdP ps (nxt ps.length k)))) from rfl)
      generalize rdP ps k = p at *
      generalize rdP ps (nxt ps.length k) = q at *
      have HQ0 := Aside0.mk hq
      clear hq
      have hw1 : IntKind.i64.wrap ((k : Int) + 1) = (k : Int) + 1 := IntWalk.i64_in _ ⟨by omega, by omega⟩
      have HBx := Aside0.mk (below_alloc HB.out (.cells #[.int .i64 p.f0, .int .i64 p.f1] 23))
      have HX := Aside0.mk (blk_new wr (.cells #[.int .i64 p.f0, .int .i64 p.f1] 23))
      have HQ := Aside0.mk (HQ0.out.below (below_alloc (Below.refl _ wr) (.cells #[.int .i64 p.f0, .int .i64 p.f1] 23)))
      clear HQ0
      by_cases hn : (k : Int) + 1 = ps.length
      · have hnx : nxt ps.length k = 0 := by unfold nxt; rw [if_pos (by omega)]
        rw [hnx] at HGd HQ
        rw [show ad.add (0 * 2) = ad from rfl] at HQ
        clear hnx hnl
        go_upto_region 9 with (fail)
        clear c0 c1
        generalize wr.alloc (.cells #[.int .i64 p.f0, .int .i64 p.f1] 23) = W at *
        generalize wr.heap.size = b at *
        have b0 : W.cell? ⟨b, 0, none⟩ = some (.int .i64 p.f0) := (blk_cell HX.out 0).trans rfl
        have b1 : W.cell? ⟨b, 1, none⟩ = some (.int .i64 p.f1) := (blk_cell HX.out 1).trans rfl
        clear HX
        cases hp : ptP p
        case false =>
          have HP := Aside0.mk hp
          have HBad := Aside0.mk (show okAt ps closed k = false by rw [HGd.out, hp]; rfl)
          clear hp
          refine be_ 18 [] (W := W) rfl (by kernel_rfl) (fun hHeld => ?_)
          refine tk_ 0 32 hHeld rfl rfl (by kernel_rfl) (fun _ _ _ h => h) (by rfl) (fun w' hS' => by
            have q0 := pw_cell_below hS' b0
            have q1 := pw_cell_below hS' b1
            go_simp
            all_goals with_reducible rfl) (by simp only [Act.put, List.setIfInBounds_toArray, List.set_cons_zero, List.set_cons_succ]; rfl) ?_
          refine cl_ 1 33 Try.func29 hHeld (cv_ (pointMay_any p.f0 p.f1 _) (congrArg Value.bool (show ptB p.f0 p.f1 = false from HP.out))) rfl rfl (by kernel_rfl) (by decide) (by kernel_rfl) rfl (by rfl) rfl (by first | rfl | (simp only [List.map_toArray, List.map_cons, List.map_nil]; rfl)) (by simp only [Act.put, List.setIfInBounds_toArray, List.set_cons_zero, List.set_cons_succ]; rfl) (fun w4 hb4 hHeld => ?_)
          refine pu_ 2 34 rfl rfl (by kernel_rfl) (fun _ _ _ h => h) (by rfl) (fun w' => by go_simp; all_goals with_reducible rfl) (by simp only [Act.put, List.setIfInBounds_toArray, List.set_cons_zero, List.set_cons_succ]; rfl) ?_
          refine pu_ 3 35 rfl rfl (by kernel_rfl) (fun _ _ _ h => h) (by rfl) (fun w' => by go_simp; all_goals with_reducible rfl) (by simp only [Act.put, List.setIfInBounds_toArray, List.set_cons_zero, List.set_cons_succ]; rfl) ?_
          refine no_ 4 (some 36) rfl rfl (by kernel_rfl) (fun _ _ _ h => h) (by rfl) (by simp only [Act.put, List.setIfInBounds_toArray, List.set_cons_zero, List.set_cons_succ]; rfl) ?_
          refine no_ 5 (some 37) rfl rfl (by kernel_rfl) (fun _ _ _ h => h) (by rfl) (by simp only [Act.put, List.setIfInBounds_toArray, List.set_cons_zero, List.set_cons_succ]; rfl) ?_
          refine no_ 6 (some 38) rfl rfl (by kernel_rfl) (fun _ _ _ h => h) (by rfl) (by simp only [Act.put, List.setIfInBounds_toArray, List.set_cons_zero, List.set_cons_succ]; rfl) ?_
          refine no_ 7 (some 39) rfl rfl (by kernel_rfl) (fun _ _ _ h => h) (by rfl) (by simp only [Act.put, List.setIfInBounds_toArray, List.set_cons_zero, List.set_cons_succ]; rfl) ?_
          refine no_ 8 (some 40) rfl rfl (by kernel_rfl) (fun _ _ _ h => h) (by rfl) (by simp only [Act.put, List.setIfInBounds_toArray, List.set_cons_zero, List.set_cons_succ]; rfl) ?_
          refine no_ 9 (some 41) rfl rfl (by kernel_rfl) (fun _ _ _ h => h) (by rfl) (by simp only [Act.put, List.setIfInBounds_toArray, List.set_cons_zero, List.set_cons_succ]; rfl) ?_
          refine no_ 10 (some 42) rfl rfl (by kernel_rfl) (fun _ _ _ h => h) (by rfl) (by simp only [Act.put, List.setIfInBounds_toArray, List.set_cons_zero, List.set_cons_succ]; rfl) ?_
          refine no_ 11 (some 43) rfl rfl (by kernel_rfl) (fun _ _ _ h => h) (by rfl) (by simp only [Act.put, List.setIfInBounds_toArray, List.set_cons_zero, List.set_cons_succ]; rfl) ?_
          refine no_ 12 (some 44) rfl rfl (by kernel_rfl) (fun _ _ _ h => h) (by rfl) (by simp only [Act.put, List.setIfInBounds_toArray, List.set_cons_zero, List.set_cons_succ]; rfl) ?_
          refine no_ 13 (some 45) rfl rfl (by kernel_rfl) (fun _ _ _ h => h) (by rfl) (by simp only [Act.put, List.setIfInBounds_toArray, List.set_cons_zero, List.set_cons_succ]; rfl) ?_
          refine no_ 14 (some 46) rfl rfl (by kernel_rfl) (fun _ _ _ h => h) (by rfl) (by simp only [Act.put, List.setIfInBounds_toArray, List.set_cons_zero, List.set_cons_succ]; rfl) ?_
          refine no_ 15 (some 47) rfl rfl (by kernel_rfl) (fun _ _ _ h => h) (by rfl) (by simp only [Act.put, List.setIfInBounds_toArray, List.set_cons_zero, List.set_cons_succ]; rfl) ?_
          refine no_ 16 (some 48) rfl rfl (by kernel_rfl) (fun _ _ _ h => h) (by rfl) (by simp only [Act.put, List.setIfInBounds_toArray, List.set_cons_zero, List.set_cons_succ]; rfl) ?_
          refine pu_ 17 49 rfl rfl (by kernel_rfl) (fun _ _ _ h => h) (by rfl) (fun w' => by go_simp; all_goals with_reducible rfl) (by simp only [Act.put, List.setIfInBounds_toArray, List.set_cons_zero, List.set_cons_succ]; rfl) ?_
          refine done_ (by kernel_rfl) ?_
          have HB3 := Aside0.mk (below_then HBx.out HBx.out.size hHeld)
          clear hHeld
          go_wp2
          go_ret
          exact ⟨by first | (rw [ring_bad hkn HBad.out]; done) | (rw [ring_bad hkn HBad.out]; rfl), HB3.out⟩
        case true =>
          have HP := Aside0.mk hp
          cases closed
          case false =>
            have HGood := Aside0.mk (show okAt ps false k = true by rw [HGd.out, hp]; simp)
            clear hp
            refine be_ 18 [] (W := W) rfl (by kernel_rfl) (fun hHeld => ?_)
            refine tk_ 0 32 hHeld rfl rfl (by kernel_rfl) (fun _ _ _ h => h) (by rfl) (fun w' hS' => by
              have q0 := pw_cell_below hS' b0
              have q1 := pw_cell_below hS' b1
              go_simp
              all_goals with_reducible rfl) (by simp only [Act.put, List.setIfInBounds_toArray, List.set_cons_zero, List.set_cons_succ]; rfl) ?_
            refine cl_ 1 33 Try.func29 hHeld (cv_ (pointMay_any p.f0 p.f1 _) (congrArg Value.bool (show ptB p.f0 p.f1 = true from HP.out))) rfl rfl (by kernel_rfl) (by decide) (by kernel_rfl) rfl (by rfl) rfl (by first | rfl | (simp only [List.map_toArray, List.map_cons, List.map_nil]; rfl)) (by simp only [Act.put, List.setIfInBounds_toArray, List.set_cons_zero, List.set_cons_succ]; rfl) (fun w4 hb4 hHeld => ?_)
            refine pu_ 2 34 rfl rfl (by kernel_rfl) (fun _ _ _ h => h) (by rfl) (fun w' => by go_simp; all_goals with_reducible rfl) (by simp only [Act.put, List.setIfInBounds_toArray, List.set_cons_zero, List.set_cons_succ]; rfl) ?_
            refine pu_ 3 35 rfl rfl (by kernel_rfl) (fun _ _ _ h => h) (by rfl) (fun w' => by go_simp; all_goals with_reducible rfl) (by simp only [Act.put, List.setIfInBounds_toArray, List.set_cons_zero, List.set_cons_succ]; rfl) ?_
            refine pu_ 4 36 rfl rfl (by kernel_rfl) (fun _ _ _ h => h) (by rfl) (fun w' => by go_simp; all_goals with_reducible rfl) (by simp only [Act.put, List.setIfInBounds_toArray, List.set_cons_zero, List.set_cons_succ]; rfl) ?_
            refine pu_ 5 37 rfl rfl (by kernel_rfl) (fun _ _ _ h => h) (by rfl) (fun w' => by go_simp; all_goals with_reducible rfl) (by simp only [Act.put, List.setIfInBounds_toArray, List.set_cons_zero, List.set_cons_succ]; rfl) ?_
            refine pu_ 6 38 rfl rfl (by kernel_rfl) (fun _ _ _ h => h) (by rfl) (fun w' => by go_simp; all_goals with_reducible rfl) (by simp only [Act.put, List.setIfInBounds_toArray, List.set_cons_zero, List.set_cons_succ]; rfl) ?_
            refine pu_ 7 39 rfl rfl (by kernel_rfl) (fun _ _ _ h => h) (by rfl) (fun w' => by go_simp; all_goals with_reducible rfl) (by simp only [Act.put, List.setIfInBounds_toArray, List.set_cons_zero, List.set_cons_succ]; rfl) ?_
            refine pu_ 8 40 rfl rfl (by kernel_rfl) (fun _ _ _ h => h) (by rfl) (fun w' => by go_simp; all_goals with_reducible rfl) (by simp only [Act.put, List.setIfInBounds_toArray, List.set_cons_zero, List.set_cons_succ]; rfl) ?_
            refine pu_ 9 41 rfl rfl (by kernel_rfl) (fun _ _ _ h => h) (by rfl) (fun w' => by go_simp; all_goals with_reducible rfl) (by simp only [Act.put, List.setIfInBounds_toArray, List.set_cons_zero, List.set_cons_succ]; rfl) ?_
            refine no_ 10 (some 42) rfl rfl (by kernel_rfl) (fun _ _ _ h => h) (by rfl) (by simp only [Act.put, List.setIfInBounds_toArray, List.set_cons_zero, List.set_cons_succ]; rfl) ?_
            refine no_ 11 (some 43) rfl rfl (by kernel_rfl) (fun _ _ _ h => h) (by rfl) (by simp only [Act.put, List.setIfInBounds_toArray, List.set_cons_zero, List.set_cons_succ]; rfl) ?_
            refine no_ 12 (some 44) rfl rfl (by kernel_rfl) (fun _ _ _ h => h) (by rfl) (by simp only [Act.put, List.setIfInBounds_toArray, List.set_cons_zero, List.set_cons_succ]; rfl) ?_
            refine no_ 13 (some 45) rfl rfl (by kernel_rfl) (fun _ _ _ h => h) (by rfl) (by simp only [Act.put, List.setIfInBounds_toArray, List.set_cons_zero, List.set_cons_succ]; rfl) ?_
            refine no_ 14 (some 46) rfl rfl (by kernel_rfl) (fun _ _ _ h => h) (by rfl) (by simp only [Act.put, List.setIfInBounds_toArray, List.set_cons_zero, List.set_cons_succ]; rfl) ?_
            refine no_ 15 (some 47) rfl rfl (by kernel_rfl) (fun _ _ _ h => h) (by rfl) (by simp only [Act.put, List.setIfInBounds_toArray, List.set_cons_zero, List.set_cons_succ]; rfl) ?_
            refine pu_ 16 48 rfl rfl (by kernel_rfl) (fun _ _ _ h => h) (by rfl) (fun w' => by go_simp; all_goals with_reducible rfl) (by simp only [Act.put, List.setIfInBounds_toArray, List.set_cons_zero, List.set_cons_succ]; rfl) ?_
            refine pu_ 17 49 rfl rfl (by kernel_rfl) (fun _ _ _ h => h) (by rfl) (fun w' => by go_simp; all_goals with_reducible rfl) (by simp only [Act.put, List.setIfInBounds_toArray, List.set_cons_zero, List.set_cons_succ]; rfl) ?_
            refine done_ (by kernel_rfl) ?_
            have HB3 := Aside0.mk (below_then HBx.out HBx.out.size hHeld)
            clear hHeld
            go_wp2
            go_roundw
            case rel => exact ⟨k + 1, by omega, by go_num, ⟨fun j hj => by rcases Nat.lt_succ_iff_lt_or_eq.1 hj with h | rfl; exact HOk.out j h; exact HGood.out⟩, HB3⟩
            case measure => simp [intOf]; omega
          case true =>
            cases he : eqP p q
            case false =>
              have hev : (p.f0 == q.f0 && p.f1 == q.f1) = false := he
              have HGood := Aside0.mk (show okAt ps true k = true by rw [HGd.out, hp, he]; simp)
              clear he hp
              refine be_ 18 [] (W := W) rfl (by kernel_rfl) (fun hHeld => ?_)
              refine tk_ 0 32 hHeld rfl rfl (by kernel_rfl) (fun _ _ _ h => h) (by rfl) (fun w' hS' => by
                have q0 := pw_cell_below hS' b0
                have q1 := pw_cell_below hS' b1
                go_simp
                all_goals with_reducible rfl) (by simp only [Act.put, List.setIfInBounds_toArray, List.set_cons_zero, List.set_cons_succ]; rfl) ?_
              refine cl_ 1 33 Try.func29 hHeld (cv_ (pointMay_any p.f0 p.f1 _) (congrArg Value.bool (show ptB p.f0 p.f1 = true from HP.out))) rfl rfl (by kernel_rfl) (by decide) (by kernel_rfl) rfl (by rfl) rfl (by first | rfl | (simp only [List.map_toArray, List.map_cons, List.map_nil]; rfl)) (by simp only [Act.put, List.setIfInBounds_toArray, List.set_cons_zero, List.set_cons_succ]; rfl) (fun w4 hb4 hHeld => ?_)
              refine pu_ 2 34 rfl rfl (by kernel_rfl) (fun _ _ _ h => h) (by rfl) (fun w' => by go_simp; all_goals with_reducible rfl) (by simp only [Act.put, List.setIfInBounds_toArray, List.set_cons_zero, List.set_cons_succ]; rfl) ?_
              refine pu_ 3 35 rfl rfl (by kernel_rfl) (fun _ _ _ h => h) (by rfl) (fun w' => by go_simp; all_goals with_reducible rfl) (by simp only [Act.put, List.setIfInBounds_toArray, List.set_cons_zero, List.set_cons_succ]; rfl) ?_
              refine pu_ 4 36 rfl rfl (by kernel_rfl) (fun _ _ _ h => h) (by rfl) (fun w' => by go_simp; all_goals with_reducible rfl) (by simp only [Act.put, List.setIfInBounds_toArray, List.set_cons_zero, List.set_cons_succ]; rfl) ?_
              refine pu_ 5 37 rfl rfl (by kernel_rfl) (fun _ _ _ h => h) (by rfl) (fun w' => by go_simp; all_goals with_reducible rfl) (by simp only [Act.put, List.setIfInBounds_toArray, List.set_cons_zero, List.set_cons_succ]; rfl) ?_
              refine pu_ 6 38 rfl rfl (by kernel_rfl) (fun _ _ _ h => h) (by rfl) (fun w' => by go_simp; all_goals with_reducible rfl) (by simp only [Act.put, List.setIfInBounds_toArray, List.set_cons_zero, List.set_cons_succ]; rfl) ?_
              refine pu_ 7 39 rfl rfl (by kernel_rfl) (fun _ _ _ h => h) (by rfl) (fun w' => by go_simp; all_goals with_reducible rfl) (by simp only [Act.put, List.setIfInBounds_toArray, List.set_cons_zero, List.set_cons_succ]; rfl) ?_
              refine pu_ 8 40 rfl rfl (by kernel_rfl) (fun _ _ _ h => h) (by rfl) (fun w' => by go_simp; all_goals with_reducible rfl) (by simp only [Act.put, List.setIfInBounds_toArray, List.set_cons_zero, List.set_cons_succ]; rfl) ?_
              refine pu_ 9 41 rfl rfl (by kernel_rfl) (fun _ _ _ h => h) (by rfl) (fun w' => by go_simp; all_goals with_reducible rfl) (by simp only [Act.put, List.setIfInBounds_toArray, List.set_cons_zero, List.set_cons_succ]; rfl) ?_
              refine tk_ 10 42 hHeld rfl rfl (by kernel_rfl) (fun _ _ _ h => h) (by rfl) (fun w' hS' => by
                have q0 := pw_cell_below hS' b0
                have q1 := pw_cell_below hS' b1
                go_simp
                all_goals with_reducible rfl) (by simp only [Act.put, List.setIfInBounds_toArray, List.set_cons_zero, List.set_cons_succ]; rfl) ?_
              refine pu_ 11 43 rfl rfl (by kernel_rfl) (fun _ _ _ h => h) (by rfl) (fun w' => by go_simp; all_goals with_reducible rfl) (by simp only [Act.put, List.setIfInBounds_toArray, List.set_cons_zero, List.set_cons_succ]; rfl) ?_
              refine pu_ 12 44 rfl rfl (by kernel_rfl) (fun _ _ _ h => h) (by rfl) (fun w' => by go_simp; all_goals with_reducible rfl) (by simp only [Act.put, List.setIfInBounds_toArray, List.set_cons_zero, List.set_cons_succ]; rfl) ?_
              refine pu_ 13 45 rfl rfl (by kernel_rfl) (fun _ _ _ h => h) (by rfl) (fun w' => by go_simp; all_goals with_reducible rfl) (by simp only [Act.put, List.setIfInBounds_toArray, List.set_cons_zero, List.set_cons_succ]; rfl) ?_
              refine tk_ 14 46 hHeld rfl rfl (by kernel_rfl) (fun _ _ _ h => h) (by rfl) (fun w' hS' => by
                have q0 := pw_cell_below hS' HQ.out.1
                have q1 := pw_cell_below hS' HQ.out.2
                go_simp
                all_goals with_reducible rfl) (by simp only [Act.put, List.setIfInBounds_toArray, List.set_cons_zero, List.set_cons_succ]; rfl) ?_
              refine pu_ 15 47 rfl rfl (by kernel_rfl) (fun _ _ _ h => h) (by rfl) (fun w' => by go_simp; all_goals with_reducible rfl) (by simp only [Act.put, List.setIfInBounds_toArray, List.set_cons_zero, List.set_cons_succ]; rfl) ?_
              refine pu_ 16 48 rfl rfl (by kernel_rfl) (fun _ _ _ h => h) (by rfl) (fun w' => by go_simp; all_goals with_reducible rfl) (by simp only [Act.put, List.setIfInBounds_toArray, List.set_cons_zero, List.set_cons_succ]; rfl) ?_
              refine pu_ 17 49 rfl rfl (by kernel_rfl) (fun _ _ _ h => h) (by rfl) (fun w' => by go_simp; all_goals with_reducible rfl) (by simp only [Act.put, List.setIfInBounds_toArray, List.set_cons_zero, List.set_cons_succ]; rfl) ?_
              refine done_ (by kernel_rfl) ?_
              have HB3 := Aside0.mk (below_then HBx.out HBx.out.size hHeld)
              clear hHeld
              go_wp2
              go_roundw
              case rel => exact ⟨k + 1, by omega, by go_num, ⟨fun j hj => by rcases Nat.lt_succ_iff_lt_or_eq.1 hj with h | rfl; exact HOk.out j h; exact HGood.out⟩, HB3⟩
              case measure => simp [intOf]; omega
            case true =>
              have hev : (p.f0 == q.f0 && p.f1 == q.f1) = true := he
              have HBad := Aside0.mk (show okAt ps true k = false by rw [HGd.out, hp, he]; simp)
              clear he hp
              refine be_ 18 [] (W := W) rfl (by kernel_rfl) (fun hHeld => ?_)
              refine tk_ 0 32 hHeld rfl rfl (by kernel_rfl) (fun _ _ _ h => h) (by rfl) (fun w' hS' => by
                have q0 := pw_cell_below hS' b0
                have q1 := pw_cell_below hS' b1
                go_simp
                all_goals with_reducible rfl) (by simp only [Act.put, List.setIfInBounds_toArray, List.set_cons_zero, List.set_cons_succ]; rfl) ?_
              refine cl_ 1 33 Try.func29 hHeld (cv_ (pointMay_any p.f0 p.f1 _) (congrArg Value.bool (show ptB p.f0 p.f1 = true from HP.out))) rfl rfl (by kernel_rfl) (by decide) (by kernel_rfl) rfl (by rfl) rfl (by first | rfl | (simp only [List.map_toArray, List.map_cons, List.map_nil]; rfl)) (by simp only [Act.put, List.setIfInBounds_toArray, List.set_cons_zero, List.set_cons_succ]; rfl) (fun w4 hb4 hHeld => ?_)
              refine pu_ 2 34 rfl rfl (by kernel_rfl) (fun _ _ _ h => h) (by rfl) (fun w' => by go_simp; all_goals with_reducible rfl) (by simp only [Act.put, List.setIfInBounds_toArray, List.set_cons_zero, List.set_cons_succ]; rfl) ?_
              refine pu_ 3 35 rfl rfl (by kernel_rfl) (fun _ _ _ h => h) (by rfl) (fun w' => by go_simp; all_goals with_reducible rfl) (by simp only [Act.put, List.setIfInBounds_toArray, List.set_cons_zero, List.set_cons_succ]; rfl) ?_
              refine pu_ 4 36 rfl rfl (by kernel_rfl) (fun _ _ _ h => h) (by rfl) (fun w' => by go_simp; all_goals with_reducible rfl) (by simp only [Act.put, List.setIfInBounds_toArray, List.set_cons_zero, List.set_cons_succ]; rfl) ?_
              refine pu_ 5 37 rfl rfl (by kernel_rfl) (fun _ _ _ h => h) (by rfl) (fun w' => by go_simp; all_goals with_reducible rfl) (by simp only [Act.put, List.setIfInBounds_toArray, List.set_cons_zero, List.set_cons_succ]; rfl) ?_
              refine pu_ 6 38 rfl rfl (by kernel_rfl) (fun _ _ _ h => h) (by rfl) (fun w' => by go_simp; all_goals with_reducible rfl) (by simp only [Act.put, List.setIfInBounds_toArray, List.set_cons_zero, List.set_cons_succ]; rfl) ?_
              refine pu_ 7 39 rfl rfl (by kernel_rfl) (fun _ _ _ h => h) (by rfl) (fun w' => by go_simp; all_goals with_reducible rfl) (by simp only [Act.put, List.setIfInBounds_toArray, List.set_cons_zero, List.set_cons_succ]; rfl) ?_
              refine pu_ 8 40 rfl rfl (by kernel_rfl) (fun _ _ _ h => h) (by rfl) (fun w' => by go_simp; all_goals with_reducible rfl) (by simp only [Act.put, List.setIfInBounds_toArray, List.set_cons_zero, List.set_cons_succ]; rfl) ?_
              refine pu_ 9 41 rfl rfl (by kernel_rfl) (fun _ _ _ h => h) (by rfl) (fun w' => by go_simp; all_goals with_reducible rfl) (by simp only [Act.put, List.setIfInBounds_toArray, List.set_cons_zero, List.set_cons_succ]; rfl) ?_
              refine tk_ 10 42 hHeld rfl rfl (by kernel_rfl) (fun _ _ _ h => h) (by rfl) (fun w' hS' => by
                have q0 := pw_cell_below hS' b0
                have q1 := pw_cell_below hS' b1
                go_simp
                all_goals with_reducible rfl) (by simp only [Act.put, List.setIfInBounds_toArray, List.set_cons_zero, List.set_cons_succ]; rfl) ?_
              refine pu_ 11 43 rfl rfl (by kernel_rfl) (fun _ _ _ h => h) (by rfl) (fun w' => by go_simp; all_goals with_reducible rfl) (by simp only [Act.put, List.setIfInBounds_toArray, List.set_cons_zero, List.set_cons_succ]; rfl) ?_
              refine pu_ 12 44 rfl rfl (by kernel_rfl) (fun _ _ _ h => h) (by rfl) (fun w' => by go_simp; all_goals with_reducible rfl) (by simp only [Act.put, List.setIfInBounds_toArray, List.set_cons_zero, List.set_cons_succ]; rfl) ?_
              refine pu_ 13 45 rfl rfl (by kernel_rfl) (fun _ _ _ h => h) (by rfl) (fun w' => by go_simp; all_goals with_reducible rfl) (by simp only [Act.put, List.setIfInBounds_toArray, List.set_cons_zero, List.set_cons_succ]; rfl) ?_
              refine tk_ 14 46 hHeld rfl rfl (by kernel_rfl) (fun _ _ _ h => h) (by rfl) (fun w' hS' => by
                have q0 := pw_cell_below hS' HQ.out.1
                have q1 := pw_cell_below hS' HQ.out.2
                go_simp
                all_goals with_reducible rfl) (by simp only [Act.put, List.setIfInBounds_toArray, List.set_cons_zero, List.set_cons_succ]; rfl) ?_
              refine pu_ 15 47 rfl rfl (by kernel_rfl) (fun _ _ _ h => h) (by rfl) (fun w' => by go_simp; all_goals with_reducible rfl) (by simp only [Act.put, List.setIfInBounds_toArray, List.set_cons_zero, List.set_cons_succ]; rfl) ?_
              refine pu_ 16 48 rfl rfl (by kernel_rfl) (fun _ _ _ h => h) (by rfl) (fun w' => by go_simp; all_goals with_reducible rfl) (by simp only [Act.put, List.setIfInBounds_toArray, List.set_cons_zero, List.set_cons_succ]; rfl) ?_
              refine pu_ 17 49 rfl rfl (by kernel_rfl) (fun _ _ _ h => h) (by rfl) (fun w' => by go_simp; all_goals with_reducible rfl) (by simp only [Act.put, List.setIfInBounds_toArray, List.set_cons_zero, List.set_cons_succ]; rfl) ?_
              refine done_ (by kernel_rfl) ?_
              have HB3 := Aside0.mk (below_then HBx.out HBx.out.size hHeld)
              clear hHeld
              go_wp2
              go_ret
              exact ⟨by first | (rw [ring_bad hkn HBad.out]; done) | (rw [ring_bad hkn HBad.out]; rfl), HB3.out⟩
      · have hnx : nxt ps.length k = k + 1 := by unfold nxt; rw [if_neg (by omega)]
        rw [hnx] at HGd HQ
        have hk1 : (k : Int) + 1 < ps.length := by omega
        have h0k : (0 : Int) ≤ (k : Int) + 1 := by omega
        clear hnx hnl
        go_upto_region 9 with (fail)
        clear c0 c1
        generalize wr.alloc (.cells #[.int .i64 p.f0, .int .i64 p.f1] 23) = W at *
        generalize wr.heap.size = b at *
        have b0 : W.cell? ⟨b, 0, none⟩ = some (.int .i64 p.f0) := (blk_cell HX.out 0).trans rfl
        have b1 : W.cell? ⟨b, 1, none⟩ = some (.int .i64 p.f1) := (blk_cell HX.out 1).trans rfl
        clear HX
        cases hp : ptP p
        case false =>
          have HP := Aside0.mk hp
          have HBad := Aside0.mk (show okAt ps closed k = false by rw [HGd.out, hp]; rfl)
          clear hp
          refine be_ 18 [] (W := W) rfl (by kernel_rfl) (fun hHeld => ?_)
          refine tk_ 0 32 hHeld rfl rfl (by kernel_rfl) (fun _ _ _ h => h) (by rfl) (fun w' hS' => by
            have q0 := pw_cell_below hS' b0
            have q1 := pw_cell_below hS' b1
            go_simp
            all_goals with_reducible rfl) (by simp only [Act.put, List.setIfInBounds_toArray, List.set_cons_zero, List.set_cons_succ]; rfl) ?_
          refine cl_ 1 33 Try.func29 hHeld (cv_ (pointMay_any p.f0 p.f1 _) (congrArg Value.bool (show ptB p.f0 p.f1 = false from HP.out))) rfl rfl (by kernel_rfl) (by decide) (by kernel_rfl) rfl (by rfl) rfl (by first | rfl | (simp only [List.map_toArray, List.map_cons, List.map_nil]; rfl)) (by simp only [Act.put, List.setIfInBounds_toArray, List.set_cons_zero, List.set_cons_succ]; rfl) (fun w4 hb4 hHeld => ?_)
          refine pu_ 2 34 rfl rfl (by kernel_rfl) (fun _ _ _ h => h) (by rfl) (fun w' => by go_simp; all_goals with_reducible rfl) (by simp only [Act.put, List.setIfInBounds_toArray, List.set_cons_zero, List.set_cons_succ]; rfl) ?_
          refine pu_ 3 35 rfl rfl (by kernel_rfl) (fun _ _ _ h => h) (by rfl) (fun w' => by go_simp; all_goals with_reducible rfl) (by simp only [Act.put, List.setIfInBounds_toArray, List.set_cons_zero, List.set_cons_succ]; rfl) ?_
          refine no_ 4 (some 36) rfl rfl (by kernel_rfl) (fun _ _ _ h => h) (by rfl) (by simp only [Act.put, List.setIfInBounds_toArray, List.set_cons_zero, List.set_cons_succ]; rfl) ?_
          refine no_ 5 (some 37) rfl rfl (by kernel_rfl) (fun _ _ _ h => h) (by rfl) (by simp only [Act.put, List.setIfInBounds_toArray, List.set_cons_zero, List.set_cons_succ]; rfl) ?_
          refine no_ 6 (some 38) rfl rfl (by kernel_rfl) (fun _ _ _ h => h) (by rfl) (by simp only [Act.put, List.setIfInBounds_toArray, List.set_cons_zero, List.set_cons_succ]; rfl) ?_
          refine no_ 7 (some 39) rfl rfl (by kernel_rfl) (fun _ _ _ h => h) (by rfl) (by simp only [Act.put, List.setIfInBounds_toArray, List.set_cons_zero, List.set_cons_succ]; rfl) ?_
          refine no_ 8 (some 40) rfl rfl (by kernel_rfl) (fun _ _ _ h => h) (by rfl) (by simp only [Act.put, List.setIfInBounds_toArray, List.set_cons_zero, List.set_cons_succ]; rfl) ?_
          refine no_ 9 (some 41) rfl rfl (by kernel_rfl) (fun _ _ _ h => h) (by rfl) (by simp only [Act.put, List.setIfInBounds_toArray, List.set_cons_zero, List.set_cons_succ]; rfl) ?_
          refine no_ 10 (some 42) rfl rfl (by kernel_rfl) (fun _ _ _ h => h) (by rfl) (by simp only [Act.put, List.setIfInBounds_toArray, List.set_cons_zero, List.set_cons_succ]; rfl) ?_
          refine no_ 11 (some 43) rfl rfl (by kernel_rfl) (fun _ _ _ h => h) (by rfl) (by simp only [Act.put, List.setIfInBounds_toArray, List.set_cons_zero, List.set_cons_succ]; rfl) ?_
          refine no_ 12 (some 44) rfl rfl (by kernel_rfl) (fun _ _ _ h => h) (by rfl) (by simp only [Act.put, List.setIfInBounds_toArray, List.set_cons_zero, List.set_cons_succ]; rfl) ?_
          refine no_ 13 (some 45) rfl rfl (by kernel_rfl) (fun _ _ _ h => h) (by rfl) (by simp only [Act.put, List.setIfInBounds_toArray, List.set_cons_zero, List.set_cons_succ]; rfl) ?_
          refine no_ 14 (some 46) rfl rfl (by kernel_rfl) (fun _ _ _ h => h) (by rfl) (by simp only [Act.put, List.setIfInBounds_toArray, List.set_cons_zero, List.set_cons_succ]; rfl) ?_
          refine no_ 15 (some 47) rfl rfl (by kernel_rfl) (fun _ _ _ h => h) (by rfl) (by simp only [Act.put, List.setIfInBounds_toArray, List.set_cons_zero, List.set_cons_succ]; rfl) ?_
          refine no_ 16 (some 48) rfl rfl (by kernel_rfl) (fun _ _ _ h => h) (by rfl) (by simp only [Act.put, List.setIfInBounds_toArray, List.set_cons_zero, List.set_cons_succ]; rfl) ?_
          refine pu_ 17 49 rfl rfl (by kernel_rfl) (fun _ _ _ h => h) (by rfl) (fun w' => by go_simp; all_goals with_reducible rfl) (by simp only [Act.put, List.setIfInBounds_toArray, List.set_cons_zero, List.set_cons_succ]; rfl) ?_
          refine done_ (by kernel_rfl) ?_
          have HB3 := Aside0.mk (below_then HBx.out HBx.out.size hHeld)
          clear hHeld
          go_wp2
          go_ret
          exact ⟨by first | (rw [ring_bad hkn HBad.out]; done) | (rw [ring_bad hkn HBad.out]; rfl), HB3.out⟩
        case true =>
          have HP := Aside0.mk hp
          cases he : eqP p q
          case false =>
            have hev : (p.f0 == q.f0 && p.f1 == q.f1) = false := he
            have HGood := Aside0.mk (show okAt ps closed k = true by rw [HGd.out, hp, he]; simp)
            clear he hp
            refine be_ 18 [] (W := W) rfl (by kernel_rfl) (fun hHeld => ?_)
            refine tk_ 0 32 hHeld rfl rfl (by kernel_rfl) (fun _ _ _ h => h) (by rfl) (fun w' hS' => by
              have q0 := pw_cell_below hS' b0
              have q1 := pw_cell_below hS' b1
              go_simp
              all_goals with_reducible rfl) (by simp only [Act.put, List.setIfInBounds_toArray, List.set_cons_zero, List.set_cons_succ]; rfl) ?_
            refine cl_ 1 33 Try.func29 hHeld (cv_ (pointMay_any p.f0 p.f1 _) (congrArg Value.bool (show ptB p.f0 p.f1 = true from HP.out))) rfl rfl (by kernel_rfl) (by decide) (by kernel_rfl) rfl (by rfl) rfl (by first | rfl | (simp only [List.map_toArray, List.map_cons, List.map_nil]; rfl)) (by simp only [Act.put, List.setIfInBounds_toArray, List.set_cons_zero, List.set_cons_succ]; rfl) (fun w4 hb4 hHeld => ?_)
            refine pu_ 2 34 rfl rfl (by kernel_rfl) (fun _ _ _ h => h) (by rfl) (fun w' => by go_simp; all_goals with_reducible rfl) (by simp only [Act.put, List.setIfInBounds_toArray, List.set_cons_zero, List.set_cons_succ]; rfl) ?_
            refine pu_ 3 35 rfl rfl (by kernel_rfl) (fun _ _ _ h => h) (by rfl) (fun w' => by go_simp; all_goals with_reducible rfl) (by simp only [Act.put, List.setIfInBounds_toArray, List.set_cons_zero, List.set_cons_succ]; rfl) ?_
            refine pu_ 4 36 rfl rfl (by kernel_rfl) (fun _ _ _ h => h) (by rfl) (fun w' => by go_simp; all_goals with_reducible rfl) (by simp only [Act.put, List.setIfInBounds_toArray, List.set_cons_zero, List.set_cons_succ]; rfl) ?_
            refine pu_ 5 37 rfl rfl (by kernel_rfl) (fun _ _ _ h => h) (by rfl) (fun w' => by go_simp; all_goals with_reducible rfl) (by simp only [Act.put, List.setIfInBounds_toArray, List.set_cons_zero, List.set_cons_succ]; rfl) ?_
            refine pu_ 6 38 rfl rfl (by kernel_rfl) (fun _ _ _ h => h) (by rfl) (fun w' => by go_simp; all_goals with_reducible rfl) (by simp only [Act.put, List.setIfInBounds_toArray, List.set_cons_zero, List.set_cons_succ]; rfl) ?_
            refine no_ 7 (some 39) rfl rfl (by kernel_rfl) (fun _ _ _ h => h) (by rfl) (by simp only [Act.put, List.setIfInBounds_toArray, List.set_cons_zero, List.set_cons_succ]; rfl) ?_
            refine pu_ 8 40 rfl rfl (by kernel_rfl) (fun _ _ _ h => h) (by rfl) (fun w' => by go_simp; all_goals with_reducible rfl) (by simp only [Act.put, List.setIfInBounds_toArray, List.set_cons_zero, List.set_cons_succ]; rfl) ?_
            refine pu_ 9 41 rfl rfl (by kernel_rfl) (fun _ _ _ h => h) (by rfl) (fun w' => by go_simp; all_goals with_reducible rfl) (by simp only [Act.put, List.setIfInBounds_toArray, List.set_cons_zero, List.set_cons_succ]; rfl) ?_
            refine tk_ 10 42 hHeld rfl rfl (by kernel_rfl) (fun _ _ _ h => h) (by rfl) (fun w' hS' => by
              have q0 := pw_cell_below hS' b0
              have q1 := pw_cell_below hS' b1
              go_simp
              all_goals with_reducible rfl) (by simp only [Act.put, List.setIfInBounds_toArray, List.set_cons_zero, List.set_cons_succ]; rfl) ?_
            refine pu_ 11 43 rfl rfl (by kernel_rfl) (fun _ _ _ h => h) (by rfl) (fun w' => by go_simp; all_goals with_reducible rfl) (by simp only [Act.put, List.setIfInBounds_toArray, List.set_cons_zero, List.set_cons_succ]; rfl) ?_
            refine pu_ 12 44 rfl rfl (by kernel_rfl) (fun _ _ _ h => h) (by rfl) (fun w' => by go_simp; all_goals with_reducible rfl) (by simp only [Act.put, List.setIfInBounds_toArray, List.set_cons_zero, List.set_cons_succ]; rfl) ?_
            refine pu_ 13 45 rfl rfl (by kernel_rfl) (fun _ _ _ h => h) (by rfl) (fun w' => by go_simp; all_goals with_reducible rfl) (by simp only [Act.put, List.setIfInBounds_toArray, List.set_cons_zero, List.set_cons_succ]; rfl) ?_
            refine tk_ 14 46 hHeld rfl rfl (by kernel_rfl) (fun _ _ _ h => h) (by rfl) (fun w' hS' => by
              have q0 := pw_cell_below hS' HQ.out.1
              have q1 := pw_cell_below hS' HQ.out.2
              go_simp
              all_goals with_reducible rfl) (by simp only [Act.put, List.setIfInBounds_toArray, List.set_cons_zero, List.set_cons_succ]; rfl) ?_
            refine pu_ 15 47 rfl rfl (by kernel_rfl) (fun _ _ _ h => h) (by rfl) (fun w' => by go_simp; all_goals with_reducible rfl) (by simp only [Act.put, List.setIfInBounds_toArray, List.set_cons_zero, List.set_cons_succ]; rfl) ?_
            refine pu_ 16 48 rfl rfl (by kernel_rfl) (fun _ _ _ h => h) (by rfl) (fun w' => by go_simp; all_goals with_reducible rfl) (by simp only [Act.put, List.setIfInBounds_toArray, List.set_cons_zero, List.set_cons_succ]; rfl) ?_
            refine pu_ 17 49 rfl rfl (by kernel_rfl) (fun _ _ _ h => h) (by rfl) (fun w' => by go_simp; all_goals with_reducible rfl) (by simp only [Act.put, List.setIfInBounds_toArray, List.set_cons_zero, List.set_cons_succ]; rfl) ?_
            refine done_ (by kernel_rfl) ?_
            have HB3 := Aside0.mk (below_then HBx.out HBx.out.size hHeld)
            clear hHeld
            go_wp2
            go_roundw
            case rel => exact ⟨k + 1, by omega, by go_num, ⟨fun j hj => by rcases Nat.lt_succ_iff_lt_or_eq.1 hj with h | rfl; exact HOk.out j h; exact HGood.out⟩, HB3⟩
            case measure => simp [intOf]; omega
          case true =>
            have hev : (p.f0 == q.f0 && p.f1 == q.f1) = true := he
            have HBad := Aside0.mk (show okAt ps closed k = false by rw [HGd.out, hp, he]; simp)
            clear he hp
            refine be_ 18 [] (W := W) rfl (by kernel_rfl) (fun hHeld => ?_)
            refine tk_ 0 32 hHeld rfl rfl (by kernel_rfl) (fun _ _ _ h => h) (by rfl) (fun w' hS' => by
              have q0 := pw_cell_below hS' b0
              have q1 := pw_cell_below hS' b1
              go_simp
              all_goals with_reducible rfl) (by simp only [Act.put, List.setIfInBounds_toArray, List.set_cons_zero, List.set_cons_succ]; rfl) ?_
            refine cl_ 1 33 Try.func29 hHeld (cv_ (pointMay_any p.f0 p.f1 _) (congrArg Value.bool (show ptB p.f0 p.f1 = true from HP.out))) rfl rfl (by kernel_rfl) (by decide) (by kernel_rfl) rfl (by rfl) rfl (by first | rfl | (simp only [List.map_toArray, List.map_cons, List.map_nil]; rfl)) (by simp only [Act.put, List.setIfInBounds_toArray, List.set_cons_zero, List.set_cons_succ]; rfl) (fun w4 hb4 hHeld => ?_)
            refine pu_ 2 34 rfl rfl (by kernel_rfl) (fun _ _ _ h => h) (by rfl) (fun w' => by go_simp; all_goals with_reducible rfl) (by simp only [Act.put, List.setIfInBounds_toArray, List.set_cons_zero, List.set_cons_succ]; rfl) ?_
            refine pu_ 3 35 rfl rfl (by kernel_rfl) (fun _ _ _ h => h) (by rfl) (fun w' => by go_simp; all_goals with_reducible rfl) (by simp only [Act.put, List.setIfInBounds_toArray, List.set_cons_zero, List.set_cons_succ]; rfl) ?_
            refine pu_ 4 36 rfl rfl (by kernel_rfl) (fun _ _ _ h => h) (by rfl) (fun w' => by go_simp; all_goals with_reducible rfl) (by simp only [Act.put, List.setIfInBounds_toArray, List.set_cons_zero, List.set_cons_succ]; rfl) ?_
            refine pu_ 5 37 rfl rfl (by kernel_rfl) (fun _ _ _ h => h) (by rfl) (fun w' => by go_simp; all_goals with_reducible rfl) (by simp only [Act.put, List.setIfInBounds_toArray, List.set_cons_zero, List.set_cons_succ]; rfl) ?_
            refine pu_ 6 38 rfl rfl (by kernel_rfl) (fun _ _ _ h => h) (by rfl) (fun w' => by go_simp; all_goals with_reducible rfl) (by simp only [Act.put, List.setIfInBounds_toArray, List.set_cons_zero, List.set_cons_succ]; rfl) ?_
            refine no_ 7 (some 39) rfl rfl (by kernel_rfl) (fun _ _ _ h => h) (by rfl) (by simp only [Act.put, List.setIfInBounds_toArray, List.set_cons_zero, List.set_cons_succ]; rfl) ?_
            refine pu_ 8 40 rfl rfl (by kernel_rfl) (fun _ _ _ h => h) (by rfl) (fun w' => by go_simp; all_goals with_reducible rfl) (by simp only [Act.put, List.setIfInBounds_toArray, List.set_cons_zero, List.set_cons_succ]; rfl) ?_
            refine pu_ 9 41 rfl rfl (by kernel_rfl) (fun _ _ _ h => h) (by rfl) (fun w' => by go_simp; all_goals with_reducible rfl) (by simp only [Act.put, List.setIfInBounds_toArray, List.set_cons_zero, List.set_cons_succ]; rfl) ?_
            refine tk_ 10 42 hHeld rfl rfl (by kernel_rfl) (fun _ _ _ h => h) (by rfl) (fun w' hS' => by
              have q0 := pw_cell_below hS' b0
              have q1 := pw_cell_below hS' b1
              go_simp
              all_goals with_reducible rfl) (by simp only [Act.put, List.setIfInBounds_toArray, List.set_cons_zero, List.set_cons_succ]; rfl) ?_
            refine pu_ 11 43 rfl rfl (by kernel_rfl) (fun _ _ _ h => h) (by rfl) (fun w' => by go_simp; all_goals with_reducible rfl) (by simp only [Act.put, List.setIfInBounds_toArray, List.set_cons_zero, List.set_cons_succ]; rfl) ?_
            refine pu_ 12 44 rfl rfl (by kernel_rfl) (fun _ _ _ h => h) (by rfl) (fun w' => by go_simp; all_goals with_reducible rfl) (by simp only [Act.put, List.setIfInBounds_toArray, List.set_cons_zero, List.set_cons_succ]; rfl) ?_
            refine pu_ 13 45 rfl rfl (by kernel_rfl) (fun _ _ _ h => h) (by rfl) (fun w' => by go_simp; all_goals with_reducible rfl) (by simp only [Act.put, List.setIfInBounds_toArray, List.set_cons_zero, List.set_cons_succ]; rfl) ?_
            refine tk_ 14 46 hHeld rfl rfl (by kernel_rfl) (fun _ _ _ h => h) (by rfl) (fun w' hS' => by
              have q0 := pw_cell_below hS' HQ.out.1
              have q1 := pw_cell_below hS' HQ.out.2
              go_simp
              all_goals with_reducible rfl) (by simp only [Act.put, List.setIfInBounds_toArray, List.set_cons_zero, List.set_cons_succ]; rfl) ?_
            refine pu_ 15 47 rfl rfl (by kernel_rfl) (fun _ _ _ h => h) (by rfl) (fun w' => by go_simp; all_goals with_reducible rfl) (by simp only [Act.put, List.setIfInBounds_toArray, List.set_cons_zero, List.set_cons_succ]; rfl) ?_
            refine pu_ 16 48 rfl rfl (by kernel_rfl) (fun _ _ _ h => h) (by rfl) (fun w' => by go_simp; all_goals with_reducible rfl) (by simp only [Act.put, List.setIfInBounds_toArray, List.set_cons_zero, List.set_cons_succ]; rfl) ?_
            refine pu_ 17 49 rfl rfl (by kernel_rfl) (fun _ _ _ h => h) (by rfl) (fun w' => by go_simp; all_goals with_reducible rfl) (by simp only [Act.put, List.setIfInBounds_toArray, List.set_cons_zero, List.set_cons_succ]; rfl) ?_
            refine done_ (by kernel_rfl) ?_
            have HB3 := Aside0.mk (below_then HBx.out HBx.out.size hHeld)
            clear hHeld
            go_wp2
            go_ret
            exact ⟨by first | (rw [ring_bad hkn HBad.out]; done) | (rw [ring_bad hkn HBad.out]; rfl), HB3.out⟩
    · obtain rfl : k = ps.length := by omega
      have hgood := ring_good (least := least) (by omega) (by omega) HOk.out
      have HGood := Aside0.mk hgood
      clear hgood
      go_wp2
      go_ret
      exact ⟨by first | (rw [HGood.out]; done) | (rw [HGood.out]; rfl), HB.out⟩
end Go.Proofs.Ytmednnpmkhgfpaa.SH
end
section
/- What shape.May answers: may a feature be. -/
namespace Go.Proofs.Ytmednnpmkhgfpaa.SH
open Go Go.RowKit Go.Proofs.YtmednnpmkhgfpaaW.PrintWords Go.Proofs.YtmednnpmkhgfpaaW.PrintLast Go.Proofs.YtmednnpmkhgfpaaW.PrintMore Go.Proofs.Ytmednnpmkhgfpaa.PShapes Go.Proofs.Ytmednnpmkhgfpaa.Geo
open Go.Proofs.Ytmednnpmkhgfpaa.GW (pointMay_any)
set_option linter.unusedVariables false
set_option linter.unusedSimpArgs false
attribute [local go_sem high] eqA23

def badR (ps : List S23) : Bool := !ringB ps 3 true
theorem may1_any (A : Option Addr) (c : Nat) (ps : List S23) (w : World) (h : PC w A ps) :
    Calls Try.prog 33 #[.slice A ps.length c] w fun e w' => e = .returned (.bool (badR ps)) ∧ Below w.heap.size w w' := by
  have HR := Aside0.mk h
  clear h
  go_enter Try.func33, Try.ntmps33
  go_wp2_with fail
  refine (ring_any A c ps 3 true _ HR.out).mono ?_
  rintro e w1 ⟨rfl, hb⟩
  have HB := Aside0.mk hb
  clear hb
  go_wp2_with fail
  go_ret
  exact ⟨rfl, HB.out⟩
def idxBad : List (List S23) → Int → Int
  | [], _ => -1
  | x :: l, i => if badR x then i else idxBad l (i + 1)
theorem idxBad_at (l : List (List S23)) (k : Nat) (hk : k < l.length) : idxBad (l.drop k) k = if badR (rdR l k) then (k : Int) else idxBad (l.drop (k + 1)) ((k : Int) + 1) := by
  have e : l.drop k = rdR l k :: l.drop (k + 1) := by
    rw [List.drop_eq_getElem_cons hk]
    unfold rdR
    simp [hk]
  rw [e, idxBad]
theorem idxBad_neg : ∀ (l : List (List S23)) (i : Int), 0 ≤ i → decide (0 ≤ idxBad l i) = l.any badR
  | [], _, _ => rfl
  | x :: l, i, h => by
    unfold idxBad
    rw [List.any_cons]
    cases badR x
    · simpa using idxBad_neg l (i + 1) (by omega)
    · simpa using h
set_option maxHeartbeats 4000000 in
set_option maxRecDepth 100000 in
theorem indexBad_any (A : Option Addr) (c : Nat) (rs : List (List S23)) (w : World) (h : RC w A rs) :
    Calls Try.prog 56 #[.slice A rs.length c, .func (.func 33) #[] #[]] w fun e w' => e = .returned (.int .i64 (idxBad rs 0)) ∧ Below w.heap.size w w' := by
  have HR := Aside0.mk h
  have hm : (rs.length : Int) ≤ 9223372036854775807 := by have := h.2.1; omega
  clear h
  go_enter Try.func56, Try.ntmps56
  go_wp2
  go_loopw [8] (fun i wr => ∃ k : Nat, k ≤ rs.length ∧ i = .int .i64 k ∧ Aside0 (idxBad (rs.drop k) k = idxBad rs 0) ∧ Aside0 (Below w.heap.size w wr)) (fun i _ => rs.length - (intOf i).toNat)
  case atStart => exact ⟨0, Nat.zero_le _, rfl, ⟨rfl⟩, ⟨Below.refl _ _⟩⟩
  case round =>
    obtain ⟨k, hk, rfl, HI, HB⟩ := hrel
    by_cases hlt : k < rs.length
    · have HX := Aside0.mk (idxBad_at rs k hlt)
      obtain ⟨ad, A0, c0, e1, hx, hc, hp⟩ := at_r (Kd.C_below HR.out HB.out) k hlt
      subst e1
      generalize rdR rs k = ps at *
      have HP := Aside0.mk hp
      clear hp
      go_wp2_with fail
      refine (may1_any A0 c0 ps _ HP.out).mono ?_
      rintro e w1 ⟨rfl, hb⟩
      have HB1 := Aside0.mk (below_then HB.out HB.out.size hb)
      clear hb
      cases hbad : badR ps
      · rw [hbad] at HX
        go_wp2_with fail
        go_roundw
        case rel => exact ⟨k + 1, by omega, by go_num, ⟨by rw [← HI.out, HX.out]; rfl⟩, HB1⟩
        case measure => simp [intOf]; omega
      · rw [hbad] at HX
        go_wp2_with fail
        go_ret
        refine ⟨?_, HB1.out⟩
        rw [← HI.out, HX.out]
        rfl
    · go_wp2
      go_ret
      refine ⟨?_, HB.out⟩
      rw [← HI.out, List.drop_eq_nil_of_le (by omega)]
      rfl
theorem anyBad_any (A : Option Addr) (c : Nat) (rs : List (List S23)) (w : World) (h : RC w A rs) :
    Calls Try.prog 32 #[.slice A rs.length c, .func (.func 33) #[] #[]] w fun e w' => e = .returned (.bool (rs.any badR)) ∧ Below w.heap.size w w' := by
  have HR := Aside0.mk h
  clear h
  have HE := Aside0.mk (idxBad_neg rs 0 (Int.le_refl _))
  go_enter Try.func32, Try.ntmps32
  go_wp2_with fail
  refine (indexBad_any A c rs _ HR.out).mono ?_
  rintro e w1 ⟨rfl, hb⟩
  have HB := Aside0.mk hb
  clear hb
  go_wp2_with fail
  go_ret
  exact ⟨by rw [← HE.out]; rfl, HB.out⟩
def ftV (f : Ft) (A : Option Addr) (c : Nat) : Value := .agg #[.int .i64 f.id, .int .i64 f.shape, .slice A f.rings.length c]
theorem not_any_bad (rs : List (List S23)) : (!(rs.any badR)) = rs.all fun ps => ringB ps 3 true := by
  induction rs with
  | nil => rfl
  | cons x l ih => rw [List.any_cons, List.all_cons, Bool.not_or, ih, badR, Bool.not_not]
set_option maxHeartbeats 8000000 in
set_option maxRecDepth 100000 in
theorem may_any (f : Ft) (A : Option Addr) (c : Nat) (w : World) (h : RC w A f.rings) :
    Calls Try.prog 14 #[.agg #[.int .i64 f.id, .int .i64 f.shape, .slice A f.rings.length c]] w fun e w' => e = .returned (.bool (mayB f)) ∧ Below w.heap.size w w' := by
  obtain ⟨id, shape, rs⟩ := f
  have HR := Aside0.mk h
  clear h
  dsimp only at HR ⊢
  obtain ⟨v, hv0⟩ : ∃ v, mayB ⟨id, shape, rs⟩ = v := ⟨_, rfl⟩
  rw [hv0]
  unfold mayB at hv0
  dsimp only at hv0
  have HE := Aside0.mk hv0.symm
  clear hv0
  have HB := Aside0.mk (below_alloc (Below.refl w.heap.size w) (.cells #[.int .i64 id, .int .i64 shape, .slice A rs.length c] 27))
  by_cases h1 : id < 1
  · have hv : v = false := by rw [HE.out, decide_eq_false (by omega : ¬ 1 ≤ id)]; rfl
    subst hv
    go_enter Try.func14, Try.ntmps14
    go_wp2_with fail
    go_ret
    exact ⟨rfl, HB.out⟩
  by_cases h2 : 65535 < id
  · have hv : v = false := by rw [HE.out, decide_eq_false (by omega : ¬ id ≤ 65535)]; simp
    subst hv
    go_enter Try.func14, Try.ntmps14
    go_wp2_with fail
    go_ret
    exact ⟨rfl, HB.out⟩
  by_cases h3 : (rs.length : Int) < 1
  · have hv : v = false := by rw [HE.out, decide_eq_false (by omega : ¬ 1 ≤ rs.length)]; simp
    subst hv
    go_enter Try.func14, Try.ntmps14
    go_wp2_with fail
    go_ret
    exact ⟨rfl, HB.out⟩
  by_cases h4 : 4 < (rs.length : Int)
  · have hv : v = false := by rw [HE.out, decide_eq_false (by omega : ¬ rs.length ≤ 4)]; simp
    subst hv
    go_enter Try.func14, Try.ntmps14
    go_wp2_with fail
    go_ret
    exact ⟨rfl, HB.out⟩
  have hv : v = (if shape = 0 then decide (rs.length = 1) && decide ((rdR rs 0).length = 1) && ptP (rdP (rdR rs 0) 0)
     else if shape = 1 then decide (rs.length = 1) && ringB (rdR rs 0) 2 false
     else if shape = 2 then rs.all fun ps => ringB ps 3 true else false) := by
    rw [HE.out, decide_eq_true (by omega : 1 ≤ id), decide_eq_true (by omega : id ≤ 65535), decide_eq_true (by omega : 1 ≤ rs.length), decide_eq_true (by omega : rs.length ≤ 4)]
    rfl
  clear HE
  by_cases s0 : shape = 0
  · subst s0
    rw [if_pos rfl] at hv
    go_enter Try.func14, Try.ntmps14
    go_upto_region 1 with (fail)
    have HX := Aside0.mk (blk_new w (.cells #[.int .i64 id, .int .i64 0, .slice A rs.length c] 27))
    have HRb := Aside0.mk (Kd.C_below HR.out (below_alloc (Below.refl _ w) (.cells #[.int .i64 id, .int .i64 0, .slice A rs.length c] 27)))
    generalize w.alloc (.cells #[.int .i64 id, .int .i64 0, .slice A rs.length c] 27) = W at *
    generalize w.heap.size = b at HX ⊢
    have b0 : W.cell? ⟨b, 0, none⟩ = some (.int .i64 id) := (blk_cell HX.out 0).trans rfl
    have b1 : W.cell? ⟨b, 1, none⟩ = some (.int .i64 0) := (blk_cell HX.out 1).trans rfl
    have b2 : W.cell? ⟨b, 2, none⟩ = some (.slice A rs.length c) := (blk_cell HX.out 2).trans rfl
    by_cases l1 : (rs.length : Int) = 1
    · rw [decide_eq_true (by omega : rs.length = 1), Bool.true_and] at hv
      obtain ⟨ad, A0, c0, e1, hx, hc, hp⟩ := at_r HRb.out 0 (by omega)
      subst e1
      rw [show ad.add 0 = ad from rfl] at hx
      generalize rdR rs 0 = ps at *
      by_cases m1 : (ps.length : Int) = 1
      · rw [decide_eq_true (by omega : ps.length = 1), Bool.true_and] at hv
        obtain ⟨ad1, e2, p0, p1⟩ := at_p hp 0 (by omega)
        subst e2
        rw [show ad1.add (0 * 2) = ad1 from rfl] at p0 p1
        generalize rdP ps 0 = p at *
        have HV := Aside0.mk hv
        clear hv hp
        go_wp2_with fail
        refine (pointMay_any p.f0 p.f1 _).mono ?_
        rintro e w1 ⟨rfl, hb⟩
        have HB1 := Aside0.mk (below_then HB.out HB.out.size hb)
        clear hb
        go_wp2_with fail
        go_ret
        exact ⟨by rw [HV.out]; rfl, HB1.out⟩
      · rw [decide_eq_false (by omega : ¬ ps.length = 1), Bool.false_and] at hv
        subst hv
        have m2 : ((ps.length : Int) == 1) = false := by simp [m1]
        go_wp2_with fail
        go_ret
        exact ⟨rfl, HB.out⟩
    · rw [decide_eq_false (by omega : ¬ rs.length = 1), Bool.false_and, Bool.false_and] at hv
      subst hv
      have l2 : ((rs.length : Int) == 1) = false := by simp [l1]
      go_wp2_with fail
      go_ret
      exact ⟨rfl, HB.out⟩
  by_cases s1 : shape = 1
  · subst s1
    rw [if_neg (by decide), if_pos rfl] at hv
    go_enter Try.func14, Try.ntmps14
    go_upto_region 1 with (fail)
    have HX := Aside0.mk (blk_new w (.cells #[.int .i64 id, .int .i64 1, .slice A rs.length c] 27))
    have HRb := Aside0.mk (Kd.C_below HR.out (below_alloc (Below.refl _ w) (.cells #[.int .i64 id, .int .i64 1, .slice A rs.length c] 27)))
    generalize w.alloc (.cells #[.int .i64 id, .int .i64 1, .slice A rs.length c] 27) = W at *
    generalize w.heap.size = b at HX ⊢
    have b0 : W.cell? ⟨b, 0, none⟩ = some (.int .i64 id) := (blk_cell HX.out 0).trans rfl
    have b1 : W.cell? ⟨b, 1, none⟩ = some (.int .i64 1) := (blk_cell HX.out 1).trans rfl
    have b2 : W.cell? ⟨b, 2, none⟩ = some (.slice A rs.length c) := (blk_cell HX.out 2).trans rfl
    by_cases l1 : (rs.length : Int) = 1
    · rw [decide_eq_true (by omega : rs.length = 1), Bool.true_and] at hv
      obtain ⟨ad, A0, c0, e1, hx, hc, hp⟩ := at_r HRb.out 0 (by omega)
      subst e1
      rw [show ad.add 0 = ad from rfl] at hx
      generalize rdR rs 0 = ps at *
      have HV := Aside0.mk hv
      have HP := Aside0.mk hp
      clear hv hp
      go_wp2_with fail
      refine (ring_any A0 c0 ps 2 false _ HP.out).mono ?_
      rintro e w1 ⟨rfl, hb⟩
      have HB1 := Aside0.mk (below_then HB.out HB.out.size hb)
      clear hb
      go_wp2_with fail
      go_ret
      exact ⟨by rw [HV.out]; rfl, HB1.out⟩
    · rw [decide_eq_false (by omega : ¬ rs.length = 1), Bool.false_and] at hv
      subst hv
      have l2 : ((rs.length : Int) == 1) = false := by simp [l1]
      go_wp2_with fail
      go_ret
      exact ⟨rfl, HB.out⟩
  by_cases s2 : shape = 2
  · subst s2
    rw [if_neg (by decide), if_neg (by decide), if_pos rfl, ← not_any_bad] at hv
    subst hv
    go_enter Try.func14, Try.ntmps14
    go_wp2_with fail
    refine (anyBad_any A c rs _ (Kd.C_below HR.out (below_alloc (Below.refl _ w) _))).mono ?_
    rintro e w1 ⟨rfl, hb⟩
    have HB1 := Aside0.mk (below_then HB.out HB.out.size hb)
    clear hb
    go_wp2_with fail
    go_ret
    exact ⟨rfl, HB1.out⟩
  rw [if_neg s0, if_neg s1, if_neg s2] at hv
  subst hv
  have t0 : (shape == 0) = false := by simp [s0]
  have t1 : (shape == 1) = false := by simp [s1]
  have t2 : (shape == 2) = false := by simp [s2]
  go_enter Try.func14, Try.ntmps14
  go_wp2_with fail
  go_ret
  exact ⟨rfl, HB.out⟩
end Go.Proofs.Ytmednnpmkhgfpaa.SH
end
section
/- The iterator over a feature's points: what a loop over it sees. -/
namespace Go.Proofs.Ytmednnpmkhgfpaa.SH
open Go Go.RowKit Go.Shelf Go.Proofs.YtmednnpmkhgfpaaW.PrintWords Go.Proofs.Ytmednnpmkhgfpaa.PShapes Go.Proofs.Ytmednnpmkhgfpaa.Geo
set_option linter.unusedVariables false
set_option linter.unusedSimpArgs false
attribute [local go_sem] Oper.semAt_some

/-- A feature behind a pointer. -/
structure Feat (w : World) (fb : Nat) (f : Ft) (A : Option Addr) (c : Nat) : Prop where
  id : w.cell? ⟨fb, 0, none⟩ = some (.int .i64 f.id)
  shape : w.cell? ⟨fb, 1, none⟩ = some (.int .i64 f.shape)
  rings : w.cell? ⟨fb, 2, none⟩ = some (.slice A f.rings.length c)
  row : RC w A f.rings
theorem Feat.below {w w1 : World} {fb : Nat} {f : Ft} {A : Option Addr} {c : Nat} (h : Feat w fb f A c) (hb : Below w.heap.size w w1) : Feat w1 fb f A c :=
  ⟨pw_cell_below hb h.id, pw_cell_below hb h.shape, pw_cell_below hb h.rings, Kd.C_below h.row hb⟩
/-- What lay in w lies there, and box Bs holds the pointer. -/
def KB (w : World) (Bs fb : Nat) (W : World) : Prop := Below w.heap.size w W ∧ W.cell? ⟨Bs, 0, none⟩ = some (.pointer (some ⟨fb, 0, none⟩))
/-- what a round keeps -/
def Kp0 (w : World) (Bs fb : Nat) (X Y : World) : Prop := Below w.heap.size X Y ∧ (X.cell? ⟨Bs, 0, none⟩ = some (.pointer (some ⟨fb, 0, none⟩)) → Y.cell? ⟨Bs, 0, none⟩ = some (.pointer (some ⟨fb, 0, none⟩)))
theorem KB.keep {w X Y : World} {Bs fb : Nat} (h : KB w Bs fb X) (k : Kp0 w Bs fb X Y) : KB w Bs fb Y := ⟨h.1.trans k.1, k.2 h.2⟩
theorem KB.below {w X Y : World} {Bs fb : Nat} (h : KB w Bs fb X) (k : Below X.heap.size X Y) : KB w Bs fb Y := ⟨below_then h.1 h.1.size k, pw_cell_below k h.2⟩
theorem Kp0.trans {w X Y Z : World} {Bs fb : Nat} (h : Kp0 w Bs fb X Y) (k : Kp0 w Bs fb Y Z) : Kp0 w Bs fb X Z := ⟨h.1.trans k.1, fun e => k.2 (h.2 e)⟩
theorem flat_at (rs : List (List S23)) (k : Nat) (hk : k < rs.length) : (rs.take (k + 1)).flatten = (rs.take k).flatten ++ rdR rs k := by
  rw [List.take_succ_eq_append_getElem hk, List.flatten_append]
  unfold rdR
  simp [hk]
theorem take_at (ps : List S23) (m : Nat) (hm : m < ps.length) : ps.take (m + 1) = ps.take m ++ [rdP ps m] := by
  rw [List.take_succ_eq_append_getElem hm]
  unfold rdP
  simp [hm]
theorem flat_pre (rs : List (List S23)) (k : Nat) (hk : k < rs.length) (m : Nat) (hm : m ≤ (rdR rs k).length) : (rs.take k).flatten ++ (rdR rs k).take m <+: rs.flatten := by
  have h1 : (rs.take (k + 1)).flatten <+: rs.flatten := by
    have := List.take_append_drop (k + 1) rs
    exact ⟨(rs.drop (k + 1)).flatten, by rw [← List.flatten_append, this]⟩
  rw [flat_at rs k hk] at h1
  exact List.IsPrefix.trans ((List.prefix_append_right_inj _).2 (List.take_prefix _ _)) h1
theorem flat_lt (rs : List (List S23)) (k : Nat) (hk : k < rs.length) (m : Nat) (hm : m < (rdR rs k).length) : ((rs.take k).flatten ++ (rdR rs k).take m).length < rs.flatten.length := by
  have := (flat_pre rs k hk (m + 1) hm).length_le
  rw [take_at _ _ hm] at this
  simp only [List.length_append, List.length_cons, List.length_nil] at this ⊢
  omega
def ptEnc (p : S23) : Array Value := #[.agg #[.int .i64 p.f0, .int .i64 p.f1]]
set_option maxRecDepth 100000 in
set_option maxHeartbeats 4000000 in
theorem points1_in (F : Fence) (n : Nat) (h57 : F.fn 57) (hro : F.round = none) (hn : 1 ≤ n) (l Bs fb : Nat) (f : Ft) (A : Option Addr) (c : Nat) (w : World) (hw : Feat w fb f A c) (J Jx : List S23 → World → Prop) (W : World) (hW : KB w Bs fb W) (hJa : AbidesFrom W.heap.size J)
    (hY : ∀ pre x W1, J pre W1 → pre.length < f.rings.flatten.length → YieldAt F (n - 1) Try.prog l (ptEnc x) W1 fun e W' =>
      (e = .returned (.bool true) ∧ J (pre ++ [x]) W' ∧ Kp0 w Bs fb W1 W') ∨ (e = .returned (.bool false) ∧ Jx (pre ++ [x]) W'))
    (h0 : J [] W) :
    CallsIn F n Try.prog 57 #[.func (.yield l) #[] #[], .pointer (some ⟨Bs, 0, none⟩)] W fun e W' => (∃ v, e = .returned v) ∧
      ((∃ ys, ys = f.rings.flatten ∧ J ys W') ∨ (∃ pre, pre <+: f.rings.flatten ∧ Jx pre W')) := by
  obtain ⟨c1, c2, c3, hRC⟩ := hw.below hW.1
  have c0 := hW.2
  have HW := Aside0.mk hw
  have HY := Aside0.mk hY
  have HJa := Aside0.mk hJa
  have HWb := Aside0.mk hW
  have hmax : (f.rings.length : Int) ≤ 9223372036854775807 := by have := hRC.2.1; omega
  clear hw hY hJa hW hRC
  refine callsIn_of_wp Try.func57 rfl h57 ?_ hro
  simp only [Try.ntmps57, List.size_toArray, List.length_cons, List.length_nil, Nat.reduceAdd, Nat.reduceSub, Array.replicate_succ, Array.replicate_zero, List.push_toArray, List.append_toArray, List.nil_append, List.cons_append]
  gi_wp2
  gi_loopw [12] (fun i wr => ∃ k : Nat, k ≤ f.rings.length ∧ i = .int .i64 k ∧ Aside0 (J (f.rings.take k).flatten wr) ∧ Aside0 (KB w Bs fb wr)) (fun i _ => f.rings.length - (intOf i).toNat)
  case atStart => exact ⟨0, Nat.zero_le _, rfl, ⟨h0⟩, HWb⟩
  case round =>
    clear h0 c0 c1 c2 c3
    obtain ⟨k, hk, rfl, HJ, HB⟩ := hrel
    by_cases hlt : k < f.rings.length
    · obtain ⟨ad, A0, ca, e1, hx, hc, hp⟩ := at_r (HW.out.below HB.out.1).row k hlt
      subst e1
      have hmp : ((rdR f.rings k).length : Int) ≤ 9223372036854775807 := by have := hp.2.1; omega
      clear hp
      have HLn := Aside0.mk (flat_lt f.rings k hlt)
      have HPr := Aside0.mk (flat_pre f.rings k hlt)
      have HNx := Aside0.mk (flat_at f.rings k hlt)
      have HRow := Aside0.mk (show ∀ W, Below w.heap.size w W → ∃ A1 c1, W.cell? (ad.add k) = some (.slice A1 (rdR f.rings k).length c1) ∧ PC W A1 (rdR f.rings k) from fun W hW => by
        obtain ⟨ad', A0, ca, e1, hx, hc, hp⟩ := at_r (HW.out.below hW).row k hlt
        cases e1
        exact ⟨A0, ca, hx, hp⟩)
      have HX := Aside0.mk hx
      have HPC := Aside0.mk (show ∀ W, Below w.heap.size w W → PC W A0 (rdR f.rings k) from fun W hW => by
        obtain ⟨ad', A0', ca', e1, hx', hc', hp'⟩ := at_r HW.out.row k hlt
        cases e1
        have := (pw_cell_below HB.out.1 hx').symm.trans HX.out
        injection this with this
        injection this with e2 e3 e4
        subst e2
        exact Kd.C_below hp' hW)
      gi_wp2
      clear hx HX HRow
      generalize rdR f.rings k = ps at *
      gi_loopw [18] (fun j wi => ∃ m : Nat, m ≤ ps.length ∧ j = .int .i64 m ∧ Aside0 (J ((f.rings.take k).flatten ++ ps.take m) wi) ∧ Aside0 (KB w Bs fb wi)) (fun j _ => ps.length - (intOf j).toNat)
      case atStart => exact ⟨0, Nat.zero_le _, rfl, ⟨by simpa using HJ.out⟩, HB⟩
      case round =>
        clear HJ HB
        obtain ⟨m, hm, rfl, HJ, HB⟩ := hrel
        by_cases hlm : m < ps.length
        · obtain ⟨ad1, e2, p0, p1⟩ := at_p (HPC.out _ HB.out.1) m hlm
          subst e2
          have HTk := Aside0.mk (take_at ps m hlm)
          generalize rdP ps m = p at *
          obtain ⟨fn, tmps, assign, body, hy, hR⟩ := HY.out _ p (wr.alloc (.cells #[.int .i64 p.f0, .int .i64 p.f1] 23)) (HJa.out _ _ _ none HJ.out (World.grownBy_alloc _ _ none) (fun r e => by cases e)) (HLn.out m hlm)
          dsimp only [ptEnc] at hy
          have HBa := Aside0.mk (HB.out.below (below_alloc (Below.refl _ _) (.cells #[.int .i64 p.f0, .int .i64 p.f1] 23)))
          gi_wp2
          refine hR.mono ?_
          rintro e W3 (⟨rfl, hJ3, hk3⟩ | ⟨rfl, hJx3⟩)
          · have HJ3 := Aside0.mk hJ3
            have HB3 := Aside0.mk (HBa.out.keep hk3)
            clear hJ3 hk3 hy hR
            gi_wp2
            go_roundw
            case rel => exact ⟨m + 1, by omega, by go_num, ⟨by rw [HTk.out, ← List.append_assoc]; exact HJ3.out⟩, HB3⟩
            case measure => simp [intOf]; omega
          · have HJ3 := Aside0.mk hJx3
            clear hJx3 hy hR
            gi_wp2
            refine bodyPost_ret (results_none rfl _ _ _) rfl ?_
            exact ⟨⟨_, rfl⟩, .inr ⟨_, by have := HPr.out (m + 1) (by omega); rw [HTk.out, ← List.append_assoc] at this; exact this, HJ3.out⟩⟩
        · obtain rfl : m = ps.length := by omega
          gi_wp2
          go_roundw
          case rel => exact ⟨k + 1, by omega, by go_num, ⟨by rw [HNx.out]; have := HJ.out; rwa [List.take_length] at this⟩, HB⟩
          case measure => simp [intOf]; omega
    · obtain rfl : k = f.rings.length := by omega
      gi_wp2
      go_end0
      refine ⟨⟨_, rfl⟩, .inl ⟨_, rfl, ?_⟩⟩
      have := HJ.out
      rwa [List.take_length] at this
theorem points_any (fb : Nat) (w : World) : Calls Try.prog 35 #[.pointer (some ⟨fb, 0, none⟩)] w fun e w' => e = .returned (.func (.func 57) #[] #[.pointer (some ⟨w.heap.size, 0, none⟩)]) ∧ w' = w.alloc (.cells #[.pointer (some ⟨fb, 0, none⟩)] 60) := by
  go_enter Try.func35, Try.ntmps35
  go_wp2
  go_ret
  exact ⟨rfl, rfl⟩
theorem points_stops (F : Fence) (n : Nat) (h57 : F.fn 57) (hro : F.round = none) (hn : 1 ≤ n) (Bs fb : Nat) (f : Ft) (A : Option Addr) (c : Nat) (w W0 : World) (hw : Feat w fb f A c) (hk : KB w Bs fb W0) :
    SeqStopsK F n Try.prog 57 #[.pointer (some ⟨Bs, 0, none⟩)] ptEnc (Kp0 w Bs fb) (fun ys => ys = f.rings.flatten) (fun pre => pre <+: f.rings.flatten) f.rings.flatten.length W0 :=
  fun l J Jx W hW hJ _ hY h0 => points1_in F n h57 hro hn l Bs fb f A c w hw J Jx W (hk.below hW) hJ hY h0
end Go.Proofs.Ytmednnpmkhgfpaa.SH
end
