/- The reference's left, corners, ringMay, ShapeMay. -/
import Derived.Test.YtmednnpmkhgfpaaShZ
import Derived.Test.YtmednnpmkhgfpaaShW
import Derived.Test.YtmednnpmkhgfpaaGeoRA
namespace Go.Proofs.Ytmednnpmkhgfpaa.SH
open Go Go.RowKit Go.Proofs.YtmednnpmkhgfpaaW.PrintWords Go.Proofs.YtmednnpmkhgfpaaW.PrintLast Go.Proofs.YtmednnpmkhgfpaaW.PrintMore Go.Proofs.Ytmednnpmkhgfpaa.PShapes Go.Proofs.Ytmednnpmkhgfpaa.Geo
open Go.Proofs.Ytmednnpmkhgfpaa.GW (rPointMay_any rTurn0_any)
set_option linter.unusedVariables false
set_option linter.unusedSimpArgs false
attribute [local go_sem high] eqA23

/-- the reference: may a ring's place be -/
def okRef (ps : List S23) (k : Nat) : Bool := ptP (rdP ps k) && !(decide (0 < k) && eqP (rdP ps k) (rdP ps (k - 1)))
def endRef (shape : Int) (ps : List S23) : Bool :=
  if shape = 0 then decide ((ps.length : Int) = 1) else if shape = 1 then decide (2 ≤ (ps.length : Int)) else if shape = 2 then decide (3 ≤ (ps.length : Int)) && !eqP (rdP ps 0) (rdP ps (ps.length - 1)) else false
def refR (shape : Int) (ps : List S23) : Bool := decide ((ps.length : Int) ≤ 16) && (List.range ps.length).all (okRef ps) && endRef shape ps
theorem refR_bad {shape : Int} {ps : List S23} {k : Nat} (hk : k < ps.length) (h : okRef ps k = false) : refR shape ps = false := by
  unfold refR
  rw [List.all_eq_false.2 ⟨k, List.mem_range.2 hk, by simp [h]⟩, Bool.and_false]
  rfl
theorem refR_end {shape : Int} {ps : List S23} (h : (ps.length : Int) ≤ 16) (ho : ∀ j, j < ps.length → okRef ps j = true) : refR shape ps = endRef shape ps := by
  unfold refR
  rw [decide_eq_true h, all_done ho]
  rfl
set_option maxHeartbeats 8000000 in
set_option maxRecDepth 100000 in
theorem rRing_any (shape : Int) (A : Option Addr) (c : Nat) (ps : List S23) (w : World) (h : PC w A ps) :
    Calls Try.prog 50 #[.int .i64 shape, .slice A ps.length c] w fun e w' => e = .returned (.bool (refR shape ps)) ∧ Below w.heap.size w w' := by
  have HR := Aside0.mk h
  clear h
  by_cases h2 : (16 : Int) < ps.length
  · rw [show refR shape ps = false by unfold refR; rw [decide_eq_false (by omega)]; rfl]
    go_enter Try.func50, Try.ntmps50
    go_wp2
    go_ret
    exact ⟨rfl, Below.refl _ _⟩
  go_enter Try.func50, Try.ntmps50
  go_wp2
  go_loopw [5] (fun i wr => ∃ k : Nat, k ≤ ps.length ∧ i = .int .i64 (k : Int) ∧ Aside0 (∀ j, j < k → okRef ps j = true) ∧ Aside0 (Below w.heap.size w wr)) (fun i _ => ps.length - (intOf i).toNat)
  case atStart => exact ⟨0, Nat.zero_le _, rfl, ⟨fun j hj => absurd hj (by omega)⟩, ⟨Below.refl _ _⟩⟩
  case round =>
    obtain ⟨k, hk, rfl, HOk, HB⟩ := hrel
    by_cases hkn : k < ps.length
    · obtain ⟨ad, e, hp0⟩ := at_p (Kd.C_below HR.out HB.out) k hkn
      subst e
      obtain ⟨ad1, e1, hq0⟩ := at_p (Kd.C_below HR.out HB.out) (k - 1) (by omega)
      cases e1
      have HGd := Aside0.mk (show okRef ps k = (ptP (rdP ps k) && !(decide (0 < k) && eqP (rdP ps k) (rdP ps (k - 1)))) from rfl)
      have HP0 := Aside0.mk hp0
      have HQ0 := Aside0.mk hq0
      clear hp0 hq0
      generalize rdP ps k = p at *
      generalize rdP ps (k - 1) = q at *
      go_upto_region 6 with (fail)
      cases hp : ptP p
      case false =>
        have HP := Aside0.mk hp
        have HBad := Aside0.mk (show okRef ps k = false by rw [HGd.out, hp]; rfl)
        clear hp
        refine be_ 22 [] (W := wr) rfl (by kernel_rfl) (fun hHeld => ?_)
        refine pu_ 0 15 rfl rfl (by kernel_rfl) (fun _ _ _ h => h) (by rfl) (fun w' => by go_simp; all_goals with_reducible rfl) (by simp only [Act.put, List.setIfInBounds_toArray, List.set_cons_zero, List.set_cons_succ]; rfl) ?_
        refine pu_ 1 16 rfl rfl (by kernel_rfl) (fun _ _ _ h => h) (by rfl) (fun w' => by go_simp; all_goals with_reducible rfl) (by simp only [Act.put, List.setIfInBounds_toArray, List.set_cons_zero, List.set_cons_succ]; rfl) ?_
        refine pu_ 2 17 rfl rfl (by kernel_rfl) (fun _ _ _ h => h) (by rfl) (fun w' => by go_simp; all_goals with_reducible rfl) (by simp only [Act.put, List.setIfInBounds_toArray, List.set_cons_zero, List.set_cons_succ]; rfl) ?_
        refine tk_ 3 18 hHeld rfl rfl (by kernel_rfl) (fun _ _ _ h => h) (by rfl) (fun w' hS' => by
          have q0 := pw_cell_below hS' HP0.out.1
          have q1 := pw_cell_below hS' HP0.out.2
          go_simp
          all_goals with_reducible rfl) (by simp only [Act.put, List.setIfInBounds_toArray, List.set_cons_zero, List.set_cons_succ]; rfl) ?_
        refine cl_ 4 19 Try.func28 hHeld (cv_ (rPointMay_any p.f0 p.f1 _) (congrArg Value.bool (show ptB p.f0 p.f1 = false from HP.out))) rfl rfl (by kernel_rfl) (by decide) (by kernel_rfl) rfl (by rfl) rfl (by first | rfl | (simp only [List.map_toArray, List.map_cons, List.map_nil]; rfl)) (by simp only [Act.put, List.setIfInBounds_toArray, List.set_cons_zero, List.set_cons_succ]; rfl) (fun w4 hb4 hHeld => ?_)
        refine pu_ 5 20 rfl rfl (by kernel_rfl) (fun _ _ _ h => h) (by rfl) (fun w' => by go_simp; all_goals with_reducible rfl) (by simp only [Act.put, List.setIfInBounds_toArray, List.set_cons_zero, List.set_cons_succ]; rfl) ?_
        refine pu_ 6 21 rfl rfl (by kernel_rfl) (fun _ _ _ h => h) (by rfl) (fun w' => by go_simp; all_goals with_reducible rfl) (by simp only [Act.put, List.setIfInBounds_toArray, List.set_cons_zero, List.set_cons_succ]; rfl) ?_
        refine no_ 7 (some 22) rfl rfl (by kernel_rfl) (fun _ _ _ h => h) (by rfl) (by simp only [Act.put, List.setIfInBounds_toArray, List.set_cons_zero, List.set_cons_succ]; rfl) ?_
        refine no_ 8 (some 23) rfl rfl (by kernel_rfl) (fun _ _ _ h => h) (by rfl) (by simp only [Act.put, List.setIfInBounds_toArray, List.set_cons_zero, List.set_cons_succ]; rfl) ?_
        refine no_ 9 (some 24) rfl rfl (by kernel_rfl) (fun _ _ _ h => h) (by rfl) (by simp only [Act.put, List.setIfInBounds_toArray, List.set_cons_zero, List.set_cons_succ]; rfl) ?_
        refine no_ 10 (some 25) rfl rfl (by kernel_rfl) (fun _ _ _ h => h) (by rfl) (by simp only [Act.put, List.setIfInBounds_toArray, List.set_cons_zero, List.set_cons_succ]; rfl) ?_
        refine no_ 11 (some 26) rfl rfl (by kernel_rfl) (fun _ _ _ h => h) (by rfl) (by simp only [Act.put, List.setIfInBounds_toArray, List.set_cons_zero, List.set_cons_succ]; rfl) ?_
        refine no_ 12 (some 27) rfl rfl (by kernel_rfl) (fun _ _ _ h => h) (by rfl) (by simp only [Act.put, List.setIfInBounds_toArray, List.set_cons_zero, List.set_cons_succ]; rfl) ?_
        refine no_ 13 (some 28) rfl rfl (by kernel_rfl) (fun _ _ _ h => h) (by rfl) (by simp only [Act.put, List.setIfInBounds_toArray, List.set_cons_zero, List.set_cons_succ]; rfl) ?_
        refine no_ 14 (some 29) rfl rfl (by kernel_rfl) (fun _ _ _ h => h) (by rfl) (by simp only [Act.put, List.setIfInBounds_toArray, List.set_cons_zero, List.set_cons_succ]; rfl) ?_
        refine no_ 15 (some 30) rfl rfl (by kernel_rfl) (fun _ _ _ h => h) (by rfl) (by simp only [Act.put, List.setIfInBounds_toArray, List.set_cons_zero, List.set_cons_succ]; rfl) ?_
        refine no_ 16 (some 31) rfl rfl (by kernel_rfl) (fun _ _ _ h => h) (by rfl) (by simp only [Act.put, List.setIfInBounds_toArray, List.set_cons_zero, List.set_cons_succ]; rfl) ?_
        refine no_ 17 (some 32) rfl rfl (by kernel_rfl) (fun _ _ _ h => h) (by rfl) (by simp only [Act.put, List.setIfInBounds_toArray, List.set_cons_zero, List.set_cons_succ]; rfl) ?_
        refine no_ 18 (some 33) rfl rfl (by kernel_rfl) (fun _ _ _ h => h) (by rfl) (by simp only [Act.put, List.setIfInBounds_toArray, List.set_cons_zero, List.set_cons_succ]; rfl) ?_
        refine no_ 19 (some 34) rfl rfl (by kernel_rfl) (fun _ _ _ h => h) (by rfl) (by simp only [Act.put, List.setIfInBounds_toArray, List.set_cons_zero, List.set_cons_succ]; rfl) ?_
        refine no_ 20 (some 35) rfl rfl (by kernel_rfl) (fun _ _ _ h => h) (by rfl) (by simp only [Act.put, List.setIfInBounds_toArray, List.set_cons_zero, List.set_cons_succ]; rfl) ?_
        refine pu_ 21 36 rfl rfl (by kernel_rfl) (fun _ _ _ h => h) (by rfl) (fun w' => by go_simp; all_goals with_reducible rfl) (by simp only [Act.put, List.setIfInBounds_toArray, List.set_cons_zero, List.set_cons_succ]; rfl) ?_
        refine done_ (by kernel_rfl) ?_
        go_wp2
        go_ret
        exact ⟨by rw [refR_bad (k := k) hkn HBad.out]; first | done | rfl, below_then HB.out HB.out.size hHeld⟩
      case true =>
        have HP := Aside0.mk hp
        by_cases hk0 : k = 0
        · have HGood := Aside0.mk (show okRef ps k = true by rw [HGd.out, hp, hk0]; rfl)
          have hgt : decide ((k : Int) > 0) = false := decide_eq_false (by omega)
          have hgt2 : decide ((0 : Int) < k) = false := hgt
          have hgt3 : decide (0 < k) = false := decide_eq_false (by omega)
          have HK0 := Aside0.mk hk0
          clear hp hk0
          refine be_ 22 [] (W := wr) rfl (by kernel_rfl) (fun hHeld => ?_)
          refine pu_ 0 15 rfl rfl (by kernel_rfl) (fun _ _ _ h => h) (by rfl) (fun w' => by go_simp; all_goals with_reducible rfl) (by simp only [Act.put, List.setIfInBounds_toArray, List.set_cons_zero, List.set_cons_succ]; rfl) ?_
          refine pu_ 1 16 rfl rfl (by kernel_rfl) (fun _ _ _ h => h) (by rfl) (fun w' => by go_simp; all_goals with_reducible rfl) (by simp only [Act.put, List.setIfInBounds_toArray, List.set_cons_zero, List.set_cons_succ]; rfl) ?_
          refine pu_ 2 17 rfl rfl (by kernel_rfl) (fun _ _ _ h => h) (by rfl) (fun w' => by go_simp; all_goals with_reducible rfl) (by simp only [Act.put, List.setIfInBounds_toArray, List.set_cons_zero, List.set_cons_succ]; rfl) ?_
          refine tk_ 3 18 hHeld rfl rfl (by kernel_rfl) (fun _ _ _ h => h) (by rfl) (fun w' hS' => by
            have q0 := pw_cell_below hS' HP0.out.1
            have q1 := pw_cell_below hS' HP0.out.2
            go_simp
            all_goals with_reducible rfl) (by simp only [Act.put, List.setIfInBounds_toArray, List.set_cons_zero, List.set_cons_succ]; rfl) ?_
          refine cl_ 4 19 Try.func28 hHeld (cv_ (rPointMay_any p.f0 p.f1 _) (congrArg Value.bool (show ptB p.f0 p.f1 = true from HP.out))) rfl rfl (by kernel_rfl) (by decide) (by kernel_rfl) rfl (by rfl) rfl (by first | rfl | (simp only [List.map_toArray, List.map_cons, List.map_nil]; rfl)) (by simp only [Act.put, List.setIfInBounds_toArray, List.set_cons_zero, List.set_cons_succ]; rfl) (fun w4 hb4 hHeld => ?_)
          refine pu_ 5 20 rfl rfl (by kernel_rfl) (fun _ _ _ h => h) (by rfl) (fun w' => by go_simp; all_goals with_reducible rfl) (by simp only [Act.put, List.setIfInBounds_toArray, List.set_cons_zero, List.set_cons_succ]; rfl) ?_
          refine pu_ 6 21 rfl rfl (by kernel_rfl) (fun _ _ _ h => h) (by rfl) (fun w' => by go_simp; all_goals with_reducible rfl) (by simp only [Act.put, List.setIfInBounds_toArray, List.set_cons_zero, List.set_cons_succ]; rfl) ?_
          refine pu_ 7 22 rfl rfl (by kernel_rfl) (fun _ _ _ h => h) (by rfl) (fun w' => by go_simp; all_goals with_reducible rfl) (by simp only [Act.put, List.setIfInBounds_toArray, List.set_cons_zero, List.set_cons_succ]; rfl) ?_
          refine pu_ 8 23 rfl rfl (by kernel_rfl) (fun _ _ _ h => h) (by rfl) (fun w' => by go_simp; all_goals with_reducible rfl) (by simp only [Act.put, List.setIfInBounds_toArray, List.set_cons_zero, List.set_cons_succ]; rfl) ?_
          refine pu_ 9 24 rfl rfl (by kernel_rfl) (fun _ _ _ h => h) (by rfl) (fun w' => by go_simp; all_goals with_reducible rfl) (by simp only [Act.put, List.setIfInBounds_toArray, List.set_cons_zero, List.set_cons_succ]; rfl) ?_
          refine no_ 10 (some 25) rfl rfl (by kernel_rfl) (fun _ _ _ h => h) (by rfl) (by simp only [Act.put, List.setIfInBounds_toArray, List.set_cons_zero, List.set_cons_succ]; rfl) ?_
          refine no_ 11 (some 26) rfl rfl (by kernel_rfl) (fun _ _ _ h => h) (by rfl) (by simp only [Act.put, List.setIfInBounds_toArray, List.set_cons_zero, List.set_cons_succ]; rfl) ?_
          refine no_ 12 (some 27) rfl rfl (by kernel_rfl) (fun _ _ _ h => h) (by rfl) (by simp only [Act.put, List.setIfInBounds_toArray, List.set_cons_zero, List.set_cons_succ]; rfl) ?_
          refine no_ 13 (some 28) rfl rfl (by kernel_rfl) (fun _ _ _ h => h) (by rfl) (by simp only [Act.put, List.setIfInBounds_toArray, List.set_cons_zero, List.set_cons_succ]; rfl) ?_
          refine no_ 14 (some 29) rfl rfl (by kernel_rfl) (fun _ _ _ h => h) (by rfl) (by simp only [Act.put, List.setIfInBounds_toArray, List.set_cons_zero, List.set_cons_succ]; rfl) ?_
          refine no_ 15 (some 30) rfl rfl (by kernel_rfl) (fun _ _ _ h => h) (by rfl) (by simp only [Act.put, List.setIfInBounds_toArray, List.set_cons_zero, List.set_cons_succ]; rfl) ?_
          refine no_ 16 (some 31) rfl rfl (by kernel_rfl) (fun _ _ _ h => h) (by rfl) (by simp only [Act.put, List.setIfInBounds_toArray, List.set_cons_zero, List.set_cons_succ]; rfl) ?_
          refine no_ 17 (some 32) rfl rfl (by kernel_rfl) (fun _ _ _ h => h) (by rfl) (by simp only [Act.put, List.setIfInBounds_toArray, List.set_cons_zero, List.set_cons_succ]; rfl) ?_
          refine no_ 18 (some 33) rfl rfl (by kernel_rfl) (fun _ _ _ h => h) (by rfl) (by simp only [Act.put, List.setIfInBounds_toArray, List.set_cons_zero, List.set_cons_succ]; rfl) ?_
          refine no_ 19 (some 34) rfl rfl (by kernel_rfl) (fun _ _ _ h => h) (by rfl) (by simp only [Act.put, List.setIfInBounds_toArray, List.set_cons_zero, List.set_cons_succ]; rfl) ?_
          refine pu_ 20 35 rfl rfl (by kernel_rfl) (fun _ _ _ h => h) (by rfl) (fun w' => by go_simp; all_goals with_reducible rfl) (by simp only [Act.put, List.setIfInBounds_toArray, List.set_cons_zero, List.set_cons_succ]; rfl) ?_
          refine pu_ 21 36 rfl rfl (by kernel_rfl) (fun _ _ _ h => h) (by rfl) (fun w' => by go_simp; all_goals with_reducible rfl) (by simp only [Act.put, List.setIfInBounds_toArray, List.set_cons_zero, List.set_cons_succ]; rfl) ?_
          refine done_ (by kernel_rfl) ?_
          have HB3 := Aside0.mk (below_then HB.out HB.out.size hHeld)
          clear hHeld
          go_wp2
          go_roundw
          case rel => exact ⟨k + 1, by omega, by go_num, ⟨fun j hj => by rcases Nat.lt_succ_iff_lt_or_eq.1 hj with h | rfl; exact HOk.out j h; exact HGood.out⟩, HB3⟩
          case measure => simp [intOf]; omega
        · have hgt : decide ((k : Int) > 0) = true := decide_eq_true (by omega)
          have hgt2 : decide ((0 : Int) < k) = true := hgt
          have hgt3 : decide (0 < k) = true := decide_eq_true (by omega)
          have hw1 : IntKind.i64.wrap ((k : Int) - 1) = ((k - 1 : Nat) : Int) := by rw [IntWalk.i64_in _ ⟨by omega, by omega⟩]; omega
          have hpos : 0 < k := by omega
          have hltq : ((k - 1 : Nat) : Int) < ps.length := by omega
          have hltp : (k : Int) < ps.length := by omega
          clear hk0
          cases he : eqP p q
          case false =>
            have hev : (p.f0 == q.f0 && p.f1 == q.f1) = false := he
            have HGood := Aside0.mk (show okRef ps k = true by rw [HGd.out, hp, he]; simp)
            clear he hp
            refine be_ 22 [] (W := wr) rfl (by kernel_rfl) (fun hHeld => ?_)
            refine pu_ 0 15 rfl rfl (by kernel_rfl) (fun _ _ _ h => h) (by rfl) (fun w' => by go_simp; all_goals with_reducible rfl) (by simp only [Act.put, List.setIfInBounds_toArray, List.set_cons_zero, List.set_cons_succ]; rfl) ?_
            refine pu_ 1 16 rfl rfl (by kernel_rfl) (fun _ _ _ h => h) (by rfl) (fun w' => by go_simp; all_goals with_reducible rfl) (by simp only [Act.put, List.setIfInBounds_toArray, List.set_cons_zero, List.set_cons_succ]; rfl) ?_
            refine pu_ 2 17 rfl rfl (by kernel_rfl) (fun _ _ _ h => h) (by rfl) (fun w' => by go_simp; all_goals with_reducible rfl) (by simp only [Act.put, List.setIfInBounds_toArray, List.set_cons_zero, List.set_cons_succ]; rfl) ?_
            refine tk_ 3 18 hHeld rfl rfl (by kernel_rfl) (fun _ _ _ h => h) (by rfl) (fun w' hS' => by
              have q0 := pw_cell_below hS' HP0.out.1
              have q1 := pw_cell_below hS' HP0.out.2
              go_simp
              all_goals with_reducible rfl) (by simp only [Act.put, List.setIfInBounds_toArray, List.set_cons_zero, List.set_cons_succ]; rfl) ?_
            refine cl_ 4 19 Try.func28 hHeld (cv_ (rPointMay_any p.f0 p.f1 _) (congrArg Value.bool (show ptB p.f0 p.f1 = true from HP.out))) rfl rfl (by kernel_rfl) (by decide) (by kernel_rfl) rfl (by rfl) rfl (by first | rfl | (simp only [List.map_toArray, List.map_cons, List.map_nil]; rfl)) (by simp only [Act.put, List.setIfInBounds_toArray, List.set_cons_zero, List.set_cons_succ]; rfl) (fun w4 hb4 hHeld => ?_)
            refine pu_ 5 20 rfl rfl (by kernel_rfl) (fun _ _ _ h => h) (by rfl) (fun w' => by go_simp; all_goals with_reducible rfl) (by simp only [Act.put, List.setIfInBounds_toArray, List.set_cons_zero, List.set_cons_succ]; rfl) ?_
            refine pu_ 6 21 rfl rfl (by kernel_rfl) (fun _ _ _ h => h) (by rfl) (fun w' => by go_simp; all_goals with_reducible rfl) (by simp only [Act.put, List.setIfInBounds_toArray, List.set_cons_zero, List.set_cons_succ]; rfl) ?_
            refine pu_ 7 22 rfl rfl (by kernel_rfl) (fun _ _ _ h => h) (by rfl) (fun w' => by go_simp; all_goals with_reducible rfl) (by simp only [Act.put, List.setIfInBounds_toArray, List.set_cons_zero, List.set_cons_succ]; rfl) ?_
            refine pu_ 8 23 rfl rfl (by kernel_rfl) (fun _ _ _ h => h) (by rfl) (fun w' => by go_simp; all_goals with_reducible rfl) (by simp only [Act.put, List.setIfInBounds_toArray, List.set_cons_zero, List.set_cons_succ]; rfl) ?_
            refine pu_ 9 24 rfl rfl (by kernel_rfl) (fun _ _ _ h => h) (by rfl) (fun w' => by go_simp; all_goals with_reducible rfl) (by simp only [Act.put, List.setIfInBounds_toArray, List.set_cons_zero, List.set_cons_succ]; rfl) ?_
            refine pu_ 10 25 rfl rfl (by kernel_rfl) (fun _ _ _ h => h) (by rfl) (fun w' => by go_simp; all_goals with_reducible rfl) (by simp only [Act.put, List.setIfInBounds_toArray, List.set_cons_zero, List.set_cons_succ]; rfl) ?_
            refine pu_ 11 26 rfl rfl (by kernel_rfl) (fun _ _ _ h => h) (by rfl) (fun w' => by go_simp; all_goals with_reducible rfl) (by simp only [Act.put, List.setIfInBounds_toArray, List.set_cons_zero, List.set_cons_succ]; rfl) ?_
            refine pu_ 12 27 rfl rfl (by kernel_rfl) (fun _ _ _ h => h) (by rfl) (fun w' => by go_simp; all_goals with_reducible rfl) (by simp only [Act.put, List.setIfInBounds_toArray, List.set_cons_zero, List.set_cons_succ]; rfl) ?_
            refine tk_ 13 28 hHeld rfl rfl (by kernel_rfl) (fun _ _ _ h => h) (by rfl) (fun w' hS' => by
              have q0 := pw_cell_below hS' HP0.out.1
              have q1 := pw_cell_below hS' HP0.out.2
              go_simp
              all_goals with_reducible rfl) (by simp only [Act.put, List.setIfInBounds_toArray, List.set_cons_zero, List.set_cons_succ]; rfl) ?_
            refine pu_ 14 29 rfl rfl (by kernel_rfl) (fun _ _ _ h => h) (by rfl) (fun w' => by go_simp; all_goals with_reducible rfl) (by simp only [Act.put, List.setIfInBounds_toArray, List.set_cons_zero, List.set_cons_succ]; rfl) ?_
            refine pu_ 15 30 rfl rfl (by kernel_rfl) (fun _ _ _ h => h) (by rfl) (fun w' => by go_simp; all_goals with_reducible rfl) (by simp only [Act.put, List.setIfInBounds_toArray, List.set_cons_zero, List.set_cons_succ]; rfl) ?_
            refine pu_ 16 31 rfl rfl (by kernel_rfl) (fun _ _ _ h => h) (by rfl) (fun w' => by go_simp; all_goals with_reducible rfl) (by simp only [Act.put, List.setIfInBounds_toArray, List.set_cons_zero, List.set_cons_succ]; rfl) ?_
            refine pu_ 17 32 rfl rfl (by kernel_rfl) (fun _ _ _ h => h) (by rfl) (fun w' => by go_simp; all_goals with_reducible rfl) (by simp only [Act.put, List.setIfInBounds_toArray, List.set_cons_zero, List.set_cons_succ]; rfl) ?_
            refine tk_ 18 33 hHeld rfl rfl (by kernel_rfl) (fun _ _ _ h => h) (by rfl) (fun w' hS' => by
              have r0 := pw_cell_below hS' HQ0.out.1
              have r1 := pw_cell_below hS' HQ0.out.2
              go_simp
              all_goals with_reducible rfl) (by simp only [Act.put, List.setIfInBounds_toArray, List.set_cons_zero, List.set_cons_succ]; rfl) ?_
            refine pu_ 19 34 rfl rfl (by kernel_rfl) (fun _ _ _ h => h) (by rfl) (fun w' => by go_simp; all_goals with_reducible rfl) (by simp only [Act.put, List.setIfInBounds_toArray, List.set_cons_zero, List.set_cons_succ]; rfl) ?_
            refine pu_ 20 35 rfl rfl (by kernel_rfl) (fun _ _ _ h => h) (by rfl) (fun w' => by go_simp; all_goals with_reducible rfl) (by simp only [Act.put, List.setIfInBounds_toArray, List.set_cons_zero, List.set_cons_succ]; rfl) ?_
            refine pu_ 21 36 rfl rfl (by kernel_rfl) (fun _ _ _ h => h) (by rfl) (fun w' => by go_simp; all_goals with_reducible rfl) (by simp only [Act.put, List.setIfInBounds_toArray, List.set_cons_zero, List.set_cons_succ]; rfl) ?_
            refine done_ (by kernel_rfl) ?_
            have HB3 := Aside0.mk (below_then HB.out HB.out.size hHeld)
            clear hHeld
            go_wp2
            go_roundw
            case rel => exact ⟨k + 1, by omega, by go_num, ⟨fun j hj => by rcases Nat.lt_succ_iff_lt_or_eq.1 hj with h | rfl; exact HOk.out j h; exact HGood.out⟩, HB3⟩
            case measure => simp [intOf]; omega
          case true =>
            have hev : (p.f0 == q.f0 && p.f1 == q.f1) = true := he
            have HBad := Aside0.mk (show okRef ps k = false by rw [HGd.out, hp, he, decide_eq_true (by omega : 0 < k)]; rfl)
            clear he hp
            refine be_ 22 [] (W := wr) rfl (by kernel_rfl) (fun hHeld => ?_)
            refine pu_ 0 15 rfl rfl (by kernel_rfl) (fun _ _ _ h => h) (by rfl) (fun w' => by go_simp; all_goals with_reducible rfl) (by simp only [Act.put, List.setIfInBounds_toArray, List.set_cons_zero, List.set_cons_succ]; rfl) ?_
            refine pu_ 1 16 rfl rfl (by kernel_rfl) (fun _ _ _ h => h) (by rfl) (fun w' => by go_simp; all_goals with_reducible rfl) (by simp only [Act.put, List.setIfInBounds_toArray, List.set_cons_zero, List.set_cons_succ]; rfl) ?_
            refine pu_ 2 17 rfl rfl (by kernel_rfl) (fun _ _ _ h => h) (by rfl) (fun w' => by go_simp; all_goals with_reducible rfl) (by simp only [Act.put, List.setIfInBounds_toArray, List.set_cons_zero, List.set_cons_succ]; rfl) ?_
            refine tk_ 3 18 hHeld rfl rfl (by kernel_rfl) (fun _ _ _ h => h) (by rfl) (fun w' hS' => by
              have q0 := pw_cell_below hS' HP0.out.1
              have q1 := pw_cell_below hS' HP0.out.2
              go_simp
              all_goals with_reducible rfl) (by simp only [Act.put, List.setIfInBounds_toArray, List.set_cons_zero, List.set_cons_succ]; rfl) ?_
            refine cl_ 4 19 Try.func28 hHeld (cv_ (rPointMay_any p.f0 p.f1 _) (congrArg Value.bool (show ptB p.f0 p.f1 = true from HP.out))) rfl rfl (by kernel_rfl) (by decide) (by kernel_rfl) rfl (by rfl) rfl (by first | rfl | (simp only [List.map_toArray, List.map_cons, List.map_nil]; rfl)) (by simp only [Act.put, List.setIfInBounds_toArray, List.set_cons_zero, List.set_cons_succ]; rfl) (fun w4 hb4 hHeld => ?_)
            refine pu_ 5 20 rfl rfl (by kernel_rfl) (fun _ _ _ h => h) (by rfl) (fun w' => by go_simp; all_goals with_reducible rfl) (by simp only [Act.put, List.setIfInBounds_toArray, List.set_cons_zero, List.set_cons_succ]; rfl) ?_
            refine pu_ 6 21 rfl rfl (by kernel_rfl) (fun _ _ _ h => h) (by rfl) (fun w' => by go_simp; all_goals with_reducible rfl) (by simp only [Act.put, List.setIfInBounds_toArray, List.set_cons_zero, List.set_cons_succ]; rfl) ?_
            refine pu_ 7 22 rfl rfl (by kernel_rfl) (fun _ _ _ h => h) (by rfl) (fun w' => by go_simp; all_goals with_reducible rfl) (by simp only [Act.put, List.setIfInBounds_toArray, List.set_cons_zero, List.set_cons_succ]; rfl) ?_
            refine pu_ 8 23 rfl rfl (by kernel_rfl) (fun _ _ _ h => h) (by rfl) (fun w' => by go_simp; all_goals with_reducible rfl) (by simp only [Act.put, List.setIfInBounds_toArray, List.set_cons_zero, List.set_cons_succ]; rfl) ?_
            refine pu_ 9 24 rfl rfl (by kernel_rfl) (fun _ _ _ h => h) (by rfl) (fun w' => by go_simp; all_goals with_reducible rfl) (by simp only [Act.put, List.setIfInBounds_toArray, List.set_cons_zero, List.set_cons_succ]; rfl) ?_
            refine pu_ 10 25 rfl rfl (by kernel_rfl) (fun _ _ _ h => h) (by rfl) (fun w' => by go_simp; all_goals with_reducible rfl) (by simp only [Act.put, List.setIfInBounds_toArray, List.set_cons_zero, List.set_cons_succ]; rfl) ?_
            refine pu_ 11 26 rfl rfl (by kernel_rfl) (fun _ _ _ h => h) (by rfl) (fun w' => by go_simp; all_goals with_reducible rfl) (by simp only [Act.put, List.setIfInBounds_toArray, List.set_cons_zero, List.set_cons_succ]; rfl) ?_
            refine pu_ 12 27 rfl rfl (by kernel_rfl) (fun _ _ _ h => h) (by rfl) (fun w' => by go_simp; all_goals with_reducible rfl) (by simp only [Act.put, List.setIfInBounds_toArray, List.set_cons_zero, List.set_cons_succ]; rfl) ?_
            refine tk_ 13 28 hHeld rfl rfl (by kernel_rfl) (fun _ _ _ h => h) (by rfl) (fun w' hS' => by
              have q0 := pw_cell_below hS' HP0.out.1
              have q1 := pw_cell_below hS' HP0.out.2
              go_simp
              all_goals with_reducible rfl) (by simp only [Act.put, List.setIfInBounds_toArray, List.set_cons_zero, List.set_cons_succ]; rfl) ?_
            refine pu_ 14 29 rfl rfl (by kernel_rfl) (fun _ _ _ h => h) (by rfl) (fun w' => by go_simp; all_goals with_reducible rfl) (by simp only [Act.put, List.setIfInBounds_toArray, List.set_cons_zero, List.set_cons_succ]; rfl) ?_
            refine pu_ 15 30 rfl rfl (by kernel_rfl) (fun _ _ _ h => h) (by rfl) (fun w' => by go_simp; all_goals with_reducible rfl) (by simp only [Act.put, List.setIfInBounds_toArray, List.set_cons_zero, List.set_cons_succ]; rfl) ?_
            refine pu_ 16 31 rfl rfl (by kernel_rfl) (fun _ _ _ h => h) (by rfl) (fun w' => by go_simp; all_goals with_reducible rfl) (by simp only [Act.put, List.setIfInBounds_toArray, List.set_cons_zero, List.set_cons_succ]; rfl) ?_
            refine pu_ 17 32 rfl rfl (by kernel_rfl) (fun _ _ _ h => h) (by rfl) (fun w' => by go_simp; all_goals with_reducible rfl) (by simp only [Act.put, List.setIfInBounds_toArray, List.set_cons_zero, List.set_cons_succ]; rfl) ?_
            refine tk_ 18 33 hHeld rfl rfl (by kernel_rfl) (fun _ _ _ h => h) (by rfl) (fun w' hS' => by
              have r0 := pw_cell_below hS' HQ0.out.1
              have r1 := pw_cell_below hS' HQ0.out.2
              go_simp
              all_goals with_reducible rfl) (by simp only [Act.put, List.setIfInBounds_toArray, List.set_cons_zero, List.set_cons_succ]; rfl) ?_
            refine pu_ 19 34 rfl rfl (by kernel_rfl) (fun _ _ _ h => h) (by rfl) (fun w' => by go_simp; all_goals with_reducible rfl) (by simp only [Act.put, List.setIfInBounds_toArray, List.set_cons_zero, List.set_cons_succ]; rfl) ?_
            refine pu_ 20 35 rfl rfl (by kernel_rfl) (fun _ _ _ h => h) (by rfl) (fun w' => by go_simp; all_goals with_reducible rfl) (by simp only [Act.put, List.setIfInBounds_toArray, List.set_cons_zero, List.set_cons_succ]; rfl) ?_
            refine pu_ 21 36 rfl rfl (by kernel_rfl) (fun _ _ _ h => h) (by rfl) (fun w' => by go_simp; all_goals with_reducible rfl) (by simp only [Act.put, List.setIfInBounds_toArray, List.set_cons_zero, List.set_cons_succ]; rfl) ?_
            refine done_ (by kernel_rfl) ?_
            go_wp2
            go_ret
            exact ⟨by rw [refR_bad (k := k) hkn HBad.out]; first | done | rfl, below_then HB.out HB.out.size hHeld⟩
    · obtain rfl : k = ps.length := by omega
      have HV := Aside0.mk (refR_end (shape := shape) (by omega) HOk.out)
      clear HOk
      by_cases s0 : shape = 0
      · subst s0
        have HW := Aside0.mk (show endRef 0 ps = decide ((ps.length : Int) = 1) from rfl)
        go_wp2
        go_ret
        exact ⟨by rw [HV.out, HW.out]; first | done | rfl, HB.out⟩
      by_cases s1 : shape = 1
      · subst s1
        have HW := Aside0.mk (show endRef 1 ps = decide (2 ≤ (ps.length : Int)) from rfl)
        go_wp2
        go_ret
        exact ⟨by rw [HV.out, HW.out]; first | done | rfl, HB.out⟩
      by_cases s2 : shape = 2
      · subst s2
        have HW := Aside0.mk (show endRef 2 ps = (decide (3 ≤ (ps.length : Int)) && !eqP (rdP ps 0) (rdP ps (ps.length - 1))) from rfl)
        by_cases h3 : 3 ≤ (ps.length : Int)
        · obtain ⟨ad, e, p0, p1⟩ := at_p (Kd.C_below HR.out HB.out) 0 (by omega)
          subst e
          obtain ⟨ad1, e1, q0, q1⟩ := at_p (Kd.C_below HR.out HB.out) (ps.length - 1) (by omega)
          cases e1
          rw [show ad.add (0 * 2) = ad from rfl] at p0 p1
          have hw1 : IntKind.i64.wrap ((ps.length : Int) - 1) = ((ps.length - 1 : Nat) : Int) := by rw [IntWalk.i64_in _ ⟨by omega, by omega⟩]; omega
          have hlt : ((ps.length - 1 : Nat) : Int) < ps.length := by omega
          have hlt0 : (0 : Int) < ps.length := by omega
          have hge : decide ((ps.length : Int) ≥ 3) = true := decide_eq_true (by omega)
          replace HW := Aside0.mk (show endRef 2 ps = (!((rdP ps 0).f0 == (rdP ps (ps.length - 1)).f0) || !((rdP ps 0).f1 == (rdP ps (ps.length - 1)).f1)) by rw [HW.out, decide_eq_true h3, Bool.true_and, eqP, Bool.not_and])
          generalize rdP ps (ps.length - 1) = q at *
          generalize rdP ps 0 = p at *
          go_upto_region 14 with (fail)
          go_quiet (fail)
          go_wp2
          go_ret
          exact ⟨by rw [HV.out, HW.out]; first | done | rfl, pw_below_drewN HB.out _⟩
        · have hge : decide ((ps.length : Int) ≥ 3) = false := decide_eq_false (by omega)
          replace HW := Aside0.mk (show endRef 2 ps = false by rw [HW.out, decide_eq_false h3]; rfl)
          go_upto_region 14 with (fail)
          go_quiet (fail)
          go_wp2
          go_ret
          exact ⟨by rw [HV.out, HW.out]; first | done | rfl, pw_below_drewN HB.out _⟩
      have HW := Aside0.mk (show endRef shape ps = false by unfold endRef; rw [if_neg s0, if_neg s1, if_neg s2])
      have t0 : (shape == 0) = false := by simp [s0]
      have t1 : (shape == 1) = false := by simp [s1]
      have t2 : (shape == 2) = false := by simp [s2]
      go_wp2
      go_ret
      exact ⟨by rw [HV.out, HW.out]; first | done | rfl, HB.out⟩
/-- the reference: may a feature be -/
def refF (f : Ft) : Bool :=
  !(decide (f.id < 1) || decide (65535 < f.id) || decide ((f.rings.length : Int) < 1) || decide (4 < (f.rings.length : Int)) || (!(f.shape == 2) && !((f.rings.length : Int) == 1))) && f.rings.all (refR f.shape)
theorem refF_no {f : Ft} (h : (decide (f.id < 1) || decide (65535 < f.id) || decide ((f.rings.length : Int) < 1) || decide (4 < (f.rings.length : Int)) || (!(f.shape == 2) && !((f.rings.length : Int) == 1))) = true) : refF f = false := by
  unfold refF; rw [h]; rfl
theorem refF_go {f : Ft} (h : (decide (f.id < 1) || decide (65535 < f.id) || decide ((f.rings.length : Int) < 1) || decide (4 < (f.rings.length : Int)) || (!(f.shape == 2) && !((f.rings.length : Int) == 1))) = false) : refF f = f.rings.all (refR f.shape) := by
  unfold refF; rw [h]; rfl
theorem allR_bad {F : List S23 → Bool} {rs : List (List S23)} {k : Nat} (hk : k < rs.length) (h : F (rdR rs k) = false) : rs.all F = false :=
  List.all_eq_false.2 ⟨_, rdR_mem hk, by simp [h]⟩
theorem allR_good {F : List S23 → Bool} {rs : List (List S23)} (h : ∀ k, k < rs.length → F (rdR rs k) = true) : rs.all F = true :=
  List.all_eq_true.2 fun x hx => by
    obtain ⟨k, hk, rfl⟩ := List.mem_iff_getElem.1 hx
    have := h k hk
    unfold rdR at this
    simpa [hk] using this
set_option maxHeartbeats 8000000 in
set_option maxRecDepth 100000 in
theorem rMay_any (f : Ft) (A : Option Addr) (c : Nat) (w : World) (h : RC w A f.rings) :
    Calls Try.prog 21 #[.agg #[.int .i64 f.id, .int .i64 f.shape, .slice A f.rings.length c]] w fun e w' => e = .returned (.bool (refF f)) ∧ Below w.heap.size w w' := by
  obtain ⟨id, shape, rs⟩ := f
  have HR := Aside0.mk h
  clear h
  dsimp only at HR ⊢
  have HN := Aside0.mk (refF_no (f := ⟨id, shape, rs⟩))
  have HG := Aside0.mk (refF_go (f := ⟨id, shape, rs⟩))
  dsimp only at HN HG
  have HB := Aside0.mk (below_alloc (Below.refl w.heap.size w) (.cells #[.int .i64 id, .int .i64 shape, .slice A rs.length c] 27))
  by_cases h1 : id < 1
  · have HV := Aside0.mk (HN.out (by rw [decide_eq_true h1]; rfl))
    go_enter Try.func21, Try.ntmps21
    go_wp2_with fail
    go_ret
    exact ⟨by rw [HV.out]; first | done | rfl, HB.out⟩
  by_cases h2 : 65535 < id
  · have HV := Aside0.mk (HN.out (by rw [decide_eq_true h2, Bool.or_true]; rfl))
    go_enter Try.func21, Try.ntmps21
    go_wp2_with fail
    go_ret
    exact ⟨by rw [HV.out]; first | done | rfl, HB.out⟩
  by_cases h3 : (rs.length : Int) < 1
  · have HV := Aside0.mk (HN.out (by rw [decide_eq_true h3, Bool.or_true]; rfl))
    go_enter Try.func21, Try.ntmps21
    go_wp2_with fail
    go_ret
    exact ⟨by rw [HV.out]; first | done | rfl, HB.out⟩
  by_cases h4 : 4 < (rs.length : Int)
  · have HV := Aside0.mk (HN.out (by rw [decide_eq_true h4, Bool.or_true]; rfl))
    go_enter Try.func21, Try.ntmps21
    go_wp2_with fail
    go_ret
    exact ⟨by rw [HV.out]; first | done | rfl, HB.out⟩
  have hd0 : (decide (id < 1) || decide (65535 < id) || decide ((rs.length : Int) < 1) || decide (4 < (rs.length : Int))) = false := by
    rw [decide_eq_false h1, decide_eq_false h2, decide_eq_false h3, decide_eq_false h4]; rfl
  have hlr : (rs.length : Int) ≤ 4 := by omega
  by_cases h5 : (!(shape == 2) && !((rs.length : Int) == 1)) = true
  · have HV := Aside0.mk (HN.out (by rw [hd0, h5]; rfl))
    clear hd0
    have s2 : (shape != 2) = true := by have := (Bool.and_eq_true_iff.1 h5).1; simpa using this
    have l1 : ((rs.length : Int) != 1) = true := by have := (Bool.and_eq_true_iff.1 h5).2; simpa using this
    clear h5
    go_enter Try.func21, Try.ntmps21
    go_wp2_with fail
    go_ret
    exact ⟨by rw [HV.out]; first | done | rfl, HB.out⟩
  have h5' : (!(shape == 2) && !((rs.length : Int) == 1)) = false := by cases h : (!(shape == 2) && !((rs.length : Int) == 1)) <;> simp_all
  have HV := Aside0.mk (HG.out (by rw [hd0, h5']; rfl))
  clear hd0 h5'
  have HX := Aside0.mk (blk_new w (.cells #[.int .i64 id, .int .i64 shape, .slice A rs.length c] 27))
  have HRb := Aside0.mk (Kd.C_below HR.out (below_alloc (Below.refl _ w) (.cells #[.int .i64 id, .int .i64 shape, .slice A rs.length c] 27)))
  have hloop : ∀ (s2b : (shape != 2) = true ∨ (shape != 2) = false), Calls Try.prog 21 #[.agg #[.int .i64 id, .int .i64 shape, .slice A rs.length c]] w fun e w' => e = .returned (.bool (refF ⟨id, shape, rs⟩)) ∧ Below w.heap.size w w' := by
    intro s2b
    have hl1 : (shape != 2) = true → ((rs.length : Int) != 1) = false := by
      intro hs
      cases hl : ((rs.length : Int) != 1)
      · rfl
      · exfalso
        apply h5
        have e1 : (!(shape == 2)) = true := hs
        have e2 : (!((rs.length : Int) == 1)) = true := hl
        rw [e1, e2]; rfl
    clear h5
    have HL1 := Aside0.mk hl1
    clear hl1
    rcases s2b with s2 | s2
    · have l1 := HL1.out s2
      go_enter Try.func21, Try.ntmps21
      go_wp2_with fail
      clear h1 h2 h3 h4
      generalize w.alloc (.cells #[.int .i64 id, .int .i64 shape, .slice A rs.length c] 27) = W at *
      go_loopw [3] (fun i wr => ∃ k : Nat, k ≤ rs.length ∧ i = .int .i64 (k : Int) ∧ Aside0 (∀ j, j < k → refR shape (rdR rs j) = true) ∧ Aside0 (Below W.heap.size W wr)) (fun i _ => rs.length - (intOf i).toNat)
      case atStart => exact ⟨0, Nat.zero_le _, rfl, ⟨fun j hj => absurd hj (by omega)⟩, ⟨Below.refl _ _⟩⟩
      case round =>
        obtain ⟨k, hk, rfl, HI, HB2⟩ := hrel
        have HXr := Aside0.mk (blk_below HX.out HB2.out)
        have b0 : wr.cell? ⟨w.heap.size, 0, none⟩ = some (.int .i64 id) := (blk_cell HXr.out 0).trans rfl
        have b1 : wr.cell? ⟨w.heap.size, 1, none⟩ = some (.int .i64 shape) := (blk_cell HXr.out 1).trans rfl
        have b2 : wr.cell? ⟨w.heap.size, 2, none⟩ = some (.slice A rs.length c) := (blk_cell HXr.out 2).trans rfl
        by_cases hlt : k < rs.length
        · obtain ⟨ad, A0, c0, e1, hx, hc, hp⟩ := at_r (Kd.C_below HRb.out HB2.out) k hlt
          subst e1
          have HN2 := Aside0.mk (fun (hf : refR shape (rdR rs k) = false) => allR_bad (F := refR shape) hlt hf)
          have HS := Aside0.mk (fun (ht : refR shape (rdR rs k) = true) j (hj : j < k + 1) => show refR shape (rdR rs j) = true by
            rcases Nat.lt_succ_iff_lt_or_eq.1 hj with h | rfl
            · exact HI.out j h
            · exact ht)
          have HP := Aside0.mk hp
          clear hp
          generalize rdR rs k = ps at *
          go_upto_region 6 with (fail)
          refine be_ 9 [] (W := wr) rfl (by kernel_rfl) (fun hHeld => ?_)
          refine pu_ 0 42 rfl rfl (by kernel_rfl) (fun _ _ _ h => h) (by rfl) (fun w' => by go_simp; all_goals with_reducible rfl) (by simp only [Act.put, List.setIfInBounds_toArray, List.set_cons_zero, List.set_cons_succ]; rfl) ?_
          refine tk_ 1 43 hHeld rfl rfl (by kernel_rfl) (fun _ _ _ h => h) (by rfl) (fun w' hS' => by
            have q1 := pw_cell_below hS' b1
            go_simp
            all_goals with_reducible rfl) (by simp only [Act.put, List.setIfInBounds_toArray, List.set_cons_zero, List.set_cons_succ]; rfl) ?_
          refine pu_ 2 44 rfl rfl (by kernel_rfl) (fun _ _ _ h => h) (by rfl) (fun w' => by go_simp; all_goals with_reducible rfl) (by simp only [Act.put, List.setIfInBounds_toArray, List.set_cons_zero, List.set_cons_succ]; rfl) ?_
          refine tk_ 3 45 hHeld rfl rfl (by kernel_rfl) (fun _ _ _ h => h) (by rfl) (fun w' hS' => by
            have q2 := pw_cell_below hS' b2
            go_simp
            all_goals with_reducible rfl) (by simp only [Act.put, List.setIfInBounds_toArray, List.set_cons_zero, List.set_cons_succ]; rfl) ?_
          refine pu_ 4 46 rfl rfl (by kernel_rfl) (fun _ _ _ h => h) (by rfl) (fun w' => by go_simp; all_goals with_reducible rfl) (by simp only [Act.put, List.setIfInBounds_toArray, List.set_cons_zero, List.set_cons_succ]; rfl) ?_
          refine pu_ 5 47 rfl rfl (by kernel_rfl) (fun _ _ _ h => h) (by rfl) (fun w' => by go_simp; all_goals with_reducible rfl) (by simp only [Act.put, List.setIfInBounds_toArray, List.set_cons_zero, List.set_cons_succ]; rfl) ?_
          refine tk_ 6 48 hHeld rfl rfl (by kernel_rfl) (fun _ _ _ h => h) (by rfl) (fun w' hS' => by
            have q3 := pw_cell_below hS' hx
            go_simp
            all_goals with_reducible rfl) (by simp only [Act.put, List.setIfInBounds_toArray, List.set_cons_zero, List.set_cons_succ]; rfl) ?_
          refine cl_ 7 49 Try.func50 hHeld (rRing_any shape A0 c0 ps _ (Kd.C_below HP.out hHeld)) rfl rfl (by kernel_rfl) (by decide) (by kernel_rfl) rfl (by rfl) rfl (by first | rfl | (simp only [List.map_toArray, List.map_cons, List.map_nil]; rfl)) (by simp only [Act.put, List.setIfInBounds_toArray, List.set_cons_zero, List.set_cons_succ]; rfl) (fun w4 hb4 hHeld => ?_)
          refine pu_ 8 50 rfl rfl (by kernel_rfl) (fun _ _ _ h => h) (by rfl) (fun w' => by go_simp; all_goals with_reducible rfl) (by simp only [Act.put, List.setIfInBounds_toArray, List.set_cons_zero, List.set_cons_succ]; rfl) ?_
          refine done_ (by kernel_rfl) ?_
          have HB3 := Aside0.mk (below_then HB2.out HB2.out.size hHeld)
          clear hHeld
          cases he : refR shape ps
          · have HNv := Aside0.mk (HN2.out he)
            clear he
            go_wp2_with fail
            go_ret
            exact ⟨by rw [HV.out, HNv.out]; first | done | rfl, below_then HB.out HB.out.size HB3.out⟩
          · have HSv := Aside0.mk (HS.out he)
            clear he
            go_wp2_with fail
            go_roundw
            case rel => exact ⟨k + 1, by omega, by go_num, HSv, HB3⟩
            case measure => simp [intOf]; omega
        · obtain rfl : k = rs.length := by omega
          have HD := Aside0.mk (allR_good HI.out)
          go_wp2_with fail
          go_ret
          exact ⟨by rw [HV.out, HD.out]; first | done | rfl, below_then HB.out HB.out.size HB2.out⟩
    · go_enter Try.func21, Try.ntmps21
      go_wp2_with fail
      clear h1 h2 h3 h4
      generalize w.alloc (.cells #[.int .i64 id, .int .i64 shape, .slice A rs.length c] 27) = W at *
      go_loopw [3] (fun i wr => ∃ k : Nat, k ≤ rs.length ∧ i = .int .i64 (k : Int) ∧ Aside0 (∀ j, j < k → refR shape (rdR rs j) = true) ∧ Aside0 (Below W.heap.size W wr)) (fun i _ => rs.length - (intOf i).toNat)
      case atStart => exact ⟨0, Nat.zero_le _, rfl, ⟨fun j hj => absurd hj (by omega)⟩, ⟨Below.refl _ _⟩⟩
      case round =>
        obtain ⟨k, hk, rfl, HI, HB2⟩ := hrel
        have HXr := Aside0.mk (blk_below HX.out HB2.out)
        have b0 : wr.cell? ⟨w.heap.size, 0, none⟩ = some (.int .i64 id) := (blk_cell HXr.out 0).trans rfl
        have b1 : wr.cell? ⟨w.heap.size, 1, none⟩ = some (.int .i64 shape) := (blk_cell HXr.out 1).trans rfl
        have b2 : wr.cell? ⟨w.heap.size, 2, none⟩ = some (.slice A rs.length c) := (blk_cell HXr.out 2).trans rfl
        by_cases hlt : k < rs.length
        · obtain ⟨ad, A0, c0, e1, hx, hc, hp⟩ := at_r (Kd.C_below HRb.out HB2.out) k hlt
          subst e1
          have HN2 := Aside0.mk (fun (hf : refR shape (rdR rs k) = false) => allR_bad (F := refR shape) hlt hf)
          have HS := Aside0.mk (fun (ht : refR shape (rdR rs k) = true) j (hj : j < k + 1) => show refR shape (rdR rs j) = true by
            rcases Nat.lt_succ_iff_lt_or_eq.1 hj with h | rfl
            · exact HI.out j h
            · exact ht)
          have HP := Aside0.mk hp
          clear hp
          generalize rdR rs k = ps at *
          go_upto_region 6 with (fail)
          refine be_ 9 [] (W := wr) rfl (by kernel_rfl) (fun hHeld => ?_)
          refine pu_ 0 42 rfl rfl (by kernel_rfl) (fun _ _ _ h => h) (by rfl) (fun w' => by go_simp; all_goals with_reducible rfl) (by simp only [Act.put, List.setIfInBounds_toArray, List.set_cons_zero, List.set_cons_succ]; rfl) ?_
          refine tk_ 1 43 hHeld rfl rfl (by kernel_rfl) (fun _ _ _ h => h) (by rfl) (fun w' hS' => by
            have q1 := pw_cell_below hS' b1
            go_simp
            all_goals with_reducible rfl) (by simp only [Act.put, List.setIfInBounds_toArray, List.set_cons_zero, List.set_cons_succ]; rfl) ?_
          refine pu_ 2 44 rfl rfl (by kernel_rfl) (fun _ _ _ h => h) (by rfl) (fun w' => by go_simp; all_goals with_reducible rfl) (by simp only [Act.put, List.setIfInBounds_toArray, List.set_cons_zero, List.set_cons_succ]; rfl) ?_
          refine tk_ 3 45 hHeld rfl rfl (by kernel_rfl) (fun _ _ _ h => h) (by rfl) (fun w' hS' => by
            have q2 := pw_cell_below hS' b2
            go_simp
            all_goals with_reducible rfl) (by simp only [Act.put, List.setIfInBounds_toArray, List.set_cons_zero, List.set_cons_succ]; rfl) ?_
          refine pu_ 4 46 rfl rfl (by kernel_rfl) (fun _ _ _ h => h) (by rfl) (fun w' => by go_simp; all_goals with_reducible rfl) (by simp only [Act.put, List.setIfInBounds_toArray, List.set_cons_zero, List.set_cons_succ]; rfl) ?_
          refine pu_ 5 47 rfl rfl (by kernel_rfl) (fun _ _ _ h => h) (by rfl) (fun w' => by go_simp; all_goals with_reducible rfl) (by simp only [Act.put, List.setIfInBounds_toArray, List.set_cons_zero, List.set_cons_succ]; rfl) ?_
          refine tk_ 6 48 hHeld rfl rfl (by kernel_rfl) (fun _ _ _ h => h) (by rfl) (fun w' hS' => by
            have q3 := pw_cell_below hS' hx
            go_simp
            all_goals with_reducible rfl) (by simp only [Act.put, List.setIfInBounds_toArray, List.set_cons_zero, List.set_cons_succ]; rfl) ?_
          refine cl_ 7 49 Try.func50 hHeld (rRing_any shape A0 c0 ps _ (Kd.C_below HP.out hHeld)) rfl rfl (by kernel_rfl) (by decide) (by kernel_rfl) rfl (by rfl) rfl (by first | rfl | (simp only [List.map_toArray, List.map_cons, List.map_nil]; rfl)) (by simp only [Act.put, List.setIfInBounds_toArray, List.set_cons_zero, List.set_cons_succ]; rfl) (fun w4 hb4 hHeld => ?_)
          refine pu_ 8 50 rfl rfl (by kernel_rfl) (fun _ _ _ h => h) (by rfl) (fun w' => by go_simp; all_goals with_reducible rfl) (by simp only [Act.put, List.setIfInBounds_toArray, List.set_cons_zero, List.set_cons_succ]; rfl) ?_
          refine done_ (by kernel_rfl) ?_
          have HB3 := Aside0.mk (below_then HB2.out HB2.out.size hHeld)
          clear hHeld
          cases he : refR shape ps
          · have HNv := Aside0.mk (HN2.out he)
            clear he
            go_wp2_with fail
            go_ret
            exact ⟨by rw [HV.out, HNv.out]; first | done | rfl, below_then HB.out HB.out.size HB3.out⟩
          · have HSv := Aside0.mk (HS.out he)
            clear he
            go_wp2_with fail
            go_roundw
            case rel => exact ⟨k + 1, by omega, by go_num, HSv, HB3⟩
            case measure => simp [intOf]; omega
        · obtain rfl : k = rs.length := by omega
          have HD := Aside0.mk (allR_good HI.out)
          go_wp2_with fail
          go_ret
          exact ⟨by rw [HV.out, HD.out]; first | done | rfl, below_then HB.out HB.out.size HB2.out⟩
  exact hloop (by cases (shape != 2) <;> simp)
end Go.Proofs.Ytmednnpmkhgfpaa.SH
