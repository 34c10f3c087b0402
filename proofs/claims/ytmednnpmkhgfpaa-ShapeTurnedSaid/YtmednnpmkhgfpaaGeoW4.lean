/- What the program's function geom.Cross answers. Worlds: nothing that was there has changed. -/
import Derived.Test.YtmednnpmkhgfpaaGeoW3
import Derived.Test.YtmednnpmkhgfpaaWLast
namespace Go.Proofs.Ytmednnpmkhgfpaa.GW
open Go Go.RowKit Go.Proofs.Ytmednnpmkhgfpaa.Wd Go.Proofs.Ytmednnpmkhgfpaa.Geo Go.Proofs.YtmednnpmkhgfpaaW.PrintLast

def may4 (ax ay bx b_y cx cy dx dy : Int) : Bool := ptB ax ay && ptB bx b_y && ptB cx cy && ptB dx dy
def crossA (ax ay bx b_y cx cy dx dy : Int) : Bool := may4 ax ay bx b_y cx cy dx dy && crossB ax ay bx b_y cx cy dx dy
set_option maxHeartbeats 2000000 in
theorem cross_no (ax ay bx b_y cx cy dx dy : Int) (w : World) (h : may4 ax ay bx b_y cx cy dx dy = false) :
    Calls Try.prog 59 #[.agg #[.int .i64 ax, .int .i64 ay], .agg #[.int .i64 bx, .int .i64 b_y], .agg #[.int .i64 cx, .int .i64 cy], .agg #[.int .i64 dx, .int .i64 dy]] w fun e w' => e = .returned (.tuple #[.bool (crossA ax ay bx b_y cx cy dx dy), .int .i64 (orErr (may4 ax ay bx b_y cx cy dx dy) 300)]) ∧ Below w.heap.size w w' := by
  have H := Lib.hid h; clear h
  go_enter Try.func59, Try.ntmps59
  go_wp2_with (first | (go_at_call 29; refine (pointMay_any _ _ _).mono ?_; rintro e w1 ⟨rfl, hb⟩; obtain ⟨hc0, hc1, hc2, hc3, hf0, hf1, hf2, hf3, hn0, hn1, hn2, hn3, hm0, hm1, hm2, hm3, hl0, hl1, hl2, hl3, hz⟩ := bc4 (H := w.heap.size) hb (by first | assumption | (simp; done) | (simp; omega)); have hB := below_then (w := w) (by first | assumption | exact below_new (by assumption) _ | exact below_new (below_new (by assumption) _) _ | exact below_new (below_new (below_new (by assumption) _) _) _ | exact below_new (below_new (below_new (below_new (by assumption) _) _) _) _ | exact below_new (below_new (below_new (below_new (Below.refl _ _) _) _) _) _) hb; clear hb) | (go_at_call 54; exfalso; have h := H.out; simp_all [may4]; done))
  all_goals
    go_ret2
    refine ⟨?_, by assumption⟩
    unfold crossA
    rw [H.out]; rfl
set_option maxHeartbeats 4000000 in
theorem cross_yes (ax ay bx b_y cx cy dx dy : Int) (w : World) (ha : ptB ax ay = true) (hb' : ptB bx b_y = true) (hc : ptB cx cy = true) (hd : ptB dx dy = true) :
    Calls Try.prog 59 #[.agg #[.int .i64 ax, .int .i64 ay], .agg #[.int .i64 bx, .int .i64 b_y], .agg #[.int .i64 cx, .int .i64 cy], .agg #[.int .i64 dx, .int .i64 dy]] w fun e w' => e = .returned (.tuple #[.bool (crossB ax ay bx b_y cx cy dx dy), .int .i64 0]) ∧ Below w.heap.size w w' := by
  by_cases h1 : turnZ ax ay bx b_y cx cy * turnZ ax ay bx b_y dx dy < 0
  · have g1 := decide_eq_true h1
    go_enter Try.func59, Try.ntmps59
    go_wp2_with (first | (go_at_call 29; refine (pointMay_any _ _ _).mono ?_; rintro e w1 ⟨rfl, hb⟩; obtain ⟨hc0, hc1, hc2, hc3, hf0, hf1, hf2, hf3, hn0, hn1, hn2, hn3, hm0, hm1, hm2, hm3, hl0, hl1, hl2, hl3, hz⟩ := bc4 (H := w.heap.size) hb (by first | assumption | (simp; done) | (simp; omega)); have hB := below_then (w := w) (by first | assumption | exact below_new (by assumption) _ | exact below_new (below_new (by assumption) _) _ | exact below_new (below_new (below_new (by assumption) _) _) _ | exact below_new (below_new (below_new (below_new (by assumption) _) _) _) _ | exact below_new (below_new (below_new (below_new (Below.refl _ _) _) _) _) _) hb; clear hb) | (go_at_call 54; refine (on_any _ _ _ _ _ _ _ (by assumption) (by assumption) (by assumption)).mono ?_; rintro e w1 ⟨rfl, hb⟩; obtain ⟨hc0, hc1, hc2, hc3, hf0, hf1, hf2, hf3, hn0, hn1, hn2, hn3, hm0, hm1, hm2, hm3, hl0, hl1, hl2, hl3, hz⟩ := bc4 (H := w.heap.size) hb (by first | assumption | (simp; done) | (simp; omega)); have hB := below_then (w := w) (by first | assumption | exact below_new (by assumption) _ | exact below_new (below_new (by assumption) _) _ | exact below_new (below_new (below_new (by assumption) _) _) _ | exact below_new (below_new (below_new (below_new (by assumption) _) _) _) _ | exact below_new (below_new (below_new (below_new (Below.refl _ _) _) _) _) _) hb; clear hb))
    all_goals first
      | (go_ret2; refine ⟨?_, by assumption⟩; clear hc0 hc1 hc2 hc3 hf0 hf1 hf2 hf3; simp_all [crossB]; done)
      | skip
    have K1 := Lib.hid h1; clear h1
    have e1 : IntKind.i64.wrap (turnZ ax ay bx b_y cx cy * turnZ ax ay bx b_y dx dy) = turnZ ax ay bx b_y cx cy * turnZ ax ay bx b_y dx dy := IntWalk.i64_in _ (mul_sg _ _)
    have e2 : IntKind.i64.wrap (turnZ cx cy dx dy ax ay * turnZ cx cy dx dy bx b_y) = turnZ cx cy dx dy ax ay * turnZ cx cy dx dy bx b_y := IntWalk.i64_in _ (mul_sg _ _)
    go_region_held3 (fun w' => Below w.heap.size w w' ∧ w'.cell? ⟨w.heap.size, 0, none⟩ = some (.int .i64 ax) ∧ w'.cell? ⟨w.heap.size, 1, none⟩ = some (.int .i64 ay) ∧ w'.cell? ⟨w.heap.size + 1, 0, none⟩ = some (.int .i64 bx) ∧ w'.cell? ⟨w.heap.size + 1, 1, none⟩ = some (.int .i64 b_y) ∧ w'.cell? ⟨w.heap.size + 1 + 1, 0, none⟩ = some (.int .i64 cx) ∧ w'.cell? ⟨w.heap.size + 1 + 1, 1, none⟩ = some (.int .i64 cy) ∧ w'.cell? ⟨w.heap.size + 1 + 1 + 1, 0, none⟩ = some (.int .i64 dx) ∧ w'.cell? ⟨w.heap.size + 1 + 1 + 1, 1, none⟩ = some (.int .i64 dy))
      (first | (go_split_ands; refine ⟨below_then (by assumption) hb, keeps hb (by assumption), keeps hb (by assumption), keeps hb (by assumption), keeps hb (by assumption), keeps hb (by assumption), keeps hb (by assumption), keeps hb (by assumption), keeps hb (by assumption)⟩) | (refine ⟨Below.drew (by assumption), ?_, ?_, ?_, ?_, ?_, ?_, ?_, ?_⟩ <;> go_simp))
      (first | (go_at_call 64; refine (turn_any _ _ _ _ _ _ _ (by assumption) (by assumption) (by assumption)).mono ?_; rintro e w1 ⟨rfl, hb⟩))
    all_goals
      clear e1 e2
      go_wp2
      go_ret2
      refine ⟨?_, And.left (by assumption : Below w.heap.size w _ ∧ _)⟩
      have G1 := Lib.hid g1; clear g1
      have z : crossB ax ay bx b_y cx cy dx dy = (decide (turnZ ax ay bx b_y cx cy * turnZ ax ay bx b_y dx dy < 0) && decide (turnZ cx cy dx dy ax ay * turnZ cx cy dx dy bx b_y < 0)) := by
        have n1 : onB cx cy ax ay bx b_y = false := by first | assumption | (simpa using ‹¬ onB cx cy ax ay bx b_y = true›)
        have n2 : onB dx dy ax ay bx b_y = false := by first | assumption | (simpa using ‹¬ onB dx dy ax ay bx b_y = true›)
        have n3 : onB ax ay cx cy dx dy = false := by first | assumption | (simpa using ‹¬ onB ax ay cx cy dx dy = true›)
        have n4 : onB bx b_y cx cy dx dy = false := by first | assumption | (simpa using ‹¬ onB bx b_y cx cy dx dy = true›)
        unfold crossB
        rw [n1, n2, n3, n4]; rfl
      rw [z, G1.out]; rfl
  · have g1 := decide_eq_false h1
    go_enter Try.func59, Try.ntmps59
    go_wp2_with (first | (go_at_call 29; refine (pointMay_any _ _ _).mono ?_; rintro e w1 ⟨rfl, hb⟩; obtain ⟨hc0, hc1, hc2, hc3, hf0, hf1, hf2, hf3, hn0, hn1, hn2, hn3, hm0, hm1, hm2, hm3, hl0, hl1, hl2, hl3, hz⟩ := bc4 (H := w.heap.size) hb (by first | assumption | (simp; done) | (simp; omega)); have hB := below_then (w := w) (by first | assumption | exact below_new (by assumption) _ | exact below_new (below_new (by assumption) _) _ | exact below_new (below_new (below_new (by assumption) _) _) _ | exact below_new (below_new (below_new (below_new (by assumption) _) _) _) _ | exact below_new (below_new (below_new (below_new (Below.refl _ _) _) _) _) _) hb; clear hb) | (go_at_call 54; refine (on_any _ _ _ _ _ _ _ (by assumption) (by assumption) (by assumption)).mono ?_; rintro e w1 ⟨rfl, hb⟩; obtain ⟨hc0, hc1, hc2, hc3, hf0, hf1, hf2, hf3, hn0, hn1, hn2, hn3, hm0, hm1, hm2, hm3, hl0, hl1, hl2, hl3, hz⟩ := bc4 (H := w.heap.size) hb (by first | assumption | (simp; done) | (simp; omega)); have hB := below_then (w := w) (by first | assumption | exact below_new (by assumption) _ | exact below_new (below_new (by assumption) _) _ | exact below_new (below_new (below_new (by assumption) _) _) _ | exact below_new (below_new (below_new (below_new (by assumption) _) _) _) _ | exact below_new (below_new (below_new (below_new (Below.refl _ _) _) _) _) _) hb; clear hb))
    all_goals first
      | (go_ret2; refine ⟨?_, by assumption⟩; clear hc0 hc1 hc2 hc3 hf0 hf1 hf2 hf3; simp_all [crossB]; done)
      | skip
    have K1 := Lib.hid h1; clear h1
    have e1 : IntKind.i64.wrap (turnZ ax ay bx b_y cx cy * turnZ ax ay bx b_y dx dy) = turnZ ax ay bx b_y cx cy * turnZ ax ay bx b_y dx dy := IntWalk.i64_in _ (mul_sg _ _)
    have e2 : IntKind.i64.wrap (turnZ cx cy dx dy ax ay * turnZ cx cy dx dy bx b_y) = turnZ cx cy dx dy ax ay * turnZ cx cy dx dy bx b_y := IntWalk.i64_in _ (mul_sg _ _)
    have hS : (fun w' => Below w.heap.size w w' ∧ w'.cell? ⟨w.heap.size, 0, none⟩ = some (.int .i64 ax) ∧ w'.cell? ⟨w.heap.size, 1, none⟩ = some (.int .i64 ay) ∧ w'.cell? ⟨w.heap.size + 1, 0, none⟩ = some (.int .i64 bx) ∧ w'.cell? ⟨w.heap.size + 1, 1, none⟩ = some (.int .i64 b_y) ∧ w'.cell? ⟨w.heap.size + 1 + 1, 0, none⟩ = some (.int .i64 cx) ∧ w'.cell? ⟨w.heap.size + 1 + 1, 1, none⟩ = some (.int .i64 cy) ∧ w'.cell? ⟨w.heap.size + 1 + 1 + 1, 0, none⟩ = some (.int .i64 dx) ∧ w'.cell? ⟨w.heap.size + 1 + 1 + 1, 1, none⟩ = some (.int .i64 dy)) w1.drew := by
      refine ⟨Below.drew (by assumption), ?_, ?_, ?_, ?_, ?_, ?_, ?_, ?_⟩ <;> go_simp
    refine start_ (n := 24) (S := (fun w' => Below w.heap.size w w' ∧ w'.cell? ⟨w.heap.size, 0, none⟩ = some (.int .i64 ax) ∧ w'.cell? ⟨w.heap.size, 1, none⟩ = some (.int .i64 ay) ∧ w'.cell? ⟨w.heap.size + 1, 0, none⟩ = some (.int .i64 bx) ∧ w'.cell? ⟨w.heap.size + 1, 1, none⟩ = some (.int .i64 b_y) ∧ w'.cell? ⟨w.heap.size + 1 + 1, 0, none⟩ = some (.int .i64 cx) ∧ w'.cell? ⟨w.heap.size + 1 + 1, 1, none⟩ = some (.int .i64 cy) ∧ w'.cell? ⟨w.heap.size + 1 + 1 + 1, 0, none⟩ = some (.int .i64 dx) ∧ w'.cell? ⟨w.heap.size + 1 + 1 + 1, 1, none⟩ = some (.int .i64 dy))) (ds := []) #[false, false, false, false, false, false, false, false, false, false, false, false, false, false, false, false, false, false, false, false, false, false, false, false] (by kernel_rfl) rfl rfl hS (fun hHeld => ?_)
    refine take_ (i := 0) (N := (some 50)) (v := ?_) (a' := ?_) #[true, false, false, false, false, false, false, false, false, false, false, false, false, false, false, false, false, false, false, false, false, false, false, false] rfl rfl (by kernel_rfl) (fun _ _ _ h => h) (Or.inl ⟨by rfl, ?_⟩) hHeld ?_ ?_
    rotate_left
    · intro w' hS'; (try dsimp only at hS'); go_split_ands; go_simp
      all_goals with_reducible rfl
    rotate_left
    · simp only [Act.put, List.setIfInBounds_toArray, List.set_cons_zero, List.set_cons_succ]
      rfl
    refine take_ (i := 1) (N := (some 51)) (v := ?_) (a' := ?_) #[true, true, false, false, false, false, false, false, false, false, false, false, false, false, false, false, false, false, false, false, false, false, false, false] rfl rfl (by kernel_rfl) (fun _ _ _ h => h) (Or.inl ⟨by rfl, ?_⟩) hHeld ?_ ?_
    rotate_left
    · intro w' hS'; (try dsimp only at hS'); go_split_ands; go_simp
      all_goals with_reducible rfl
    rotate_left
    · simp only [Act.put, List.setIfInBounds_toArray, List.set_cons_zero, List.set_cons_succ]
      rfl
    refine take_ (i := 2) (N := (some 52)) (v := ?_) (a' := ?_) #[true, true, true, false, false, false, false, false, false, false, false, false, false, false, false, false, false, false, false, false, false, false, false, false] rfl rfl (by kernel_rfl) (fun _ _ _ h => h) (Or.inl ⟨by rfl, ?_⟩) hHeld ?_ ?_
    rotate_left
    · intro w' hS'; (try dsimp only at hS'); go_split_ands; go_simp
      all_goals with_reducible rfl
    rotate_left
    · simp only [Act.put, List.setIfInBounds_toArray, List.set_cons_zero, List.set_cons_succ]
      rfl
    refine take_ (i := 4) (N := (some 54)) (v := ?_) (a' := ?_) #[true, true, true, false, true, false, false, false, false, false, false, false, false, false, false, false, false, false, false, false, false, false, false, false] rfl rfl (by kernel_rfl) (fun _ _ _ h => h) (Or.inl ⟨by rfl, ?_⟩) hHeld ?_ ?_
    rotate_left
    · intro w' hS'; (try dsimp only at hS'); go_split_ands; go_simp
      all_goals with_reducible rfl
    rotate_left
    · simp only [Act.put, List.setIfInBounds_toArray, List.set_cons_zero, List.set_cons_succ]
      rfl
    refine take_ (i := 5) (N := (some 55)) (v := ?_) (a' := ?_) #[true, true, true, false, true, true, false, false, false, false, false, false, false, false, false, false, false, false, false, false, false, false, false, false] rfl rfl (by kernel_rfl) (fun _ _ _ h => h) (Or.inl ⟨by rfl, ?_⟩) hHeld ?_ ?_
    rotate_left
    · intro w' hS'; (try dsimp only at hS'); go_split_ands; go_simp
      all_goals with_reducible rfl
    rotate_left
    · simp only [Act.put, List.setIfInBounds_toArray, List.set_cons_zero, List.set_cons_succ]
      rfl
    refine take_ (i := 6) (N := (some 56)) (v := ?_) (a' := ?_) #[true, true, true, false, true, true, true, false, false, false, false, false, false, false, false, false, false, false, false, false, false, false, false, false] rfl rfl (by kernel_rfl) (fun _ _ _ h => h) (Or.inl ⟨by rfl, ?_⟩) hHeld ?_ ?_
    rotate_left
    · intro w' hS'; (try dsimp only at hS'); go_split_ands; go_simp
      all_goals with_reducible rfl
    rotate_left
    · simp only [Act.put, List.setIfInBounds_toArray, List.set_cons_zero, List.set_cons_succ]
      rfl
    refine one_ (i := 3) (N := (some 53)) #[true, true, true, true, true, true, true, false, false, false, false, false, false, false, false, false, false, false, false, false, false, false, false, false] rfl rfl (by kernel_rfl) (by decide) (fun K hK => ?_)
    refine goes_ Try.func64 (by kernel_rfl) rfl #[.agg #[.int .i64 ax, .int .i64 ay], .agg #[.int .i64 bx, .int .i64 b_y], .agg #[.int .i64 cx, .int .i64 cy]] (by rfl) rfl rfl (by first | rfl | (simp only [List.map_toArray, List.map_cons, List.map_nil]; rfl)) ?_
    refine (turn_any _ _ _ _ _ _ _ ha hb' hc).mono ?_
    rintro e w1 ⟨rfl, hb⟩
    refine ⟨_, rfl, ?_⟩
    refine hK.out _ _ ⟨below_then hHeld.1 hb, keeps hb hHeld.2.1, keeps hb hHeld.2.2.1, keeps hb hHeld.2.2.2.1, keeps hb hHeld.2.2.2.2.1, keeps hb hHeld.2.2.2.2.2.1, keeps hb hHeld.2.2.2.2.2.2.1, keeps hb hHeld.2.2.2.2.2.2.2.1, keeps hb hHeld.2.2.2.2.2.2.2.2⟩ (fun hHeld => ?_)
    clear hK K
    refine norm_ (a' := ?_) ?_ ?_
    rotate_left
    · show Act.put _ (some 53) _ = _
      simp only [Act.put, List.setIfInBounds_toArray, List.set_cons_zero, List.set_cons_succ]
      rfl
    refine one_ (i := 7) (N := (some 57)) #[true, true, true, true, true, true, true, true, false, false, false, false, false, false, false, false, false, false, false, false, false, false, false, false] rfl rfl (by kernel_rfl) (by decide) (fun K hK => ?_)
    refine goes_ Try.func64 (by kernel_rfl) rfl #[.agg #[.int .i64 ax, .int .i64 ay], .agg #[.int .i64 bx, .int .i64 b_y], .agg #[.int .i64 dx, .int .i64 dy]] (by rfl) rfl rfl (by first | rfl | (simp only [List.map_toArray, List.map_cons, List.map_nil]; rfl)) ?_
    refine (turn_any _ _ _ _ _ _ _ ha hb' hd).mono ?_
    rintro e w1 ⟨rfl, hb⟩
    refine ⟨_, rfl, ?_⟩
    refine hK.out _ _ ⟨below_then hHeld.1 hb, keeps hb hHeld.2.1, keeps hb hHeld.2.2.1, keeps hb hHeld.2.2.2.1, keeps hb hHeld.2.2.2.2.1, keeps hb hHeld.2.2.2.2.2.1, keeps hb hHeld.2.2.2.2.2.2.1, keeps hb hHeld.2.2.2.2.2.2.2.1, keeps hb hHeld.2.2.2.2.2.2.2.2⟩ (fun hHeld => ?_)
    clear hK K
    refine norm_ (a' := ?_) ?_ ?_
    rotate_left
    · show Act.put _ (some 57) _ = _
      simp only [Act.put, List.setIfInBounds_toArray, List.set_cons_zero, List.set_cons_succ]
      rfl
    refine take_ (i := 8) (N := (some 58)) (v := ?_) (a' := ?_) #[true, true, true, true, true, true, true, true, true, false, false, false, false, false, false, false, false, false, false, false, false, false, false, false] rfl rfl (by kernel_rfl) (fun _ _ _ h => h) (Or.inl ⟨by rfl, ?_⟩) hHeld ?_ ?_
    rotate_left
    · intro w' hS'; (try dsimp only at hS'); go_split_ands; go_simp
      all_goals with_reducible rfl
    rotate_left
    · simp only [Act.put, List.setIfInBounds_toArray, List.set_cons_zero, List.set_cons_succ]
      rfl
    refine take_ (i := 9) (N := (some 59)) (v := ?_) (a' := ?_) #[true, true, true, true, true, true, true, true, true, true, false, false, false, false, false, false, false, false, false, false, false, false, false, false] rfl rfl (by kernel_rfl) (fun _ _ _ h => h) (Or.inl ⟨by rfl, ?_⟩) hHeld ?_ ?_
    rotate_left
    · intro w' hS'; (try dsimp only at hS'); go_split_ands; go_simp
      all_goals with_reducible rfl
    rotate_left
    · simp only [Act.put, List.setIfInBounds_toArray, List.set_cons_zero, List.set_cons_succ]
      rfl
    refine take_ (i := 10) (N := (some 60)) (v := ?_) (a' := ?_) #[true, true, true, true, true, true, true, true, true, true, true, false, false, false, false, false, false, false, false, false, false, false, false, false] rfl rfl (by kernel_rfl) (fun _ _ _ h => h) (Or.inl ⟨by rfl, ?_⟩) hHeld ?_ ?_
    rotate_left
    · intro w' hS'; (try dsimp only at hS'); go_split_ands; go_simp
      all_goals with_reducible rfl
    rotate_left
    · simp only [Act.put, List.setIfInBounds_toArray, List.set_cons_zero, List.set_cons_succ]
      rfl
    refine pure_ (i := 11) (N := (some 61)) (v := undef) (a' := ?_) #[true, true, true, true, true, true, true, true, true, true, true, true, false, false, false, false, false, false, false, false, false, false, false, false] rfl rfl (by kernel_rfl) (fun _ _ _ h => h) (Or.inr ⟨by rfl, rfl⟩) ?_ ?_
    rotate_left
    · simp only [Act.put, List.setIfInBounds_toArray, List.set_cons_zero, List.set_cons_succ]
      rfl
    refine pure_ (i := 12) (N := (some 62)) (v := undef) (a' := ?_) #[true, true, true, true, true, true, true, true, true, true, true, true, true, false, false, false, false, false, false, false, false, false, false, false] rfl rfl (by kernel_rfl) (fun _ _ _ h => h) (Or.inr ⟨by rfl, rfl⟩) ?_ ?_
    rotate_left
    · simp only [Act.put, List.setIfInBounds_toArray, List.set_cons_zero, List.set_cons_succ]
      rfl
    refine pure_ (i := 13) (N := (some 63)) (v := undef) (a' := ?_) #[true, true, true, true, true, true, true, true, true, true, true, true, true, true, false, false, false, false, false, false, false, false, false, false] rfl rfl (by kernel_rfl) (fun _ _ _ h => h) (Or.inr ⟨by rfl, rfl⟩) ?_ ?_
    rotate_left
    · simp only [Act.put, List.setIfInBounds_toArray, List.set_cons_zero, List.set_cons_succ]
      rfl
    refine pure_ (i := 14) (N := (some 64)) (v := undef) (a' := ?_) #[true, true, true, true, true, true, true, true, true, true, true, true, true, true, true, false, false, false, false, false, false, false, false, false] rfl rfl (by kernel_rfl) (fun _ _ _ h => h) (Or.inr ⟨by rfl, rfl⟩) ?_ ?_
    rotate_left
    · simp only [Act.put, List.setIfInBounds_toArray, List.set_cons_zero, List.set_cons_succ]
      rfl
    refine pure_ (i := 15) (N := (some 65)) (v := undef) (a' := ?_) #[true, true, true, true, true, true, true, true, true, true, true, true, true, true, true, true, false, false, false, false, false, false, false, false] rfl rfl (by kernel_rfl) (fun _ _ _ h => h) (Or.inr ⟨by rfl, rfl⟩) ?_ ?_
    rotate_left
    · simp only [Act.put, List.setIfInBounds_toArray, List.set_cons_zero, List.set_cons_succ]
      rfl
    refine pure_ (i := 16) (N := (some 66)) (v := undef) (a' := ?_) #[true, true, true, true, true, true, true, true, true, true, true, true, true, true, true, true, true, false, false, false, false, false, false, false] rfl rfl (by kernel_rfl) (fun _ _ _ h => h) (Or.inr ⟨by rfl, rfl⟩) ?_ ?_
    rotate_left
    · simp only [Act.put, List.setIfInBounds_toArray, List.set_cons_zero, List.set_cons_succ]
      rfl
    refine pure_ (i := 17) (N := (some 67)) (v := undef) (a' := ?_) #[true, true, true, true, true, true, true, true, true, true, true, true, true, true, true, true, true, true, false, false, false, false, false, false] rfl rfl (by kernel_rfl) (fun _ _ _ h => h) (Or.inr ⟨by rfl, rfl⟩) ?_ ?_
    rotate_left
    · simp only [Act.put, List.setIfInBounds_toArray, List.set_cons_zero, List.set_cons_succ]
      rfl
    refine pure_ (i := 18) (N := (some 68)) (v := undef) (a' := ?_) #[true, true, true, true, true, true, true, true, true, true, true, true, true, true, true, true, true, true, true, false, false, false, false, false] rfl rfl (by kernel_rfl) (fun _ _ _ h => h) (Or.inr ⟨by rfl, rfl⟩) ?_ ?_
    rotate_left
    · simp only [Act.put, List.setIfInBounds_toArray, List.set_cons_zero, List.set_cons_succ]
      rfl
    refine pure_ (i := 19) (N := (some 69)) (v := undef) (a' := ?_) #[true, true, true, true, true, true, true, true, true, true, true, true, true, true, true, true, true, true, true, true, false, false, false, false] rfl rfl (by kernel_rfl) (fun _ _ _ h => h) (Or.inr ⟨by rfl, rfl⟩) ?_ ?_
    rotate_left
    · simp only [Act.put, List.setIfInBounds_toArray, List.set_cons_zero, List.set_cons_succ]
      rfl
    refine pure_ (i := 20) (N := (some 70)) (v := undef) (a' := ?_) #[true, true, true, true, true, true, true, true, true, true, true, true, true, true, true, true, true, true, true, true, true, false, false, false] rfl rfl (by kernel_rfl) (fun _ _ _ h => h) (Or.inr ⟨by rfl, rfl⟩) ?_ ?_
    rotate_left
    · simp only [Act.put, List.setIfInBounds_toArray, List.set_cons_zero, List.set_cons_succ]
      rfl
    refine take_ (i := 21) (N := (some 71)) (v := ?_) (a' := ?_) #[true, true, true, true, true, true, true, true, true, true, true, true, true, true, true, true, true, true, true, true, true, true, false, false] rfl rfl (by kernel_rfl) (fun _ _ _ h => h) (Or.inl ⟨by rfl, ?_⟩) hHeld ?_ ?_
    rotate_left
    · intro w' hS'; (try dsimp only at hS'); go_split_ands; go_simp
      all_goals with_reducible rfl
    rotate_left
    · simp only [Act.put, List.setIfInBounds_toArray, List.set_cons_zero, List.set_cons_succ]
      rfl
    refine take_ (i := 22) (N := (some 8)) (v := ?_) (a' := ?_) #[true, true, true, true, true, true, true, true, true, true, true, true, true, true, true, true, true, true, true, true, true, true, true, false] rfl rfl (by kernel_rfl) (fun _ _ _ h => h) (Or.inl ⟨by rfl, ?_⟩) hHeld ?_ ?_
    rotate_left
    · intro w' hS'; (try dsimp only at hS'); go_split_ands; go_simp
      all_goals with_reducible rfl
    rotate_left
    · simp only [Act.put, List.setIfInBounds_toArray, List.set_cons_zero, List.set_cons_succ]
      rfl
    refine take_ (i := 23) (N := (some 9)) (v := ?_) (a' := ?_) #[true, true, true, true, true, true, true, true, true, true, true, true, true, true, true, true, true, true, true, true, true, true, true, true] rfl rfl (by kernel_rfl) (fun _ _ _ h => h) (Or.inl ⟨by rfl, ?_⟩) hHeld ?_ ?_
    rotate_left
    · intro w' hS'; (try dsimp only at hS'); go_split_ands; go_simp
      all_goals with_reducible rfl
    rotate_left
    · simp only [Act.put, List.setIfInBounds_toArray, List.set_cons_zero, List.set_cons_succ]
      rfl
    refine done_ (by kernel_rfl) ?_
    clear e1 e2
    go_wp2
    go_ret2
    refine ⟨?_, hHeld.1⟩
    have G1 := Lib.hid g1; clear g1
    have z : crossB ax ay bx b_y cx cy dx dy = (decide (turnZ ax ay bx b_y cx cy * turnZ ax ay bx b_y dx dy < 0) && decide (turnZ cx cy dx dy ax ay * turnZ cx cy dx dy bx b_y < 0)) := by
      have n1 : onB cx cy ax ay bx b_y = false := by first | assumption | (simpa using ‹¬ onB cx cy ax ay bx b_y = true›)
      have n2 : onB dx dy ax ay bx b_y = false := by first | assumption | (simpa using ‹¬ onB dx dy ax ay bx b_y = true›)
      have n3 : onB ax ay cx cy dx dy = false := by first | assumption | (simpa using ‹¬ onB ax ay cx cy dx dy = true›)
      have n4 : onB bx b_y cx cy dx dy = false := by first | assumption | (simpa using ‹¬ onB bx b_y cx cy dx dy = true›)
      unfold crossB
      rw [n1, n2, n3, n4]; rfl
    rw [z, G1.out]; rfl
theorem cross_any (ax ay bx b_y cx cy dx dy : Int) (w : World) :
    Calls Try.prog 59 #[.agg #[.int .i64 ax, .int .i64 ay], .agg #[.int .i64 bx, .int .i64 b_y], .agg #[.int .i64 cx, .int .i64 cy], .agg #[.int .i64 dx, .int .i64 dy]] w fun e w' => e = .returned (.tuple #[.bool (crossA ax ay bx b_y cx cy dx dy), .int .i64 (orErr (may4 ax ay bx b_y cx cy dx dy) 300)]) ∧ Below w.heap.size w w' := by
  cases h : may4 ax ay bx b_y cx cy dx dy with
  | false => rw [← h]; exact cross_no ax ay bx b_y cx cy dx dy w h
  | true =>
    have h' := h
    simp only [may4, Bool.and_eq_true] at h'
    obtain ⟨⟨⟨ha, hb⟩, hc⟩, hd⟩ := h'
    have hx := cross_yes ax ay bx b_y cx cy dx dy w ha hb hc hd
    simpa [crossA, h, orErr] using hx
end Go.Proofs.Ytmednnpmkhgfpaa.GW
