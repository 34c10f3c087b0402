/- What the program's functions of package geom on turns, stretches, boxes and distances answer. Worlds: nothing that was there has changed. -/
import Derived.Test.YtmednnpmkhgfpaaGeoW2
import Derived.Test.YtmednnpmkhgfpaaWLast
namespace Go.Proofs.Ytmednnpmkhgfpaa.GW
open Go Go.RowKit Go.Proofs.Ytmednnpmkhgfpaa.Wd Go.Proofs.Ytmednnpmkhgfpaa.Geo Go.Proofs.YtmednnpmkhgfpaaW.PrintLast
attribute [local go_sem] max2_int min2_int max_two min_two max_three

theorem not_no {b : Bool} (h : (!b) = false) : b = true := by simpa using h
def may3 (ax ay bx b_y cx cy : Int) : Bool := ptB ax ay && ptB bx b_y && ptB cx cy
def turnA (ax ay bx b_y cx cy : Int) : Int := if may3 ax ay bx b_y cx cy = true then turnZ ax ay bx b_y cx cy else 0
def turnE (ax ay bx b_y cx cy : Int) : Int := if may3 ax ay bx b_y cx cy = true then 0 else 300
set_option maxHeartbeats 1000000 in
theorem Turn_any (ax ay bx b_y cx cy : Int) (w : World) :
    Calls Try.prog 65 #[.agg #[.int .i64 ax, .int .i64 ay], .agg #[.int .i64 bx, .int .i64 b_y], .agg #[.int .i64 cx, .int .i64 cy]] w fun e w' => e = .returned (.tuple #[.int .i64 (turnA ax ay bx b_y cx cy), .int .i64 (turnE ax ay bx b_y cx cy)]) ∧ Below w.heap.size w w' := by
  go_enter Try.func65, Try.ntmps65
  go_wp2_with (first | (go_at_call 29; refine (pointMay_any _ _ _).mono ?_; rintro e w1 ⟨rfl, hb⟩; obtain ⟨hc0, hc1, hc2, hf0, hf1, hf2, hn0, hn1, hn2, hm0, hm1, hm2, hl0, hl1, hl2, hz⟩ := bc3 (H := w.heap.size) hb (by first | assumption | (simp; done) | (simp; omega)); have hB := below_then (w := w) (by first | assumption | exact below_new (by assumption) _ | exact below_new (below_new (by assumption) _) _ | exact below_new (below_new (below_new (by assumption) _) _) _ | exact below_new (below_new (below_new (below_new (by assumption) _) _) _) _ | exact below_new (below_new (below_new (Below.refl _ _) _) _) _) hb; clear hb) | (go_at_call 64; refine (turn_any _ _ _ _ _ _ _ (by first | assumption | exact not_no (by assumption)) (by first | assumption | exact not_no (by assumption)) (by first | assumption | exact not_no (by assumption))).mono ?_; rintro e w1 ⟨rfl, hb⟩; obtain ⟨hc0, hc1, hc2, hf0, hf1, hf2, hn0, hn1, hn2, hm0, hm1, hm2, hl0, hl1, hl2, hz⟩ := bc3 (H := w.heap.size) hb (by first | assumption | (simp; done) | (simp; omega)); have hB := below_then (w := w) (by first | assumption | exact below_new (by assumption) _ | exact below_new (below_new (by assumption) _) _ | exact below_new (below_new (below_new (by assumption) _) _) _ | exact below_new (below_new (below_new (below_new (by assumption) _) _) _) _ | exact below_new (below_new (below_new (Below.refl _ _) _) _) _) hb; clear hb))
  all_goals
    go_ret2
    refine ⟨?_, by assumption⟩
    clear hc0 hc1 hc2 hf0 hf1 hf2
    simp_all [turnA, turnE, may3]

set_option maxHeartbeats 1000000 in
theorem on_any (px py ax ay bx b_y : Int) (w : World) (hp : ptB px py = true) (ha : ptB ax ay = true) (hb' : ptB bx b_y = true) :
    Calls Try.prog 54 #[.agg #[.int .i64 px, .int .i64 py], .agg #[.int .i64 ax, .int .i64 ay], .agg #[.int .i64 bx, .int .i64 b_y]] w fun e w' => e = .returned (.bool (onB px py ax ay bx b_y)) ∧ Below w.heap.size w w' := by
  have HP := Lib.hid hp; have HA := Lib.hid ha; have HB := Lib.hid hb'
  clear hp ha hb'
  by_cases h0 : turnZ ax ay bx b_y px py = 0
  · have h1 : (turnZ ax ay bx b_y px py == 0) = true := by simpa using h0
    have H0 := Lib.hid h0; clear h0
    go_enter Try.func54, Try.ntmps54
    go_wp2_with fail
    have hB0 : Below w.heap.size w (((w.alloc (.cells #[.int .i64 px, .int .i64 py] 23)).alloc (.cells #[.int .i64 ax, .int .i64 ay] 23)).alloc (.cells #[.int .i64 bx, .int .i64 b_y] 23)).drew := Below.drew (below_new (below_new (below_new (Below.refl _ _) _) _) _)
    go_region_held3 (fun w' => Below w.heap.size w w' ∧ w'.cell? ⟨w.heap.size, 0, none⟩ = some (.int .i64 px) ∧ w'.cell? ⟨w.heap.size, 1, none⟩ = some (.int .i64 py) ∧ w'.cell? ⟨w.heap.size + 1, 0, none⟩ = some (.int .i64 ax) ∧ w'.cell? ⟨w.heap.size + 1, 1, none⟩ = some (.int .i64 ay) ∧ w'.cell? ⟨w.heap.size + 1 + 1, 0, none⟩ = some (.int .i64 bx) ∧ w'.cell? ⟨w.heap.size + 1 + 1, 1, none⟩ = some (.int .i64 b_y))
      (first | (go_split_ands; refine ⟨below_then (by assumption) hb, keeps hb (by assumption), keeps hb (by assumption), keeps hb (by assumption), keeps hb (by assumption), keeps hb (by assumption), keeps hb (by assumption)⟩) | (refine ⟨hB0, ?_, ?_, ?_, ?_, ?_, ?_⟩ <;> go_simp))
      (first | (go_at_call 64; refine (turn_any _ _ _ _ _ _ _ HA.out HB.out HP.out).mono ?_; rintro e w1 ⟨rfl, hb⟩) | (go_at_call 36; refine (within_any _ _ _ _ _ _ _).mono ?_; rintro e w1 ⟨rfl, hb⟩) | (go_at_call 42; refine (between_any _ _ _ _ _).mono ?_; rintro e w1 ⟨rfl, hb⟩))
    all_goals
      go_wp2
      go_ret
      exact ⟨by rw [show onB px py ax ay bx b_y = (decide (turnZ ax ay bx b_y px py = 0) && withinB px py (min ax bx) (min ay b_y) (max ax bx) (max ay b_y)) from rfl, decide_eq_true H0.out, Bool.true_and]; rfl, And.left (by assumption : Below w.heap.size w _ ∧ _)⟩
  · have h1 : (turnZ ax ay bx b_y px py == 0) = false := by simpa using h0
    have H0 := Lib.hid h0; clear h0
    go_enter Try.func54, Try.ntmps54
    go_wp2_with fail
    have hS : (fun w' => Below w.heap.size w w' ∧ w'.cell? ⟨w.heap.size, 0, none⟩ = some (.int .i64 px) ∧ w'.cell? ⟨w.heap.size, 1, none⟩ = some (.int .i64 py) ∧ w'.cell? ⟨w.heap.size + 1, 0, none⟩ = some (.int .i64 ax) ∧ w'.cell? ⟨w.heap.size + 1, 1, none⟩ = some (.int .i64 ay) ∧ w'.cell? ⟨w.heap.size + 1 + 1, 0, none⟩ = some (.int .i64 bx) ∧ w'.cell? ⟨w.heap.size + 1 + 1, 1, none⟩ = some (.int .i64 b_y)) (((w.alloc (.cells #[.int .i64 px, .int .i64 py] 23)).alloc (.cells #[.int .i64 ax, .int .i64 ay] 23)).alloc (.cells #[.int .i64 bx, .int .i64 b_y] 23)).drew := by
      refine ⟨Below.drew (below_new (below_new (below_new (Below.refl _ _) _) _) _), ?_, ?_, ?_, ?_, ?_, ?_⟩ <;> go_simp
    refine start_ (n := 13) (S := (fun w' => Below w.heap.size w w' ∧ w'.cell? ⟨w.heap.size, 0, none⟩ = some (.int .i64 px) ∧ w'.cell? ⟨w.heap.size, 1, none⟩ = some (.int .i64 py) ∧ w'.cell? ⟨w.heap.size + 1, 0, none⟩ = some (.int .i64 ax) ∧ w'.cell? ⟨w.heap.size + 1, 1, none⟩ = some (.int .i64 ay) ∧ w'.cell? ⟨w.heap.size + 1 + 1, 0, none⟩ = some (.int .i64 bx) ∧ w'.cell? ⟨w.heap.size + 1 + 1, 1, none⟩ = some (.int .i64 b_y))) (ds := []) #[false, false, false, false, false, false, false, false, false, false, false, false, false] (by kernel_rfl) rfl rfl hS (fun hHeld => ?_)
    refine take_ (i := 0) (N := (some 7)) (v := ?_) (a' := ?_) #[true, false, false, false, false, false, false, false, false, false, false, false, false] rfl rfl (by kernel_rfl) (fun _ _ _ h => h) (Or.inl ⟨by rfl, ?_⟩) hHeld ?_ ?_
    rotate_left
    · intro w' hS'; (try dsimp only at hS'); go_split_ands; go_simp
      all_goals with_reducible rfl
    rotate_left
    · simp only [Act.put, List.setIfInBounds_toArray, List.set_cons_zero, List.set_cons_succ]
      rfl
    refine take_ (i := 1) (N := (some 8)) (v := ?_) (a' := ?_) #[true, true, false, false, false, false, false, false, false, false, false, false, false] rfl rfl (by kernel_rfl) (fun _ _ _ h => h) (Or.inl ⟨by rfl, ?_⟩) hHeld ?_ ?_
    rotate_left
    · intro w' hS'; (try dsimp only at hS'); go_split_ands; go_simp
      all_goals with_reducible rfl
    rotate_left
    · simp only [Act.put, List.setIfInBounds_toArray, List.set_cons_zero, List.set_cons_succ]
      rfl
    refine take_ (i := 2) (N := (some 9)) (v := ?_) (a' := ?_) #[true, true, true, false, false, false, false, false, false, false, false, false, false] rfl rfl (by kernel_rfl) (fun _ _ _ h => h) (Or.inl ⟨by rfl, ?_⟩) hHeld ?_ ?_
    rotate_left
    · intro w' hS'; (try dsimp only at hS'); go_split_ands; go_simp
      all_goals with_reducible rfl
    rotate_left
    · simp only [Act.put, List.setIfInBounds_toArray, List.set_cons_zero, List.set_cons_succ]
      rfl
    refine one_ (i := 3) (N := (some 10)) #[true, true, true, true, false, false, false, false, false, false, false, false, false] rfl rfl (by kernel_rfl) (by decide) (fun K hK => ?_)
    refine goes_ Try.func64 (by kernel_rfl) rfl #[.agg #[.int .i64 ax, .int .i64 ay], .agg #[.int .i64 bx, .int .i64 b_y], .agg #[.int .i64 px, .int .i64 py]] (by rfl) rfl rfl (by first | rfl | (simp only [List.map_toArray, List.map_cons, List.map_nil]; rfl)) ?_
    refine (turn_any _ _ _ _ _ _ _ HA.out HB.out HP.out).mono ?_
    rintro e w1 ⟨rfl, hb⟩
    refine ⟨_, rfl, ?_⟩
    refine hK.out _ _ ⟨below_then hHeld.1 hb, keeps hb hHeld.2.1, keeps hb hHeld.2.2.1, keeps hb hHeld.2.2.2.1, keeps hb hHeld.2.2.2.2.1, keeps hb hHeld.2.2.2.2.2.1, keeps hb hHeld.2.2.2.2.2.2⟩ (fun hHeld => ?_)
    clear hK K
    refine norm_ (a' := ?_) ?_ ?_
    rotate_left
    · show Act.put _ (some 10) _ = _
      simp only [Act.put, List.setIfInBounds_toArray, List.set_cons_zero, List.set_cons_succ]
      rfl
    refine take_ (i := 4) (N := (some 11)) (v := ?_) (a' := ?_) #[true, true, true, true, true, false, false, false, false, false, false, false, false] rfl rfl (by kernel_rfl) (fun _ _ _ h => h) (Or.inl ⟨by rfl, ?_⟩) hHeld ?_ ?_
    rotate_left
    · intro w' hS'; (try dsimp only at hS'); go_split_ands; go_simp
      all_goals with_reducible rfl
    rotate_left
    · simp only [Act.put, List.setIfInBounds_toArray, List.set_cons_zero, List.set_cons_succ]
      rfl
    refine take_ (i := 5) (N := (some 12)) (v := ?_) (a' := ?_) #[true, true, true, true, true, true, false, false, false, false, false, false, false] rfl rfl (by kernel_rfl) (fun _ _ _ h => h) (Or.inl ⟨by rfl, ?_⟩) hHeld ?_ ?_
    rotate_left
    · intro w' hS'; (try dsimp only at hS'); go_split_ands; go_simp
      all_goals with_reducible rfl
    rotate_left
    · simp only [Act.put, List.setIfInBounds_toArray, List.set_cons_zero, List.set_cons_succ]
      rfl
    refine pure_ (i := 6) (N := (some 13)) (v := undef) (a' := ?_) #[true, true, true, true, true, true, true, false, false, false, false, false, false] rfl rfl (by kernel_rfl) (fun _ _ _ h => h) (Or.inr ⟨by rfl, rfl⟩) ?_ ?_
    rotate_left
    · simp only [Act.put, List.setIfInBounds_toArray, List.set_cons_zero, List.set_cons_succ]
      rfl
    refine pure_ (i := 7) (N := (some 14)) (v := undef) (a' := ?_) #[true, true, true, true, true, true, true, true, false, false, false, false, false] rfl rfl (by kernel_rfl) (fun _ _ _ h => h) (Or.inr ⟨by rfl, rfl⟩) ?_ ?_
    rotate_left
    · simp only [Act.put, List.setIfInBounds_toArray, List.set_cons_zero, List.set_cons_succ]
      rfl
    refine pure_ (i := 8) (N := (some 15)) (v := undef) (a' := ?_) #[true, true, true, true, true, true, true, true, true, false, false, false, false] rfl rfl (by kernel_rfl) (fun _ _ _ h => h) (Or.inr ⟨by rfl, rfl⟩) ?_ ?_
    rotate_left
    · simp only [Act.put, List.setIfInBounds_toArray, List.set_cons_zero, List.set_cons_succ]
      rfl
    refine pure_ (i := 9) (N := (some 16)) (v := undef) (a' := ?_) #[true, true, true, true, true, true, true, true, true, true, false, false, false] rfl rfl (by kernel_rfl) (fun _ _ _ h => h) (Or.inr ⟨by rfl, rfl⟩) ?_ ?_
    rotate_left
    · simp only [Act.put, List.setIfInBounds_toArray, List.set_cons_zero, List.set_cons_succ]
      rfl
    refine pure_ (i := 10) (N := (some 17)) (v := undef) (a' := ?_) #[true, true, true, true, true, true, true, true, true, true, true, false, false] rfl rfl (by kernel_rfl) (fun _ _ _ h => h) (Or.inr ⟨by rfl, rfl⟩) ?_ ?_
    rotate_left
    · simp only [Act.put, List.setIfInBounds_toArray, List.set_cons_zero, List.set_cons_succ]
      rfl
    refine take_ (i := 11) (N := (some 18)) (v := ?_) (a' := ?_) #[true, true, true, true, true, true, true, true, true, true, true, true, false] rfl rfl (by kernel_rfl) (fun _ _ _ h => h) (Or.inl ⟨by rfl, ?_⟩) hHeld ?_ ?_
    rotate_left
    · intro w' hS'; (try dsimp only at hS'); go_split_ands; go_simp
      all_goals with_reducible rfl
    rotate_left
    · simp only [Act.put, List.setIfInBounds_toArray, List.set_cons_zero, List.set_cons_succ]
      rfl
    refine take_ (i := 12) (N := (some 6)) (v := ?_) (a' := ?_) #[true, true, true, true, true, true, true, true, true, true, true, true, true] rfl rfl (by kernel_rfl) (fun _ _ _ h => h) (Or.inl ⟨by rfl, ?_⟩) hHeld ?_ ?_
    rotate_left
    · intro w' hS'; (try dsimp only at hS'); go_split_ands; go_simp
      all_goals with_reducible rfl
    rotate_left
    · simp only [Act.put, List.setIfInBounds_toArray, List.set_cons_zero, List.set_cons_succ]
      rfl
    refine done_ (by kernel_rfl) ?_
    go_wp2
    go_ret
    exact ⟨by rw [show onB px py ax ay bx b_y = (decide (turnZ ax ay bx b_y px py = 0) && withinB px py (min ax bx) (min ay b_y) (max ax bx) (max ay b_y)) from rfl, decide_eq_false H0.out, Bool.false_and]; rfl, hHeld.1⟩
def joinIs (a0 a1 a2 a3 b0 b1 b2 b3 : Int) : Bool := boxB a0 a1 a2 a3 && boxB b0 b1 b2 b3
def orZero (b : Bool) (x : Int) : Int := if b = true then x else 0
def orErr (b : Bool) (x : Int) : Int := if b = true then 0 else x
theorem ret_box_err {a b c d e a' b' c' d' e' : Int} (h0 : a = a') (h1 : b = b') (h2 : c = c') (h3 : d = d') (h4 : e = e') : Ending.returned (.tuple #[.agg #[.int .i64 a, .int .i64 b, .int .i64 c, .int .i64 d], .int .i64 e]) = Ending.returned (.tuple #[.agg #[.int .i64 a', .int .i64 b', .int .i64 c', .int .i64 d'], .int .i64 e']) := by rw [h0, h1, h2, h3, h4]
theorem ret_wide_err {a b e a' b' e' : Int} (h0 : a = a') (h1 : b = b') (h4 : e = e') : Ending.returned (.tuple #[.agg #[.int .u64 a, .int .u64 b], .int .i64 e]) = Ending.returned (.tuple #[.agg #[.int .u64 a', .int .u64 b'], .int .i64 e']) := by rw [h0, h1, h4]
set_option maxHeartbeats 1000000 in
theorem join_any (a0 a1 a2 a3 b0 b1 b2 b3 : Int) (w : World) :
    Calls Try.prog 43 #[.agg #[.int .i64 a0, .int .i64 a1, .int .i64 a2, .int .i64 a3], .agg #[.int .i64 b0, .int .i64 b1, .int .i64 b2, .int .i64 b3]] w fun e w' => e = .returned (.tuple #[.agg #[.int .i64 (orZero (joinIs a0 a1 a2 a3 b0 b1 b2 b3) (min a0 b0)), .int .i64 (orZero (joinIs a0 a1 a2 a3 b0 b1 b2 b3) (min a1 b1)), .int .i64 (orZero (joinIs a0 a1 a2 a3 b0 b1 b2 b3) (max a2 b2)), .int .i64 (orZero (joinIs a0 a1 a2 a3 b0 b1 b2 b3) (max a3 b3))], .int .i64 (orErr (joinIs a0 a1 a2 a3 b0 b1 b2 b3) 300)]) ∧ Below w.heap.size w w' := by
  go_enter Try.func43, Try.ntmps43
  go_wp2_with (first | (go_at_call 34; refine (boxMay_any _ _ _ _ _).mono ?_; rintro e w1 ⟨rfl, hb⟩; obtain ⟨hc0, hc1, hc2, hf0, hf1, hf2, hn0, hn1, hn2, hm0, hm1, hm2, hl0, hl1, hl2, hz⟩ := bc3 (H := w.heap.size) hb (by first | assumption | (simp; done) | (simp; omega)); have hB := below_then (w := w) (by first | assumption | exact below_new (by assumption) _ | exact below_new (below_new (by assumption) _) _ | exact below_new (below_new (below_new (by assumption) _) _) _ | exact below_new (below_new (below_new (below_new (by assumption) _) _) _) _ | exact below_new (below_new (below_new (Below.refl _ _) _) _) _) hb; clear hb))
  all_goals
    refine bodyPost_ret (v := .tuple #[.agg #[.int .i64 _, .int .i64 _, .int .i64 _, .int .i64 _], .int .i64 _]) (by simp [*, results, Try.results43, go_sem]; exact ⟨⟨rfl, rfl, rfl, rfl⟩, rfl⟩) rfl ⟨?_, ?_⟩
    · clear hc0 hc1 hc2 hf0 hf1 hf2
      apply ret_box_err <;> simp_all [orZero, orErr, joinIs]
    · repeat (refine Below.setCell ?_ (by simp; omega) _)
      assumption
def farIs (px py a b c d : Int) : Bool := ptB px py && boxB a b c d
end Go.Proofs.Ytmednnpmkhgfpaa.GW
