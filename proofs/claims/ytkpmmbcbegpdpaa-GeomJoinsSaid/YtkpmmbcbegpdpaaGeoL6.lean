/- What the law GeomJoins answers: true, whatever it is given. Condition: none. -/
import Derived.Test.YtkpmmbcbegpdpaaGeoA
import Derived.Test.YtkpmmbcbegpdpaaGeoPl
import Derived.Deep.DeepCutAuto
namespace Go.Proofs.Ytkpmmbcbegpdpaa.GW
open Go Go.RowKit Go.Proofs.Ytkpmmbcbegpdpaa.Wd Go.Proofs.Ytkpmmbcbegpdpaa.Geo
attribute [local go_sem] max2_int min2_int max_two min_two max_three

theorem joinTo {a0 a1 a2 a3 b0 b1 b2 b3 : Int} (h : joinIs a0 a1 a2 a3 b0 b1 b2 b3 = true) (w : World) :
    Calls Try.prog 35 #[.agg #[.int .i64 a0, .int .i64 a1, .int .i64 a2, .int .i64 a3], .agg #[.int .i64 b0, .int .i64 b1, .int .i64 b2, .int .i64 b3]] w fun r w' => r = .returned (.tuple #[.agg #[.int .i64 (min a0 b0), .int .i64 (min a1 b1), .int .i64 (max a2 b2), .int .i64 (max a3 b3)], .int .i64 0]) ∧ Below w.heap.size w w' := by
  have z := join_any a0 a1 a2 a3 b0 b1 b2 b3 w
  simp only [h, orZero, orErr, if_true] at z
  exact z
theorem joinNo {a0 a1 a2 a3 b0 b1 b2 b3 : Int} (h : joinIs a0 a1 a2 a3 b0 b1 b2 b3 = false) (w : World) :
    Calls Try.prog 35 #[.agg #[.int .i64 a0, .int .i64 a1, .int .i64 a2, .int .i64 a3], .agg #[.int .i64 b0, .int .i64 b1, .int .i64 b2, .int .i64 b3]] w fun r w' => r = .returned (.tuple #[.agg #[.int .i64 0, .int .i64 0, .int .i64 0, .int .i64 0], .int .i64 300]) ∧ Below w.heap.size w w' := by
  have z := join_any a0 a1 a2 a3 b0 b1 b2 b3 w
  simp only [h, orZero, orErr] at z
  exact z
theorem meetTo' {a0 a1 a2 a3 b0 b1 b2 b3 : Int} (v : Bool) (h : meetB a0 a1 a2 a3 b0 b1 b2 b3 = v) (w : World) :
    Calls Try.prog 43 #[.agg #[.int .i64 a0, .int .i64 a1, .int .i64 a2, .int .i64 a3], .agg #[.int .i64 b0, .int .i64 b1, .int .i64 b2, .int .i64 b3]] w fun e w' => e = .returned (.bool v) ∧ Below w.heap.size w w' := by
  rw [← h]; exact meet_any a0 a1 a2 a3 b0 b1 b2 b3 w
theorem withinTo {px py a b c d : Int} (v : Bool) (h : withinB px py a b c d = v) (w : World) :
    Calls Try.prog 45 #[.agg #[.int .i64 px, .int .i64 py], .agg #[.int .i64 a, .int .i64 b, .int .i64 c, .int .i64 d]] w fun e w' => e = .returned (.bool v) ∧ Below w.heap.size w w' := by
  rw [← h]; exact within_any px py a b c d w
theorem boxTo {a b c d : Int} (v : Bool) (h : boxB a b c d = v) (w : World) : Calls Try.prog 41 #[.agg #[.int .i64 a, .int .i64 b, .int .i64 c, .int .i64 d]] w fun e w' => e = .returned (.bool v) ∧ Below w.heap.size w w' := by
  rw [← h]; exact boxMay_any a b c d w
theorem meet_comm (a0 a1 a2 a3 b0 b1 b2 b3 : Int) : meetB b0 b1 b2 b3 a0 a1 a2 a3 = meetB a0 a1 a2 a3 b0 b1 b2 b3 := by
  rw [Bool.eq_iff_iff, meetB_iff, meetB_iff]; omega
set_option maxHeartbeats 8000000 in
set_option maxRecDepth 100000 in
theorem joins_no (a0 a1 a2 a3 b0 b1 b2 b3 px py : Int) (w : World) (h : joinIs a0 a1 a2 a3 b0 b1 b2 b3 = false) :
    Calls Try.prog 13 #[.agg #[.int .i64 a0, .int .i64 a1, .int .i64 a2, .int .i64 a3], .agg #[.int .i64 b0, .int .i64 b1, .int .i64 b2, .int .i64 b3], .agg #[.int .i64 px, .int .i64 py]] w fun e w' => e = .returned (.bool true) ∧ Below w.heap.size w w' := by
  have HJ := Lib.hid h
  cases ha : boxB a0 a1 a2 a3 with
  | false =>
    have HA := Lib.hid ha
    clear h ha
    go_enter Try.func13, Try.ntmps13
    go_wp2_with (first | (go_at_call 47; refine (awake_any _).mono ?_; rintro e w1 ⟨rfl, hb⟩; obtain ⟨hc0, hc1, hc2, hf0, hf1, hf2, hn0, hn1, hn2, hm0, hm1, hm2, hl0, hl1, hl2, hz⟩ := bc3 (H := w.heap.size) hb (by first | assumption | (simp; done) | (simp; omega)); have hB := below_then (w := w) (by first | assumption | exact below_new (by assumption) _ | exact below_new (below_new (by assumption) _) _ | exact below_new (below_new (below_new (by assumption) _) _) _ | exact below_new (below_new (below_new (below_new (by assumption) _) _) _) _ | exact below_new (below_new (below_new (Below.refl _ _) _) _) _) hb; clear hb) | (go_at_call 35; refine (joinNo HJ.out _).mono ?_; rintro e w1 ⟨rfl, hb⟩; obtain ⟨hc0, hc1, hc2, hf0, hf1, hf2, hn0, hn1, hn2, hm0, hm1, hm2, hl0, hl1, hl2, hz⟩ := bc3 (H := w.heap.size) hb (by first | assumption | (simp; done) | (simp; omega)); have hB := below_then (w := w) (by first | assumption | exact below_new (by assumption) _ | exact below_new (below_new (by assumption) _) _ | exact below_new (below_new (below_new (by assumption) _) _) _ | exact below_new (below_new (below_new (below_new (by assumption) _) _) _) _ | exact below_new (below_new (below_new (Below.refl _ _) _) _) _) hb; clear hb) | (go_at_call 30; refine (num_any _ _).mono ?_; rintro e w' ⟨rfl, rfl⟩) | (go_at_call 41; refine (boxTo _ HA.out _).mono ?_; rintro e w1 ⟨rfl, hb⟩; obtain ⟨hc0, hc1, hc2, hf0, hf1, hf2, hn0, hn1, hn2, hm0, hm1, hm2, hl0, hl1, hl2, hz⟩ := bc3 (H := w.heap.size) hb (by first | assumption | (simp; done) | (simp; omega)); have hB := below_then (w := w) (by first | assumption | exact below_new (by assumption) _ | exact below_new (below_new (by assumption) _) _ | exact below_new (below_new (below_new (by assumption) _) _) _ | exact below_new (below_new (below_new (below_new (by assumption) _) _) _) _ | exact below_new (below_new (below_new (Below.refl _ _) _) _) _) hb; clear hb))
    go_ret
    exact ⟨rfl, by assumption⟩
  | true =>
    have hb' : boxB b0 b1 b2 b3 = false := by unfold joinIs at h; rw [ha, Bool.true_and] at h; exact h
    have HA := Lib.hid ha
    have HB := Lib.hid hb'
    clear h ha hb'
    go_enter Try.func13, Try.ntmps13
    go_wp2_with (first | (go_at_call 47; refine (awake_any _).mono ?_; rintro e w1 ⟨rfl, hb⟩; obtain ⟨hc0, hc1, hc2, hf0, hf1, hf2, hn0, hn1, hn2, hm0, hm1, hm2, hl0, hl1, hl2, hz⟩ := bc3 (H := w.heap.size) hb (by first | assumption | (simp; done) | (simp; omega)); have hB := below_then (w := w) (by first | assumption | exact below_new (by assumption) _ | exact below_new (below_new (by assumption) _) _ | exact below_new (below_new (below_new (by assumption) _) _) _ | exact below_new (below_new (below_new (below_new (by assumption) _) _) _) _ | exact below_new (below_new (below_new (Below.refl _ _) _) _) _) hb; clear hb) | (go_at_call 35; refine (joinNo HJ.out _).mono ?_; rintro e w1 ⟨rfl, hb⟩; obtain ⟨hc0, hc1, hc2, hf0, hf1, hf2, hn0, hn1, hn2, hm0, hm1, hm2, hl0, hl1, hl2, hz⟩ := bc3 (H := w.heap.size) hb (by first | assumption | (simp; done) | (simp; omega)); have hB := below_then (w := w) (by first | assumption | exact below_new (by assumption) _ | exact below_new (below_new (by assumption) _) _ | exact below_new (below_new (below_new (by assumption) _) _) _ | exact below_new (below_new (below_new (below_new (by assumption) _) _) _) _ | exact below_new (below_new (below_new (Below.refl _ _) _) _) _) hb; clear hb) | (go_at_call 30; refine (num_any _ _).mono ?_; rintro e w' ⟨rfl, rfl⟩) | (go_at_call 41; with_reducible refine (boxTo _ HA.out _).mono ?_; rintro e w1 ⟨rfl, hb⟩; obtain ⟨hc0, hc1, hc2, hf0, hf1, hf2, hn0, hn1, hn2, hm0, hm1, hm2, hl0, hl1, hl2, hz⟩ := bc3 (H := w.heap.size) hb (by first | assumption | (simp; done) | (simp; omega)); have hB := below_then (w := w) (by first | assumption | exact below_new (by assumption) _ | exact below_new (below_new (by assumption) _) _ | exact below_new (below_new (below_new (by assumption) _) _) _ | exact below_new (below_new (below_new (below_new (by assumption) _) _) _) _ | exact below_new (below_new (below_new (Below.refl _ _) _) _) _) hb; clear hb) | (go_at_call 41; with_reducible refine (boxTo _ HB.out _).mono ?_; rintro e w1 ⟨rfl, hb⟩; obtain ⟨hc0, hc1, hc2, hf0, hf1, hf2, hn0, hn1, hn2, hm0, hm1, hm2, hl0, hl1, hl2, hz⟩ := bc3 (H := w.heap.size) hb (by first | assumption | (simp; done) | (simp; omega)); have hB := below_then (w := w) (by first | assumption | exact below_new (by assumption) _ | exact below_new (below_new (by assumption) _) _ | exact below_new (below_new (below_new (by assumption) _) _) _ | exact below_new (below_new (below_new (below_new (by assumption) _) _) _) _ | exact below_new (below_new (below_new (Below.refl _ _) _) _) _) hb; clear hb))
    go_ret
    exact ⟨rfl, by assumption⟩
set_option maxHeartbeats 8000000 in
set_option maxRecDepth 100000 in
theorem joins_yes (a0 a1 a2 a3 b0 b1 b2 b3 px py : Int) (A B J V : Bool) (w : World) (h : joinIs a0 a1 a2 a3 b0 b1 b2 b3 = true) (ha : withinB px py a0 a1 a2 a3 = A) (hb' : withinB px py b0 b1 b2 b3 = B) (hj : withinB px py (min a0 b0) (min a1 b1) (max a2 b2) (max a3 b3) = J) (hv : meetB a0 a1 a2 a3 b0 b1 b2 b3 = V)
    (hx : ((A = true ∧ B = true) ∧ J = true ∧ V = true) ∨ ((A = true ∧ B = false) ∧ J = true) ∨ ((A = false ∧ B = true) ∧ J = true) ∨ (A = false ∧ B = false)) :
    Calls Try.prog 13 #[.agg #[.int .i64 a0, .int .i64 a1, .int .i64 a2, .int .i64 a3], .agg #[.int .i64 b0, .int .i64 b1, .int .i64 b2, .int .i64 b3], .agg #[.int .i64 px, .int .i64 py]] w fun e w' => e = .returned (.bool true) ∧ Below w.heap.size w w' := by
  have HJ := Lib.hid h
  have hab : boxB a0 a1 a2 a3 = true ∧ boxB b0 b1 b2 b3 = true := by simpa [joinIs] using h
  have h1 := boxB_iff.1 hab.1
  have h2 := boxB_iff.1 hab.2
  have M1 := Lib.hid hv
  have M2 := Lib.hid ((meet_comm a0 a1 a2 a3 b0 b1 b2 b3).trans hv)
  have M3 := Lib.hid (show meetB a0 a1 a2 a3 a0 a1 a2 a3 = true by rw [meetB_iff]; omega)
  have M4 := Lib.hid (show meetB (min a0 b0) (min a1 b1) (max a2 b2) (max a3 b3) a0 a1 a2 a3 = true by rw [meetB_iff]; omega)
  have M5 := Lib.hid (show meetB (min a0 b0) (min a1 b1) (max a2 b2) (max a3 b3) b0 b1 b2 b3 = true by rw [meetB_iff]; omega)
  have WA := Lib.hid ha
  have WB := Lib.hid hb'
  have WJ := Lib.hid hj
  clear h hab h1 h2 ha hb' hj hv
  go_enter Try.func13, Try.ntmps13
  go_upto_region 6 with (first | (go_at_call 47; refine (awake_any _).mono ?_; rintro e w1 ⟨rfl, hb⟩; obtain ⟨hc0, hc1, hc2, hf0, hf1, hf2, hn0, hn1, hn2, hm0, hm1, hm2, hl0, hl1, hl2, hz⟩ := bc3 (H := w.heap.size) hb (by first | assumption | (simp; done) | (simp; omega)); have hB := below_then (w := w) (by first | assumption | exact below_new (by assumption) _ | exact below_new (below_new (by assumption) _) _ | exact below_new (below_new (below_new (by assumption) _) _) _ | exact below_new (below_new (below_new (below_new (by assumption) _) _) _) _ | exact below_new (below_new (below_new (Below.refl _ _) _) _) _) hb; clear hb) | (go_at_call 35; refine (joinTo HJ.out _).mono ?_; rintro e wJ ⟨rfl, hb⟩; obtain ⟨hc0, hc1, hc2, hf0, hf1, hf2, hn0, hn1, hn2, hm0, hm1, hm2, hl0, hl1, hl2, hz⟩ := bc3 (H := w.heap.size) hb (by first | assumption | (simp; done) | (simp; omega)); have hB := below_then (w := w) (by first | assumption | exact below_new (by assumption) _ | exact below_new (below_new (by assumption) _) _ | exact below_new (below_new (below_new (by assumption) _) _) _ | exact below_new (below_new (below_new (below_new (by assumption) _) _) _) _ | exact below_new (below_new (below_new (Below.refl _ _) _) _) _) hb; clear hb) | (go_at_call 30; refine (num_any _ _).mono ?_; rintro e w' ⟨rfl, rfl⟩))
  go_cut [52] (fun s w' => s = .bool false ∧ Below w.heap.size w w' ∧ w'.cell? ⟨w.heap.size, 0, none⟩ = some (.int .i64 a0) ∧ w'.cell? ⟨w.heap.size, 1, none⟩ = some (.int .i64 a1) ∧ w'.cell? ⟨w.heap.size, 2, none⟩ = some (.int .i64 a2) ∧ w'.cell? ⟨w.heap.size, 3, none⟩ = some (.int .i64 a3) ∧ w'.cell? ⟨w.heap.size + 1, 0, none⟩ = some (.int .i64 b0) ∧ w'.cell? ⟨w.heap.size + 1, 1, none⟩ = some (.int .i64 b1) ∧ w'.cell? ⟨w.heap.size + 1, 2, none⟩ = some (.int .i64 b2) ∧ w'.cell? ⟨w.heap.size + 1, 3, none⟩ = some (.int .i64 b3) ∧ w'.cell? ⟨w.heap.size + 1 + 1, 0, none⟩ = some (.int .i64 px) ∧ w'.cell? ⟨w.heap.size + 1 + 1, 1, none⟩ = some (.int .i64 py) ∧ w'.cell? ⟨wJ.heap.size, 0, none⟩ = some (.int .i64 (min a0 b0)) ∧ w'.cell? ⟨wJ.heap.size, 1, none⟩ = some (.int .i64 (min a1 b1)) ∧ w'.cell? ⟨wJ.heap.size, 2, none⟩ = some (.int .i64 (max a2 b2)) ∧ w'.cell? ⟨wJ.heap.size, 3, none⟩ = some (.int .i64 (max a3 b3)))
  case first =>
    go_region_held3 (fun w' => Below w.heap.size w w' ∧ w'.cell? ⟨w.heap.size, 0, none⟩ = some (.int .i64 a0) ∧ w'.cell? ⟨w.heap.size, 1, none⟩ = some (.int .i64 a1) ∧ w'.cell? ⟨w.heap.size, 2, none⟩ = some (.int .i64 a2) ∧ w'.cell? ⟨w.heap.size, 3, none⟩ = some (.int .i64 a3) ∧ w'.cell? ⟨w.heap.size + 1, 0, none⟩ = some (.int .i64 b0) ∧ w'.cell? ⟨w.heap.size + 1, 1, none⟩ = some (.int .i64 b1) ∧ w'.cell? ⟨w.heap.size + 1, 2, none⟩ = some (.int .i64 b2) ∧ w'.cell? ⟨w.heap.size + 1, 3, none⟩ = some (.int .i64 b3) ∧ w'.cell? ⟨w.heap.size + 1 + 1, 0, none⟩ = some (.int .i64 px) ∧ w'.cell? ⟨w.heap.size + 1 + 1, 1, none⟩ = some (.int .i64 py) ∧ w'.cell? ⟨wJ.heap.size, 0, none⟩ = some (.int .i64 (min a0 b0)) ∧ w'.cell? ⟨wJ.heap.size, 1, none⟩ = some (.int .i64 (min a1 b1)) ∧ w'.cell? ⟨wJ.heap.size, 2, none⟩ = some (.int .i64 (max a2 b2)) ∧ w'.cell? ⟨wJ.heap.size, 3, none⟩ = some (.int .i64 (max a3 b3))) (first | (go_split_ands; refine ⟨below_then (by assumption) hb, keeps hb (by assumption), keeps hb (by assumption), keeps hb (by assumption), keeps hb (by assumption), keeps hb (by assumption), keeps hb (by assumption), keeps hb (by assumption), keeps hb (by assumption), keeps hb (by assumption), keeps hb (by assumption), keeps hb (by assumption), keeps hb (by assumption), keeps hb (by assumption), keeps hb (by assumption)⟩) | (refine ⟨Below.drew (below_new (by assumption) _), ?_, ?_, ?_, ?_, ?_, ?_, ?_, ?_, ?_, ?_, ?_, ?_, ?_, ?_⟩ <;> go_simp))
      (first | (go_at_call 43; with_reducible refine (meetTo' _ M1.out _).mono ?_; rintro e w1 ⟨rfl, hb⟩) | (go_at_call 43; with_reducible refine (meetTo' _ M2.out _).mono ?_; rintro e w1 ⟨rfl, hb⟩) | (go_at_call 43; with_reducible refine (meetTo' _ M3.out _).mono ?_; rintro e w1 ⟨rfl, hb⟩) | (go_at_call 43; with_reducible refine (meetTo' _ M4.out _).mono ?_; rintro e w1 ⟨rfl, hb⟩) | (go_at_call 43; with_reducible refine (meetTo' _ M5.out _).mono ?_; rintro e w1 ⟨rfl, hb⟩))
    all_goals
      go_wp2_with fail
      go_meet
      refine ⟨by first | rfl | simp, ?_⟩
      assumption
  case rest =>
    obtain ⟨rfl, hB, k0, k1, k2, k3, k4, k5, k6, k7, k8, k9, k10, k11, k12, k13⟩ := hcut
    rcases hx with ⟨⟨rfl, rfl⟩, rfl, rfl⟩ | ⟨⟨rfl, rfl⟩, rfl⟩ | ⟨⟨rfl, rfl⟩, rfl⟩ | ⟨rfl, rfl⟩
    all_goals
      go_wp2_with (first | (go_at_call 45; with_reducible refine (withinTo _ WA.out _).mono ?_; rintro e w1 ⟨rfl, hb⟩; replace k0 := keeps hb k0; replace k1 := keeps hb k1; replace k2 := keeps hb k2; replace k3 := keeps hb k3; replace k4 := keeps hb k4; replace k5 := keeps hb k5; replace k6 := keeps hb k6; replace k7 := keeps hb k7; replace k8 := keeps hb k8; replace k9 := keeps hb k9; replace k10 := keeps hb k10; replace k11 := keeps hb k11; replace k12 := keeps hb k12; replace k13 := keeps hb k13; replace hB := below_then (w := w) hB hb; clear hb) | (go_at_call 45; with_reducible refine (withinTo _ WB.out _).mono ?_; rintro e w1 ⟨rfl, hb⟩; replace k0 := keeps hb k0; replace k1 := keeps hb k1; replace k2 := keeps hb k2; replace k3 := keeps hb k3; replace k4 := keeps hb k4; replace k5 := keeps hb k5; replace k6 := keeps hb k6; replace k7 := keeps hb k7; replace k8 := keeps hb k8; replace k9 := keeps hb k9; replace k10 := keeps hb k10; replace k11 := keeps hb k11; replace k12 := keeps hb k12; replace k13 := keeps hb k13; replace hB := below_then (w := w) hB hb; clear hb) | (go_at_call 45; with_reducible refine (withinTo _ WJ.out _).mono ?_; rintro e w1 ⟨rfl, hb⟩; replace k0 := keeps hb k0; replace k1 := keeps hb k1; replace k2 := keeps hb k2; replace k3 := keeps hb k3; replace k4 := keeps hb k4; replace k5 := keeps hb k5; replace k6 := keeps hb k6; replace k7 := keeps hb k7; replace k8 := keeps hb k8; replace k9 := keeps hb k9; replace k10 := keeps hb k10; replace k11 := keeps hb k11; replace k12 := keeps hb k12; replace k13 := keeps hb k13; replace hB := below_then (w := w) hB hb; clear hb) | (go_at_call 43; with_reducible refine (meetTo' _ M1.out _).mono ?_; rintro e w1 ⟨rfl, hb⟩; replace k0 := keeps hb k0; replace k1 := keeps hb k1; replace k2 := keeps hb k2; replace k3 := keeps hb k3; replace k4 := keeps hb k4; replace k5 := keeps hb k5; replace k6 := keeps hb k6; replace k7 := keeps hb k7; replace k8 := keeps hb k8; replace k9 := keeps hb k9; replace k10 := keeps hb k10; replace k11 := keeps hb k11; replace k12 := keeps hb k12; replace k13 := keeps hb k13; replace hB := below_then (w := w) hB hb; clear hb))
      go_ret
      exact ⟨by first | rfl | (simp; done), by assumption⟩
theorem joins_any (a0 a1 a2 a3 b0 b1 b2 b3 px py : Int) (w : World) :
    Calls Try.prog 13 #[.agg #[.int .i64 a0, .int .i64 a1, .int .i64 a2, .int .i64 a3], .agg #[.int .i64 b0, .int .i64 b1, .int .i64 b2, .int .i64 b3], .agg #[.int .i64 px, .int .i64 py]] w fun e w' => e = .returned (.bool true) ∧ Below w.heap.size w w' := by
  cases h : joinIs a0 a1 a2 a3 b0 b1 b2 b3 with
  | false => exact joins_no a0 a1 a2 a3 b0 b1 b2 b3 px py w h
  | true =>
    refine joins_yes a0 a1 a2 a3 b0 b1 b2 b3 px py _ _ _ _ w h rfl rfl rfl rfl ?_
    have hab : boxB a0 a1 a2 a3 = true ∧ boxB b0 b1 b2 b3 = true := by simpa [joinIs] using h
    have h1 := boxB_iff.1 hab.1
    have h2 := boxB_iff.1 hab.2
    cases hA : withinB px py a0 a1 a2 a3 <;> cases hB : withinB px py b0 b1 b2 b3
    · simp
    · rw [withinB_iff] at hB
      simp [withinB_iff]; omega
    · rw [withinB_iff] at hA
      simp [withinB_iff]; omega
    · rw [withinB_iff] at hA hB
      simp [withinB_iff, meetB_iff]; omega
end Go.Proofs.Ytkpmmbcbegpdpaa.GW
