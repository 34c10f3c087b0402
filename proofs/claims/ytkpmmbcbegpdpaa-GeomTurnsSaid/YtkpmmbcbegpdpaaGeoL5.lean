/- What the law GeomTurns answers: true, whatever it is given. Condition: none. -/
import Derived.Test.YtkpmmbcbegpdpaaGeoA
import Derived.Test.YtkpmmbcbegpdpaaGeoPl
import Derived.Test.YtkpmmbcbegpdpaaMaskL
import Derived.Deep.DeepCutAuto
namespace Go.Proofs.Ytkpmmbcbegpdpaa.GW
open Go Go.RowKit Go.Proofs.Ytkpmmbcbegpdpaa.Wd Go.Proofs.Ytkpmmbcbegpdpaa.Geo

theorem ret_bool {a b : Bool} (h : a = b) : Ending.returned (.bool a) = .returned (.bool b) := by rw [h]
theorem turnTo {ax ay bx b_y cx cy : Int} (v e : Int) (h1 : turnA ax ay bx b_y cx cy = v) (h2 : turnE ax ay bx b_y cx cy = e) (w : World) :
    Calls Try.prog 31 #[.agg #[.int .i64 ax, .int .i64 ay], .agg #[.int .i64 bx, .int .i64 b_y], .agg #[.int .i64 cx, .int .i64 cy]] w fun r w' => r = .returned (.tuple #[.int .i64 v, .int .i64 e]) ∧ Below w.heap.size w w' := by
  rw [← h1, ← h2]; exact Turn_any ax ay bx b_y cx cy w
theorem may3_all {ax ay bx b_y cx cy : Int} : may3 ax ay bx b_y cx cy = true ↔ ptB ax ay = true ∧ ptB bx b_y = true ∧ ptB cx cy = true := by simp [may3, and_assoc]
set_option maxHeartbeats 8000000 in
set_option maxRecDepth 100000 in
theorem turns_no (ax ay bx b_y cx cy by_ : Int) (w : World) (h : may3 ax ay bx b_y cx cy = false) :
    Calls Try.prog 9 #[.agg #[.int .i64 ax, .int .i64 ay], .agg #[.int .i64 bx, .int .i64 b_y], .agg #[.int .i64 cx, .int .i64 cy], .int .i64 by_] w fun e w' => e = .returned (.bool true) ∧ Below w.heap.size w w' := by
  have H1 := Lib.hid (show turnA ax ay bx b_y cx cy = 0 by unfold turnA; rw [h]; rfl)
  have H2 := Lib.hid (show turnE ax ay bx b_y cx cy = 300 by unfold turnE; rw [h]; rfl)
  clear h
  go_enter Try.func9, Try.ntmps9
  go_wp2_with (first | (go_at_call 47; refine (awake_any _).mono ?_; rintro e w1 ⟨rfl, hb⟩; obtain ⟨hc0, hc1, hc2, hf0, hf1, hf2, hn0, hn1, hn2, hm0, hm1, hm2, hl0, hl1, hl2, hz⟩ := bc3 (H := w.heap.size) hb (by first | assumption | (simp; done) | (simp; omega)); have hB := below_then (w := w) (by first | assumption | exact below_new (by assumption) _ | exact below_new (below_new (by assumption) _) _ | exact below_new (below_new (below_new (by assumption) _) _) _ | exact below_new (below_new (below_new (below_new (by assumption) _) _) _) _ | exact below_new (below_new (below_new (Below.refl _ _) _) _) _) hb; clear hb) | (go_at_call 31; refine (turnTo _ _ H1.out H2.out _).mono ?_; rintro e w1 ⟨rfl, hb⟩; obtain ⟨hc0, hc1, hc2, hf0, hf1, hf2, hn0, hn1, hn2, hm0, hm1, hm2, hl0, hl1, hl2, hz⟩ := bc3 (H := w.heap.size) hb (by first | assumption | (simp; done) | (simp; omega)); have hB := below_then (w := w) (by first | assumption | exact below_new (by assumption) _ | exact below_new (below_new (by assumption) _) _ | exact below_new (below_new (below_new (by assumption) _) _) _ | exact below_new (below_new (below_new (below_new (by assumption) _) _) _) _ | exact below_new (below_new (below_new (Below.refl _ _) _) _) _) hb; clear hb) | (go_at_call 30; refine (num_any _ _).mono ?_; rintro e w' ⟨rfl, rfl⟩))
  go_ret
  exact ⟨rfl, by assumption⟩
set_option maxHeartbeats 8000000 in
set_option maxRecDepth 100000 in
theorem turns_yes (ax ay bx b_y cx cy by_ P : Int) (w : World) (ha : ptB ax ay = true) (hb' : ptB bx b_y = true) (hc : ptB cx cy = true) (hP : turnZ ax ay bx b_y cx cy = P) :
    Calls Try.prog 9 #[.agg #[.int .i64 ax, .int .i64 ay], .agg #[.int .i64 bx, .int .i64 b_y], .agg #[.int .i64 cx, .int .i64 cy], .int .i64 by_] w fun e w' => e = .returned (.bool true) ∧ Below w.heap.size w w' := by
  have m1 := may3_all.2 ⟨ha, hb', hc⟩
  have m2 := may3_all.2 ⟨hb', hc, ha⟩
  have m3 := may3_all.2 ⟨hc, hb', ha⟩
  have m4 := may3_all.2 ⟨ha, ha, hc⟩
  have A1 := Lib.hid (show turnA ax ay bx b_y cx cy = P by unfold turnA; rw [if_pos m1, hP])
  have A2 := Lib.hid (show turnA bx b_y cx cy ax ay = P by unfold turnA; rw [if_pos m2, turn_cycle, hP])
  have A3 := Lib.hid (show turnA cx cy bx b_y ax ay = -P by unfold turnA; rw [if_pos m3, turn_turn, hP])
  have A4 := Lib.hid (show turnA ax ay ax ay cx cy = 0 by unfold turnA; rw [if_pos m4, turn_self])
  have E1 := Lib.hid (show turnE ax ay bx b_y cx cy = 0 by unfold turnE; rw [if_pos m1])
  have E2 := Lib.hid (show turnE bx b_y cx cy ax ay = 0 by unfold turnE; rw [if_pos m2])
  have E3 := Lib.hid (show turnE cx cy bx b_y ax ay = 0 by unfold turnE; rw [if_pos m3])
  have E4 := Lib.hid (show turnE ax ay ax ay cx cy = 0 by unfold turnE; rw [if_pos m4])
  have hr := turn_range ax ay bx b_y cx cy
  rw [hP] at hr
  obtain ⟨r0, r1⟩ := hr
  obtain ⟨d0, d1⟩ := and_255 by_
  obtain ⟨⟨a0, a1⟩, a2, a3⟩ := ptB_iff.1 ha
  obtain ⟨⟨b0, b1⟩, b2, b3⟩ := ptB_iff.1 hb'
  obtain ⟨⟨c0, c1⟩, c2, c3⟩ := ptB_iff.1 hc
  have HP := Lib.hid hP
  clear m1 m2 m3 m4 ha hb' hc hP
  go_enter Try.func9, Try.ntmps9
  go_upto_region 10 with (first | (go_at_call 47; refine (awake_any _).mono ?_; rintro e w1 ⟨rfl, hb⟩; obtain ⟨hc0, hc1, hc2, hf0, hf1, hf2, hn0, hn1, hn2, hm0, hm1, hm2, hl0, hl1, hl2, hz⟩ := bc3 (H := w.heap.size) hb (by first | assumption | (simp; done) | (simp; omega)); have hB := below_then (w := w) (by first | assumption | exact below_new (by assumption) _ | exact below_new (below_new (by assumption) _) _ | exact below_new (below_new (below_new (by assumption) _) _) _ | exact below_new (below_new (below_new (below_new (by assumption) _) _) _) _ | exact below_new (below_new (below_new (Below.refl _ _) _) _) _) hb; clear hb) | (go_at_call 31; with_reducible refine (turnTo _ _ A1.out E1.out _).mono ?_; rintro e w1 ⟨rfl, hb⟩; obtain ⟨hc0, hc1, hc2, hf0, hf1, hf2, hn0, hn1, hn2, hm0, hm1, hm2, hl0, hl1, hl2, hz⟩ := bc3 (H := w.heap.size) hb (by first | assumption | (simp; done) | (simp; omega)); have hB := below_then (w := w) (by first | assumption | exact below_new (by assumption) _ | exact below_new (below_new (by assumption) _) _ | exact below_new (below_new (below_new (by assumption) _) _) _ | exact below_new (below_new (below_new (below_new (by assumption) _) _) _) _ | exact below_new (below_new (below_new (Below.refl _ _) _) _) _) hb; clear hb) | (go_at_call 31; with_reducible refine (turnTo _ _ A2.out E2.out _).mono ?_; rintro e w1 ⟨rfl, hb⟩; obtain ⟨hc0, hc1, hc2, hf0, hf1, hf2, hn0, hn1, hn2, hm0, hm1, hm2, hl0, hl1, hl2, hz⟩ := bc3 (H := w.heap.size) hb (by first | assumption | (simp; done) | (simp; omega)); have hB := below_then (w := w) (by first | assumption | exact below_new (by assumption) _ | exact below_new (below_new (by assumption) _) _ | exact below_new (below_new (below_new (by assumption) _) _) _ | exact below_new (below_new (below_new (below_new (by assumption) _) _) _) _ | exact below_new (below_new (below_new (Below.refl _ _) _) _) _) hb; clear hb) | (go_at_call 31; with_reducible refine (turnTo _ _ A3.out E3.out _).mono ?_; rintro e w1 ⟨rfl, hb⟩; obtain ⟨hc0, hc1, hc2, hf0, hf1, hf2, hn0, hn1, hn2, hm0, hm1, hm2, hl0, hl1, hl2, hz⟩ := bc3 (H := w.heap.size) hb (by first | assumption | (simp; done) | (simp; omega)); have hB := below_then (w := w) (by first | assumption | exact below_new (by assumption) _ | exact below_new (below_new (by assumption) _) _ | exact below_new (below_new (below_new (by assumption) _) _) _ | exact below_new (below_new (below_new (below_new (by assumption) _) _) _) _ | exact below_new (below_new (below_new (Below.refl _ _) _) _) _) hb; clear hb) | (go_at_call 31; refine (turnTo _ _ A4.out E4.out _).mono ?_; rintro e wS ⟨rfl, hb⟩; obtain ⟨hc0, hc1, hc2, hf0, hf1, hf2, hn0, hn1, hn2, hm0, hm1, hm2, hl0, hl1, hl2, hz⟩ := bc3 (H := w.heap.size) hb (by first | assumption | (simp; done) | (simp; omega)); have hB := below_then (w := w) (by first | assumption | exact below_new (by assumption) _ | exact below_new (below_new (by assumption) _) _ | exact below_new (below_new (below_new (by assumption) _) _) _ | exact below_new (below_new (below_new (below_new (by assumption) _) _) _) _ | exact below_new (below_new (below_new (Below.refl _ _) _) _) _) hb; clear hb) | (go_at_call 30; refine (num_any _ _).mono ?_; rintro e w' ⟨rfl, rfl⟩))
  have q0 : w.heap.size < wS.heap.size + 1 := by omega
  have q0n : w.heap.size ≠ wS.heap.size + 1 := by omega
  have q0m : wS.heap.size + 1 ≠ w.heap.size := by omega
  have q1 : w.heap.size + 1 < wS.heap.size + 1 := by omega
  have q1n : w.heap.size + 1 ≠ wS.heap.size + 1 := by omega
  have q1m : wS.heap.size + 1 ≠ w.heap.size + 1 := by omega
  have q2 : w.heap.size + 1 + 1 < wS.heap.size + 1 := by omega
  have q2n : w.heap.size + 1 + 1 ≠ wS.heap.size + 1 := by omega
  have q2m : wS.heap.size + 1 ≠ w.heap.size + 1 + 1 := by omega
  have q3 : w.heap.size < wS.heap.size + 1 + 1 := by omega
  have q3n : w.heap.size ≠ wS.heap.size + 1 + 1 := by omega
  have q3m : wS.heap.size + 1 + 1 ≠ w.heap.size := by omega
  have q4 : w.heap.size + 1 < wS.heap.size + 1 + 1 := by omega
  have q4n : w.heap.size + 1 ≠ wS.heap.size + 1 + 1 := by omega
  have q4m : wS.heap.size + 1 + 1 ≠ w.heap.size + 1 := by omega
  have q5 : w.heap.size + 1 + 1 < wS.heap.size + 1 + 1 := by omega
  have q5n : w.heap.size + 1 + 1 ≠ wS.heap.size + 1 + 1 := by omega
  have q5m : wS.heap.size + 1 + 1 ≠ w.heap.size + 1 + 1 := by omega
  have e1 := IntWalk.i64_in (ax + Go.bits .and .i64 by_ 255) (by omega)
  have e2 := IntWalk.i64_in (bx + Go.bits .and .i64 by_ 255) (by omega)
  have e3 := IntWalk.i64_in (cx + Go.bits .and .i64 by_ 255) (by omega)
  go_cut [18, 19, 20] (fun s t u wx => ∃ g1 g2 g3 : Nat, s = .pointer (some ⟨g1, 0, none⟩) ∧ t = .pointer (some ⟨g2, 0, none⟩) ∧ u = .pointer (some ⟨g3, 0, none⟩) ∧ Below w.heap.size w wx ∧ wx.cell? ⟨g1, 0, none⟩ = some (.int .i64 (ax + Go.bits .and .i64 by_ 255)) ∧ wx.cell? ⟨g1, 1, none⟩ = some (.int .i64 ay) ∧ wx.cell? ⟨g2, 0, none⟩ = some (.int .i64 (bx + Go.bits .and .i64 by_ 255)) ∧ wx.cell? ⟨g2, 1, none⟩ = some (.int .i64 b_y) ∧ wx.cell? ⟨g3, 0, none⟩ = some (.int .i64 (cx + Go.bits .and .i64 by_ 255)) ∧ wx.cell? ⟨g3, 1, none⟩ = some (.int .i64 cy))
  case first =>
    clear A1 A2 A3 A4 E1 E2 E3 E4
    go_region_held3 (fun w' => Below w.heap.size w w' ∧ w'.cell? ⟨w.heap.size, 0, none⟩ = some (.int .i64 ax) ∧ w'.cell? ⟨w.heap.size, 1, none⟩ = some (.int .i64 ay) ∧ w'.cell? ⟨w.heap.size + 1, 0, none⟩ = some (.int .i64 bx) ∧ w'.cell? ⟨w.heap.size + 1, 1, none⟩ = some (.int .i64 b_y) ∧ w'.cell? ⟨w.heap.size + 1 + 1, 0, none⟩ = some (.int .i64 cx) ∧ w'.cell? ⟨w.heap.size + 1 + 1, 1, none⟩ = some (.int .i64 cy))
      (((try go_split_ands); refine ⟨?_, ?_, ?_, ?_, ?_, ?_, ?_⟩; (· (repeat (first | assumption | refine Below.drew ?_ | refine Below.setCell ?_ (by first | omega | (simp; omega)) _ | refine below_new ?_ _))); all_goals (first | (go_simp; done) | (go_keep; done))))
      (fail)
    all_goals
      go_wp2_with fail
      go_meet
      exact ⟨_, _, _, rfl, rfl, rfl, And.left (by assumption : Below w.heap.size w _ ∧ _), by go_simp, by go_simp, by go_simp, by go_simp, by go_simp, by go_simp⟩
  case rest =>
    obtain ⟨g1, g2, g3, rfl, rfl, rfl, hB, k0, k1, k2, k3, k4, k5⟩ := hcut
    clear e1 e2 e3
    cases hm : may3 (ax + Go.bits .and .i64 by_ 255) ay (bx + Go.bits .and .i64 by_ 255) b_y (cx + Go.bits .and .i64 by_ 255) cy with
    | true =>
      have M1 := Lib.hid (show turnA (ax + Go.bits .and .i64 by_ 255) ay (bx + Go.bits .and .i64 by_ 255) b_y (cx + Go.bits .and .i64 by_ 255) cy = P by unfold turnA; rw [if_pos hm, turn_moved]; exact HP.out)
      have M2 := Lib.hid (show turnE (ax + Go.bits .and .i64 by_ 255) ay (bx + Go.bits .and .i64 by_ 255) b_y (cx + Go.bits .and .i64 by_ 255) cy = 0 by unfold turnE; rw [if_pos hm])
      clear hm
      go_wp2_with (first | (go_at_call 31; refine (turnTo _ _ M1.out M2.out _).mono ?_; rintro e w1 ⟨rfl, hb⟩; have hB := below_then (w := w) (by first | assumption | exact below_new (by assumption) _ | exact below_new (below_new (by assumption) _) _ | exact below_new (below_new (below_new (by assumption) _) _) _ | exact below_new (below_new (below_new (below_new (by assumption) _) _) _) _ | exact Below.refl _ _) hb; clear hb) | (go_at_call 30; refine (num_any _ _).mono ?_; rintro e w' ⟨rfl, rfl⟩))
      go_ret
      exact ⟨by first | rfl | (apply ret_bool; simp; omega), by assumption⟩
    | false =>
      have M1 := Lib.hid (show turnA (ax + Go.bits .and .i64 by_ 255) ay (bx + Go.bits .and .i64 by_ 255) b_y (cx + Go.bits .and .i64 by_ 255) cy = 0 by unfold turnA; rw [hm]; rfl)
      have M2 := Lib.hid (show turnE (ax + Go.bits .and .i64 by_ 255) ay (bx + Go.bits .and .i64 by_ 255) b_y (cx + Go.bits .and .i64 by_ 255) cy = 300 by unfold turnE; rw [hm]; rfl)
      clear hm
      go_wp2_with (first | (go_at_call 31; refine (turnTo _ _ M1.out M2.out _).mono ?_; rintro e w1 ⟨rfl, hb⟩; have hB := below_then (w := w) (by first | assumption | exact below_new (by assumption) _ | exact below_new (below_new (by assumption) _) _ | exact below_new (below_new (below_new (by assumption) _) _) _ | exact below_new (below_new (below_new (below_new (by assumption) _) _) _) _ | exact Below.refl _ _) hb; clear hb) | (go_at_call 30; refine (num_any _ _).mono ?_; rintro e w' ⟨rfl, rfl⟩))
      go_ret
      exact ⟨by first | rfl | (apply ret_bool; simp; omega), by assumption⟩
theorem turns_any (ax ay bx b_y cx cy by_ : Int) (w : World) :
    Calls Try.prog 9 #[.agg #[.int .i64 ax, .int .i64 ay], .agg #[.int .i64 bx, .int .i64 b_y], .agg #[.int .i64 cx, .int .i64 cy], .int .i64 by_] w fun e w' => e = .returned (.bool true) ∧ Below w.heap.size w w' := by
  cases h : may3 ax ay bx b_y cx cy with
  | false => exact turns_no ax ay bx b_y cx cy by_ w h
  | true =>
    obtain ⟨ha, hb, hc⟩ := may3_all.1 h
    exact turns_yes ax ay bx b_y cx cy by_ _ w ha hb hc rfl
end Go.Proofs.Ytkpmmbcbegpdpaa.GW
