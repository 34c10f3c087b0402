/- What the law GeomCorners answers: true, whatever it is given. Condition: none. -/
import Derived.Test.YtkpmmbcbegpdpaaGeoA
import Derived.Test.YtkpmmbcbegpdpaaMaskL
namespace Go.Proofs.Ytkpmmbcbegpdpaa.GW
open Go Go.RowKit Go.Proofs.Ytkpmmbcbegpdpaa.Wd Go.Proofs.Ytkpmmbcbegpdpaa.Geo

theorem corner_turn (x y : Int) (x0 : 0 ≤ x) (x1 : x ≤ 65535) (y0 : 0 ≤ y) (y1 : y ≤ 65535) :
    turnA 0 0 4294967295 4294967295 (4294967295 - x) (4294967295 - y) = sg (x - y) ∧ turnE 0 0 4294967295 4294967295 (4294967295 - x) (4294967295 - y) = 0 := by
  have hm : may3 0 0 4294967295 4294967295 (4294967295 - x) (4294967295 - y) = true := by
    simp only [may3, Bool.and_eq_true, ptB_iff]
    omega
  unfold turnA turnE
  rw [if_pos hm, if_pos hm]
  refine ⟨?_, rfl⟩
  unfold turnZ crossZ sg
  repeat' split
  all_goals omega
theorem aCorner (w : World) : Calls Try.prog 33 #[.agg #[.int .i64 0, .int .i64 0], .agg #[.int .i64 4294967295, .int .i64 4294967295], .agg #[.int .i64 4294967295, .int .i64 0], .agg #[.int .i64 0, .int .i64 4294967295]] w fun e w' => e = .returned (.tuple #[.bool true, .int .i64 0]) ∧ Below w.heap.size w w' := cross_any 0 0 4294967295 4294967295 4294967295 0 0 4294967295 w
theorem cornerTurn_any (x y s : Int) (x0 : 0 ≤ x) (x1 : x ≤ 65535) (y0 : 0 ≤ y) (y1 : y ≤ 65535) (hs : sg (x - y) = s) (w : World) : Calls Try.prog 31 #[.agg #[.int .i64 0, .int .i64 0], .agg #[.int .i64 4294967295, .int .i64 4294967295], .agg #[.int .i64 (4294967295 - x), .int .i64 (4294967295 - y)]] w fun e w' => e = .returned (.tuple #[.int .i64 s, .int .i64 0]) ∧ Below w.heap.size w w' := by
  have h := Turn_any 0 0 4294967295 4294967295 (4294967295 - x) (4294967295 - y) w
  rw [(corner_turn x y x0 x1 y0 y1).1, (corner_turn x y x0 x1 y0 y1).2, hs] at h
  exact h

set_option maxHeartbeats 8000000 in
set_option maxRecDepth 100000 in
theorem corners_any (d e : Int) (w : World) :
    Calls Try.prog 14 #[.int .i64 d, .int .i64 e] w fun e w' => e = .returned (.bool true) ∧ Below w.heap.size w w' := by
  obtain ⟨p0, p1⟩ := and_65535 d
  obtain ⟨q0, q1⟩ := and_65535 e
  rcases Int.lt_trichotomy (Go.bits .and .i64 d 65535) (Go.bits .and .i64 e 65535) with h | h | h
  · have HS := Lib.hid (show sg (Go.bits .and .i64 d 65535 - Go.bits .and .i64 e 65535) = -1 by unfold sg; rw [if_pos (by omega)])
    go_enter Try.func14, Try.ntmps14
    go_wp2_with (first | (go_at_call 47; refine (awake_any _).mono ?_; rintro e wA ⟨rfl, hb⟩; have hB := below_then (w := w) (by first | assumption | exact below_new (by assumption) _ | exact below_new (below_new (by assumption) _) _ | exact below_new (below_new (below_new (by assumption) _) _) _ | exact below_new (below_new (below_new (below_new (by assumption) _) _) _) _ | exact Below.refl _ _) hb; clear hb) | (go_at_call 31; refine (cornerTurn_any _ _ _ p0 p1 q0 q1 HS.out _).mono ?_; rintro e w1 ⟨rfl, hb⟩; obtain ⟨hc0, hc1, hc2, hf0, hf1, hf2, hn0, hn1, hn2, hm0, hm1, hm2, hl0, hl1, hl2, hz⟩ := bc3 (H := wA.heap.size) hb (by first | assumption | (simp; done) | (simp; omega)); have hB := below_then (w := w) (by first | assumption | exact below_new (by assumption) _ | exact below_new (below_new (by assumption) _) _ | exact below_new (below_new (below_new (by assumption) _) _) _ | exact below_new (below_new (below_new (below_new (by assumption) _) _) _) _ | exact below_new (below_new (below_new (Below.refl _ _) _) _) _) hb; clear hb) | (go_at_call 33; refine (aCorner _).mono ?_; rintro e w1 ⟨rfl, hb⟩; obtain ⟨hc0, hc1, hc2, hf0, hf1, hf2, hn0, hn1, hn2, hm0, hm1, hm2, hl0, hl1, hl2, hz⟩ := bc3 (H := wA.heap.size) hb (by first | assumption | (simp; done) | (simp; omega)); have hB := below_then (w := w) (by first | assumption | exact below_new (by assumption) _ | exact below_new (below_new (by assumption) _) _ | exact below_new (below_new (below_new (by assumption) _) _) _ | exact below_new (below_new (below_new (below_new (by assumption) _) _) _) _ | exact below_new (below_new (below_new (Below.refl _ _) _) _) _) hb; clear hb) | (go_at_call 30; refine (num_any _ _).mono ?_; rintro e w' ⟨rfl, rfl⟩))
    go_ret
    exact ⟨rfl, by assumption⟩
  · have HS := Lib.hid (show sg (Go.bits .and .i64 d 65535 - Go.bits .and .i64 e 65535) = 0 by unfold sg; rw [if_neg (by omega), if_neg (by omega)])
    have h1 : ¬ Go.bits .and .i64 d 65535 < Go.bits .and .i64 e 65535 := by omega
    have h2 : ¬ Go.bits .and .i64 e 65535 < Go.bits .and .i64 d 65535 := by omega
    clear h
    go_enter Try.func14, Try.ntmps14
    go_wp2_with (first | (go_at_call 47; refine (awake_any _).mono ?_; rintro e wA ⟨rfl, hb⟩; have hB := below_then (w := w) (by first | assumption | exact below_new (by assumption) _ | exact below_new (below_new (by assumption) _) _ | exact below_new (below_new (below_new (by assumption) _) _) _ | exact below_new (below_new (below_new (below_new (by assumption) _) _) _) _ | exact Below.refl _ _) hb; clear hb) | (go_at_call 31; refine (cornerTurn_any _ _ _ p0 p1 q0 q1 HS.out _).mono ?_; rintro e w1 ⟨rfl, hb⟩; obtain ⟨hc0, hc1, hc2, hf0, hf1, hf2, hn0, hn1, hn2, hm0, hm1, hm2, hl0, hl1, hl2, hz⟩ := bc3 (H := wA.heap.size) hb (by first | assumption | (simp; done) | (simp; omega)); have hB := below_then (w := w) (by first | assumption | exact below_new (by assumption) _ | exact below_new (below_new (by assumption) _) _ | exact below_new (below_new (below_new (by assumption) _) _) _ | exact below_new (below_new (below_new (below_new (by assumption) _) _) _) _ | exact below_new (below_new (below_new (Below.refl _ _) _) _) _) hb; clear hb) | (go_at_call 33; refine (aCorner _).mono ?_; rintro e w1 ⟨rfl, hb⟩; obtain ⟨hc0, hc1, hc2, hf0, hf1, hf2, hn0, hn1, hn2, hm0, hm1, hm2, hl0, hl1, hl2, hz⟩ := bc3 (H := wA.heap.size) hb (by first | assumption | (simp; done) | (simp; omega)); have hB := below_then (w := w) (by first | assumption | exact below_new (by assumption) _ | exact below_new (below_new (by assumption) _) _ | exact below_new (below_new (below_new (by assumption) _) _) _ | exact below_new (below_new (below_new (below_new (by assumption) _) _) _) _ | exact below_new (below_new (below_new (Below.refl _ _) _) _) _) hb; clear hb) | (go_at_call 30; refine (num_any _ _).mono ?_; rintro e w' ⟨rfl, rfl⟩))
    go_ret
    exact ⟨rfl, by assumption⟩
  · have HS := Lib.hid (show sg (Go.bits .and .i64 d 65535 - Go.bits .and .i64 e 65535) = 1 by unfold sg; rw [if_neg (by omega), if_pos (by omega)])
    go_enter Try.func14, Try.ntmps14
    go_wp2_with (first | (go_at_call 47; refine (awake_any _).mono ?_; rintro e wA ⟨rfl, hb⟩; have hB := below_then (w := w) (by first | assumption | exact below_new (by assumption) _ | exact below_new (below_new (by assumption) _) _ | exact below_new (below_new (below_new (by assumption) _) _) _ | exact below_new (below_new (below_new (below_new (by assumption) _) _) _) _ | exact Below.refl _ _) hb; clear hb) | (go_at_call 31; refine (cornerTurn_any _ _ _ p0 p1 q0 q1 HS.out _).mono ?_; rintro e w1 ⟨rfl, hb⟩; obtain ⟨hc0, hc1, hc2, hf0, hf1, hf2, hn0, hn1, hn2, hm0, hm1, hm2, hl0, hl1, hl2, hz⟩ := bc3 (H := wA.heap.size) hb (by first | assumption | (simp; done) | (simp; omega)); have hB := below_then (w := w) (by first | assumption | exact below_new (by assumption) _ | exact below_new (below_new (by assumption) _) _ | exact below_new (below_new (below_new (by assumption) _) _) _ | exact below_new (below_new (below_new (below_new (by assumption) _) _) _) _ | exact below_new (below_new (below_new (Below.refl _ _) _) _) _) hb; clear hb) | (go_at_call 33; refine (aCorner _).mono ?_; rintro e w1 ⟨rfl, hb⟩; obtain ⟨hc0, hc1, hc2, hf0, hf1, hf2, hn0, hn1, hn2, hm0, hm1, hm2, hl0, hl1, hl2, hz⟩ := bc3 (H := wA.heap.size) hb (by first | assumption | (simp; done) | (simp; omega)); have hB := below_then (w := w) (by first | assumption | exact below_new (by assumption) _ | exact below_new (below_new (by assumption) _) _ | exact below_new (below_new (below_new (by assumption) _) _) _ | exact below_new (below_new (below_new (below_new (by assumption) _) _) _) _ | exact below_new (below_new (below_new (Below.refl _ _) _) _) _) hb; clear hb) | (go_at_call 30; refine (num_any _ _).mono ?_; rintro e w' ⟨rfl, rfl⟩))
    go_ret
    exact ⟨rfl, by assumption⟩
end Go.Proofs.Ytkpmmbcbegpdpaa.GW
