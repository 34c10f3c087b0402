/- What the law GeomCrosses answers: true, whatever it is given. Condition: none. -/
import Derived.Test.YtkpmmbcbegpdpaaGeoA
import Derived.Test.YtkpmmbcbegpdpaaGeoPl
namespace Go.Proofs.Ytkpmmbcbegpdpaa.GW
open Go Go.RowKit Go.Proofs.Ytkpmmbcbegpdpaa.Wd Go.Proofs.Ytkpmmbcbegpdpaa.Geo
attribute [local go_sem] max2_int min2_int max_two min_two max_three

theorem crossTo {ax ay bx b_y cx cy dx dy : Int} (v : Bool) (e : Int) (h1 : crossA ax ay bx b_y cx cy dx dy = v) (h2 : orErr (may4 ax ay bx b_y cx cy dx dy) 300 = e) (w : World) :
    Calls Try.prog 33 #[.agg #[.int .i64 ax, .int .i64 ay], .agg #[.int .i64 bx, .int .i64 b_y], .agg #[.int .i64 cx, .int .i64 cy], .agg #[.int .i64 dx, .int .i64 dy]] w fun r w' => r = .returned (.tuple #[.bool v, .int .i64 e]) ∧ Below w.heap.size w w' := by
  rw [← h1, ← h2]; exact cross_any ax ay bx b_y cx cy dx dy w
theorem meetTo {a0 a1 a2 a3 b0 b1 b2 b3 : Int} (v : Bool) (h : meetB a0 a1 a2 a3 b0 b1 b2 b3 = v) (w : World) :
    Calls Try.prog 43 #[.agg #[.int .i64 a0, .int .i64 a1, .int .i64 a2, .int .i64 a3], .agg #[.int .i64 b0, .int .i64 b1, .int .i64 b2, .int .i64 b3]] w fun e w' => e = .returned (.bool v) ∧ Below w.heap.size w w' := by
  rw [← h]; exact meet_any a0 a1 a2 a3 b0 b1 b2 b3 w
theorem may4_all {ax ay bx b_y cx cy dx dy : Int} : may4 ax ay bx b_y cx cy dx dy = true ↔ ptB ax ay = true ∧ ptB bx b_y = true ∧ ptB cx cy = true ∧ ptB dx dy = true := by
  simp [may4, and_assoc]

set_option maxHeartbeats 8000000 in
set_option maxRecDepth 100000 in
theorem crosses_no (ax ay bx b_y cx cy dx dy : Int) (w : World) (h : may4 ax ay bx b_y cx cy dx dy = false) :
    Calls Try.prog 10 #[.agg #[.int .i64 ax, .int .i64 ay], .agg #[.int .i64 bx, .int .i64 b_y], .agg #[.int .i64 cx, .int .i64 cy], .agg #[.int .i64 dx, .int .i64 dy]] w fun e w' => e = .returned (.bool true) ∧ Below w.heap.size w w' := by
  have H1 := Lib.hid (show crossA ax ay bx b_y cx cy dx dy = false by unfold crossA; rw [h]; rfl)
  have H2 := Lib.hid (show orErr (may4 ax ay bx b_y cx cy dx dy) 300 = 300 by rw [h]; rfl)
  clear h
  go_enter Try.func10, Try.ntmps10
  go_wp2_with (first | (go_at_call 47; refine (awake_any _).mono ?_; rintro e w1 ⟨rfl, hb⟩; obtain ⟨hc0, hc1, hc2, hc3, hf0, hf1, hf2, hf3, hn0, hn1, hn2, hn3, hm0, hm1, hm2, hm3, hl0, hl1, hl2, hl3, hz⟩ := bc4 (H := w.heap.size) hb (by first | assumption | (simp; done) | (simp; omega)); have hB := below_then (w := w) (by first | assumption | exact below_new (by assumption) _ | exact below_new (below_new (by assumption) _) _ | exact below_new (below_new (below_new (by assumption) _) _) _ | exact below_new (below_new (below_new (below_new (by assumption) _) _) _) _ | exact below_new (below_new (below_new (below_new (Below.refl _ _) _) _) _) _) hb; clear hb) | (go_at_call 33; refine (crossTo _ _ H1.out H2.out _).mono ?_; rintro e w1 ⟨rfl, hb⟩; obtain ⟨hc0, hc1, hc2, hc3, hf0, hf1, hf2, hf3, hn0, hn1, hn2, hn3, hm0, hm1, hm2, hm3, hl0, hl1, hl2, hl3, hz⟩ := bc4 (H := w.heap.size) hb (by first | assumption | (simp; done) | (simp; omega)); have hB := below_then (w := w) (by first | assumption | exact below_new (by assumption) _ | exact below_new (below_new (by assumption) _) _ | exact below_new (below_new (below_new (by assumption) _) _) _ | exact below_new (below_new (below_new (below_new (by assumption) _) _) _) _ | exact below_new (below_new (below_new (below_new (Below.refl _ _) _) _) _) _) hb; clear hb) | (go_at_call 30; refine (num_any _ _).mono ?_; rintro e w' ⟨rfl, rfl⟩))
  go_ret
  exact ⟨rfl, by assumption⟩
set_option maxHeartbeats 8000000 in
set_option maxRecDepth 100000 in
theorem crosses_yes (ax ay bx b_y cx cy dx dy : Int) (w : World) (ha : ptB ax ay = true) (hb' : ptB bx b_y = true) (hc : ptB cx cy = true) (hd : ptB dx dy = true) :
    Calls Try.prog 10 #[.agg #[.int .i64 ax, .int .i64 ay], .agg #[.int .i64 bx, .int .i64 b_y], .agg #[.int .i64 cx, .int .i64 cy], .agg #[.int .i64 dx, .int .i64 dy]] w fun e w' => e = .returned (.bool true) ∧ Below w.heap.size w w' := by
  have m1 := may4_all.2 ⟨ha, hb', hc, hd⟩
  have m2 := may4_all.2 ⟨hc, hd, ha, hb'⟩
  have m3 := may4_all.2 ⟨hb', ha, hc, hd⟩
  have m4 := may4_all.2 ⟨ha, hb', hb', hd⟩
  have E1 := Lib.hid (show orErr (may4 ax ay bx b_y cx cy dx dy) 300 = 0 by rw [m1]; rfl)
  have E2 := Lib.hid (show orErr (may4 cx cy dx dy ax ay bx b_y) 300 = 0 by rw [m2]; rfl)
  have E3 := Lib.hid (show orErr (may4 bx b_y ax ay cx cy dx dy) 300 = 0 by rw [m3]; rfl)
  have E4 := Lib.hid (show orErr (may4 ax ay bx b_y bx b_y dx dy) 300 = 0 by rw [m4]; rfl)
  have V4 := Lib.hid (show crossA ax ay bx b_y bx b_y dx dy = true by unfold crossA; rw [m4, cross_shared ax ay bx b_y dx dy ha hb']; rfl)
  have s2 : crossA cx cy dx dy ax ay bx b_y = crossA ax ay bx b_y cx cy dx dy := by unfold crossA; rw [m1, m2, cross_swap]
  have s3 : crossA bx b_y ax ay cx cy dx dy = crossA ax ay bx b_y cx cy dx dy := by unfold crossA; rw [m1, m3, cross_flip]
  cases hv : crossA ax ay bx b_y cx cy dx dy with
  | false =>
    have V1 := Lib.hid hv
    have V2 := Lib.hid (s2.trans hv)
    have V3 := Lib.hid (s3.trans hv)
    clear m1 m2 m3 m4 s2 s3 hv ha hb' hc hd
    go_enter Try.func10, Try.ntmps10
    go_wp2_with (first | (go_at_call 47; refine (awake_any _).mono ?_; rintro e w1 ⟨rfl, hb⟩; obtain ⟨hc0, hc1, hc2, hc3, hf0, hf1, hf2, hf3, hn0, hn1, hn2, hn3, hm0, hm1, hm2, hm3, hl0, hl1, hl2, hl3, hz⟩ := bc4 (H := w.heap.size) hb (by first | assumption | (simp; done) | (simp; omega)); have hB := below_then (w := w) (by first | assumption | exact below_new (by assumption) _ | exact below_new (below_new (by assumption) _) _ | exact below_new (below_new (below_new (by assumption) _) _) _ | exact below_new (below_new (below_new (below_new (by assumption) _) _) _) _ | exact below_new (below_new (below_new (below_new (Below.refl _ _) _) _) _) _) hb; clear hb) | (go_at_call 33; with_reducible refine (crossTo _ _ V1.out E1.out _).mono ?_; rintro e w1 ⟨rfl, hb⟩; obtain ⟨hc0, hc1, hc2, hc3, hf0, hf1, hf2, hf3, hn0, hn1, hn2, hn3, hm0, hm1, hm2, hm3, hl0, hl1, hl2, hl3, hz⟩ := bc4 (H := w.heap.size) hb (by first | assumption | (simp; done) | (simp; omega)); have hB := below_then (w := w) (by first | assumption | exact below_new (by assumption) _ | exact below_new (below_new (by assumption) _) _ | exact below_new (below_new (below_new (by assumption) _) _) _ | exact below_new (below_new (below_new (below_new (by assumption) _) _) _) _ | exact below_new (below_new (below_new (below_new (Below.refl _ _) _) _) _) _) hb; clear hb) | (go_at_call 33; with_reducible refine (crossTo _ _ V2.out E2.out _).mono ?_; rintro e w1 ⟨rfl, hb⟩; obtain ⟨hc0, hc1, hc2, hc3, hf0, hf1, hf2, hf3, hn0, hn1, hn2, hn3, hm0, hm1, hm2, hm3, hl0, hl1, hl2, hl3, hz⟩ := bc4 (H := w.heap.size) hb (by first | assumption | (simp; done) | (simp; omega)); have hB := below_then (w := w) (by first | assumption | exact below_new (by assumption) _ | exact below_new (below_new (by assumption) _) _ | exact below_new (below_new (below_new (by assumption) _) _) _ | exact below_new (below_new (below_new (below_new (by assumption) _) _) _) _ | exact below_new (below_new (below_new (below_new (Below.refl _ _) _) _) _) _) hb; clear hb) | (go_at_call 33; with_reducible refine (crossTo _ _ V3.out E3.out _).mono ?_; rintro e w1 ⟨rfl, hb⟩; obtain ⟨hc0, hc1, hc2, hc3, hf0, hf1, hf2, hf3, hn0, hn1, hn2, hn3, hm0, hm1, hm2, hm3, hl0, hl1, hl2, hl3, hz⟩ := bc4 (H := w.heap.size) hb (by first | assumption | (simp; done) | (simp; omega)); have hB := below_then (w := w) (by first | assumption | exact below_new (by assumption) _ | exact below_new (below_new (by assumption) _) _ | exact below_new (below_new (below_new (by assumption) _) _) _ | exact below_new (below_new (below_new (below_new (by assumption) _) _) _) _ | exact below_new (below_new (below_new (below_new (Below.refl _ _) _) _) _) _) hb; clear hb) | (go_at_call 33; with_reducible refine (crossTo _ _ V4.out E4.out _).mono ?_; rintro e w1 ⟨rfl, hb⟩; obtain ⟨hc0, hc1, hc2, hc3, hf0, hf1, hf2, hf3, hn0, hn1, hn2, hn3, hm0, hm1, hm2, hm3, hl0, hl1, hl2, hl3, hz⟩ := bc4 (H := w.heap.size) hb (by first | assumption | (simp; done) | (simp; omega)); have hB := below_then (w := w) (by first | assumption | exact below_new (by assumption) _ | exact below_new (below_new (by assumption) _) _ | exact below_new (below_new (below_new (by assumption) _) _) _ | exact below_new (below_new (below_new (below_new (by assumption) _) _) _) _ | exact below_new (below_new (below_new (below_new (Below.refl _ _) _) _) _) _) hb; clear hb) | (go_at_call 30; refine (num_any _ _).mono ?_; rintro e w' ⟨rfl, rfl⟩))
    go_ret
    exact ⟨rfl, by first | assumption | exact below_new (by assumption) _ | exact below_new (below_new (by assumption) _) _⟩
  | true =>
    have hx : crossB ax ay bx b_y cx cy dx dy = true := by unfold crossA at hv; rw [m1, Bool.true_and] at hv; exact hv
    have HM := Lib.hid (cross_meet ax ay bx b_y cx cy dx dy ha hb' hc hd hx)
    have V1 := Lib.hid hv
    have V2 := Lib.hid (s2.trans hv)
    have V3 := Lib.hid (s3.trans hv)
    clear m1 m2 m3 m4 s2 s3 hv ha hb' hc hd hx
    go_enter Try.func10, Try.ntmps10
    go_wp2_with (first | (go_at_call 47; refine (awake_any _).mono ?_; rintro e w1 ⟨rfl, hb⟩; obtain ⟨hc0, hc1, hc2, hc3, hf0, hf1, hf2, hf3, hn0, hn1, hn2, hn3, hm0, hm1, hm2, hm3, hl0, hl1, hl2, hl3, hz⟩ := bc4 (H := w.heap.size) hb (by first | assumption | (simp; done) | (simp; omega)); have hB := below_then (w := w) (by first | assumption | exact below_new (by assumption) _ | exact below_new (below_new (by assumption) _) _ | exact below_new (below_new (below_new (by assumption) _) _) _ | exact below_new (below_new (below_new (below_new (by assumption) _) _) _) _ | exact below_new (below_new (below_new (below_new (Below.refl _ _) _) _) _) _) hb; clear hb) | (go_at_call 33; with_reducible refine (crossTo _ _ V1.out E1.out _).mono ?_; rintro e w1 ⟨rfl, hb⟩; obtain ⟨hc0, hc1, hc2, hc3, hf0, hf1, hf2, hf3, hn0, hn1, hn2, hn3, hm0, hm1, hm2, hm3, hl0, hl1, hl2, hl3, hz⟩ := bc4 (H := w.heap.size) hb (by first | assumption | (simp; done) | (simp; omega)); have hB := below_then (w := w) (by first | assumption | exact below_new (by assumption) _ | exact below_new (below_new (by assumption) _) _ | exact below_new (below_new (below_new (by assumption) _) _) _ | exact below_new (below_new (below_new (below_new (by assumption) _) _) _) _ | exact below_new (below_new (below_new (below_new (Below.refl _ _) _) _) _) _) hb; clear hb) | (go_at_call 33; with_reducible refine (crossTo _ _ V2.out E2.out _).mono ?_; rintro e w1 ⟨rfl, hb⟩; obtain ⟨hc0, hc1, hc2, hc3, hf0, hf1, hf2, hf3, hn0, hn1, hn2, hn3, hm0, hm1, hm2, hm3, hl0, hl1, hl2, hl3, hz⟩ := bc4 (H := w.heap.size) hb (by first | assumption | (simp; done) | (simp; omega)); have hB := below_then (w := w) (by first | assumption | exact below_new (by assumption) _ | exact below_new (below_new (by assumption) _) _ | exact below_new (below_new (below_new (by assumption) _) _) _ | exact below_new (below_new (below_new (below_new (by assumption) _) _) _) _ | exact below_new (below_new (below_new (below_new (Below.refl _ _) _) _) _) _) hb; clear hb) | (go_at_call 33; with_reducible refine (crossTo _ _ V3.out E3.out _).mono ?_; rintro e w1 ⟨rfl, hb⟩; obtain ⟨hc0, hc1, hc2, hc3, hf0, hf1, hf2, hf3, hn0, hn1, hn2, hn3, hm0, hm1, hm2, hm3, hl0, hl1, hl2, hl3, hz⟩ := bc4 (H := w.heap.size) hb (by first | assumption | (simp; done) | (simp; omega)); have hB := below_then (w := w) (by first | assumption | exact below_new (by assumption) _ | exact below_new (below_new (by assumption) _) _ | exact below_new (below_new (below_new (by assumption) _) _) _ | exact below_new (below_new (below_new (below_new (by assumption) _) _) _) _ | exact below_new (below_new (below_new (below_new (Below.refl _ _) _) _) _) _) hb; clear hb) | (go_at_call 33; with_reducible refine (crossTo _ _ V4.out E4.out _).mono ?_; rintro e w1 ⟨rfl, hb⟩; obtain ⟨hc0, hc1, hc2, hc3, hf0, hf1, hf2, hf3, hn0, hn1, hn2, hn3, hm0, hm1, hm2, hm3, hl0, hl1, hl2, hl3, hz⟩ := bc4 (H := w.heap.size) hb (by first | assumption | (simp; done) | (simp; omega)); have hB := below_then (w := w) (by first | assumption | exact below_new (by assumption) _ | exact below_new (below_new (by assumption) _) _ | exact below_new (below_new (below_new (by assumption) _) _) _ | exact below_new (below_new (below_new (below_new (by assumption) _) _) _) _ | exact below_new (below_new (below_new (below_new (Below.refl _ _) _) _) _) _) hb; clear hb) | (go_at_call 30; refine (num_any _ _).mono ?_; rintro e w' ⟨rfl, rfl⟩) | (go_at_call 43; refine (meetTo _ HM.out _).mono ?_; rintro e w1 ⟨rfl, hb⟩; obtain ⟨hc0, hc1, hc2, hc3, hf0, hf1, hf2, hf3, hn0, hn1, hn2, hn3, hm0, hm1, hm2, hm3, hl0, hl1, hl2, hl3, hz⟩ := bc4 (H := w.heap.size) hb (by first | assumption | (simp; done) | (simp; omega)); have hB := below_then (w := w) (by first | assumption | exact below_new (by assumption) _ | exact below_new (below_new (by assumption) _) _ | exact below_new (below_new (below_new (by assumption) _) _) _ | exact below_new (below_new (below_new (below_new (by assumption) _) _) _) _ | exact below_new (below_new (below_new (below_new (Below.refl _ _) _) _) _) _) hb; clear hb))
    go_ret
    exact ⟨rfl, by assumption⟩
theorem crosses_any (ax ay bx b_y cx cy dx dy : Int) (w : World) :
    Calls Try.prog 10 #[.agg #[.int .i64 ax, .int .i64 ay], .agg #[.int .i64 bx, .int .i64 b_y], .agg #[.int .i64 cx, .int .i64 cy], .agg #[.int .i64 dx, .int .i64 dy]] w fun e w' => e = .returned (.bool true) ∧ Below w.heap.size w w' := by
  cases h : may4 ax ay bx b_y cx cy dx dy with
  | false => exact crosses_no ax ay bx b_y cx cy dx dy w h
  | true =>
    obtain ⟨ha, hb, hc, hd⟩ := may4_all.1 h
    exact crosses_yes ax ay bx b_y cx cy dx dy w ha hb hc hd
end Go.Proofs.Ytkpmmbcbegpdpaa.GW
