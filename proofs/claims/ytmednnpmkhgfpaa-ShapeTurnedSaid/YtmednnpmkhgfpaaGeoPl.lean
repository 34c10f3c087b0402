/- Plain laws of turns and crossings: from which end, in which order does not count; stretches that cross have boxes that meet. Condition: points that may be, where said. -/
import Derived.Test.YtmednnpmkhgfpaaGeo
namespace Go.Proofs.Ytmednnpmkhgfpaa.Geo

theorem cross_cycle (ax ay bx b_y cx cy : Int) : crossZ bx b_y cx cy ax ay = crossZ ax ay bx b_y cx cy := by unfold crossZ; grind
theorem cross_turn (ax ay bx b_y cx cy : Int) : crossZ cx cy bx b_y ax ay = -(crossZ ax ay bx b_y cx cy) := by unfold crossZ; grind
theorem cross_back (ax ay bx b_y cx cy : Int) : crossZ bx b_y ax ay cx cy = -(crossZ ax ay bx b_y cx cy) := by unfold crossZ; grind
theorem cross_self (ax ay cx cy : Int) : crossZ ax ay ax ay cx cy = 0 := by unfold crossZ; grind
theorem cross_end (ax ay bx b_y : Int) : crossZ ax ay bx b_y bx b_y = 0 := by unfold crossZ; grind
theorem cross_begin (ax ay bx b_y : Int) : crossZ ax ay bx b_y ax ay = 0 := by unfold crossZ; grind
theorem cross_moved (ax ay bx b_y cx cy d : Int) : crossZ (ax + d) ay (bx + d) b_y (cx + d) cy = crossZ ax ay bx b_y cx cy := by unfold crossZ; grind
theorem turn_cycle (ax ay bx b_y cx cy : Int) : turnZ bx b_y cx cy ax ay = turnZ ax ay bx b_y cx cy := by unfold turnZ; rw [cross_cycle]
theorem turn_turn (ax ay bx b_y cx cy : Int) : turnZ cx cy bx b_y ax ay = -(turnZ ax ay bx b_y cx cy) := by unfold turnZ; rw [cross_turn, sg_neg]
theorem turn_back (ax ay bx b_y cx cy : Int) : turnZ bx b_y ax ay cx cy = -(turnZ ax ay bx b_y cx cy) := by unfold turnZ; rw [cross_back, sg_neg]
theorem turn_self (ax ay cx cy : Int) : turnZ ax ay ax ay cx cy = 0 := by unfold turnZ; rw [cross_self]; rfl
theorem turn_end (ax ay bx b_y : Int) : turnZ ax ay bx b_y bx b_y = 0 := by unfold turnZ; rw [cross_end]; rfl
theorem turn_begin (ax ay bx b_y : Int) : turnZ ax ay bx b_y ax ay = 0 := by unfold turnZ; rw [cross_begin]; rfl
theorem turn_moved (ax ay bx b_y cx cy d : Int) : turnZ (ax + d) ay (bx + d) b_y (cx + d) cy = turnZ ax ay bx b_y cx cy := by unfold turnZ; rw [cross_moved]
theorem turn_range (ax ay bx b_y cx cy : Int) : -1 ≤ turnZ ax ay bx b_y cx cy ∧ turnZ ax ay bx b_y cx cy ≤ 1 := by
  unfold turnZ; rcases sg_range (crossZ ax ay bx b_y cx cy) with h | h | h <;> omega

theorem on_back (px py ax ay bx b_y : Int) : onB px py bx b_y ax ay = onB px py ax ay bx b_y := by
  unfold onB
  rw [turn_back, Int.min_comm bx, Int.min_comm b_y, Int.max_comm bx, Int.max_comm b_y]
  congr 1
  rw [Bool.eq_iff_iff]; simp
theorem cross_swap (ax ay bx b_y cx cy dx dy : Int) : crossB cx cy dx dy ax ay bx b_y = crossB ax ay bx b_y cx cy dx dy := by
  unfold crossB
  generalize onB cx cy ax ay bx b_y = p
  generalize onB dx dy ax ay bx b_y = q
  generalize onB ax ay cx cy dx dy = r
  generalize onB bx b_y cx cy dx dy = s
  generalize decide (turnZ ax ay bx b_y cx cy * turnZ ax ay bx b_y dx dy < 0) = t
  generalize decide (turnZ cx cy dx dy ax ay * turnZ cx cy dx dy bx b_y < 0) = u
  cases p <;> cases q <;> cases r <;> cases s <;> cases t <;> cases u <;> rfl
theorem cross_flip (ax ay bx b_y cx cy dx dy : Int) : crossB bx b_y ax ay cx cy dx dy = crossB ax ay bx b_y cx cy dx dy := by
  unfold crossB
  rw [on_back cx cy ax ay bx b_y, on_back dx dy ax ay bx b_y, turn_back ax ay bx b_y cx cy, turn_back ax ay bx b_y dx dy, Int.neg_mul_neg, Int.mul_comm (turnZ cx cy dx dy bx b_y)]
  generalize onB cx cy ax ay bx b_y = p
  generalize onB dx dy ax ay bx b_y = q
  generalize onB ax ay cx cy dx dy = r
  generalize onB bx b_y cx cy dx dy = s
  cases p <;> cases q <;> cases r <;> cases s <;> rfl
/-- an end of a stretch lies on it -/
theorem on_end (ax ay bx b_y : Int) (ha : ptB ax ay = true) (hb : ptB bx b_y = true) : onB bx b_y ax ay bx b_y = true := by
  unfold onB
  rw [turn_end, Bool.and_eq_true]
  rw [ptB_iff] at ha hb
  refine ⟨by simp, ?_⟩
  rw [withinB_iff]
  omega
theorem on_begin (ax ay bx b_y : Int) (ha : ptB ax ay = true) (hb : ptB bx b_y = true) : onB ax ay ax ay bx b_y = true := by
  rw [← on_back]; exact on_end bx b_y ax ay hb ha
theorem cross_shared (ax ay bx b_y dx dy : Int) (ha : ptB ax ay = true) (hb : ptB bx b_y = true) : crossB ax ay bx b_y bx b_y dx dy = true := by
  unfold crossB
  rw [on_end ax ay bx b_y ha hb]; rfl

theorem cross_x (ax ay bx b_y cx cy dx dy : Int) : crossZ ax ay bx b_y cx cy * dx - crossZ ax ay bx b_y dx dy * cx = crossZ cx cy dx dy bx b_y * ax - crossZ cx cy dx dy ax ay * bx := by unfold crossZ; grind
theorem cross_y (ax ay bx b_y cx cy dx dy : Int) : crossZ ax ay bx b_y cx cy * dy - crossZ ax ay bx b_y dx dy * cy = crossZ cx cy dx dy bx b_y * ay - crossZ cx cy dx dy ax ay * b_y := by unfold crossZ; grind
theorem cross_diff (ax ay bx b_y cx cy dx dy : Int) : crossZ ax ay bx b_y cx cy - crossZ ax ay bx b_y dx dy = crossZ cx cy dx dy bx b_y - crossZ cx cy dx dy ax ay := by unfold crossZ; grind

/-- two means of one number: their ends' spans meet -/
theorem means_meet {P Q R T a b c d : Int} (h : P * d - Q * c = T * a - R * b) (hd : P - Q = T - R) (hP : 0 < P) (hQ : Q < 0) (hR : R < 0) (hT : 0 < T) : min c d ≤ max a b ∧ min a b ≤ max c d := by
  constructor
  · refine Int.not_lt.1 (fun hl => ?_)
    have h1 : P * (max a b + 1) ≤ P * d := Int.mul_le_mul_of_nonneg_left (by omega) (by omega)
    have h2 : (-Q) * (max a b + 1) ≤ (-Q) * c := Int.mul_le_mul_of_nonneg_left (by omega) (by omega)
    have h3 : T * a ≤ T * max a b := Int.mul_le_mul_of_nonneg_left (by omega) (by omega)
    have h4 : (-R) * b ≤ (-R) * max a b := Int.mul_le_mul_of_nonneg_left (by omega) (by omega)
    generalize max a b = m at *
    have e : (P - Q) * (m + 1) = (T - R) * (m + 1) := by rw [hd]
    have e1 : P * (m + 1) + (-Q) * (m + 1) = (P - Q) * (m + 1) := by grind
    have e2 : T * m + (-R) * m = (T - R) * m := by grind
    have e3 : (T - R) * (m + 1) = (T - R) * m + (T - R) := by grind
    have e4 : (-Q) * c = -(Q * c) := by grind
    have e5 : (-R) * b = -(R * b) := by grind
    omega
  · refine Int.not_lt.1 (fun hl => ?_)
    have h1 : P * d ≤ P * max c d := Int.mul_le_mul_of_nonneg_left (by omega) (by omega)
    have h2 : (-Q) * c ≤ (-Q) * max c d := Int.mul_le_mul_of_nonneg_left (by omega) (by omega)
    have h3 : T * (max c d + 1) ≤ T * a := Int.mul_le_mul_of_nonneg_left (by omega) (by omega)
    have h4 : (-R) * (max c d + 1) ≤ (-R) * b := Int.mul_le_mul_of_nonneg_left (by omega) (by omega)
    generalize max c d = m at *
    have e : (P - Q) * m = (T - R) * m := by rw [hd]
    have e1 : P * m + (-Q) * m = (P - Q) * m := by grind
    have e2 : T * (m + 1) + (-R) * (m + 1) = (T - R) * (m + 1) := by grind
    have e3 : (T - R) * (m + 1) = (T - R) * m + (T - R) := by grind
    have e4 : (-Q) * c = -(Q * c) := by grind
    have e5 : (-R) * b = -(R * b) := by grind
    omega
theorem sg_prod {m n : Int} (h : sg m * sg n < 0) : (0 < m ∧ n < 0) ∨ (m < 0 ∧ 0 < n) := by
  unfold sg at h
  repeat' split at h
  all_goals first | omega | (simp at h)
/-- stretches that cross have spans that meet -/
theorem strict_spans (ax ay bx b_y cx cy dx dy : Int) (h1 : turnZ ax ay bx b_y cx cy * turnZ ax ay bx b_y dx dy < 0) (h2 : turnZ cx cy dx dy ax ay * turnZ cx cy dx dy bx b_y < 0) :
    (min cx dx ≤ max ax bx ∧ min ax bx ≤ max cx dx) ∧ (min cy dy ≤ max ay b_y ∧ min ay b_y ≤ max cy dy) := by
  have ex := cross_x ax ay bx b_y cx cy dx dy
  have ey := cross_y ax ay bx b_y cx cy dx dy
  have ed := cross_diff ax ay bx b_y cx cy dx dy
  have g1 := sg_prod h1
  have g2 := sg_prod h2
  generalize crossZ ax ay bx b_y cx cy = P at *
  generalize crossZ ax ay bx b_y dx dy = Q at *
  generalize crossZ cx cy dx dy ax ay = R at *
  generalize crossZ cx cy dx dy bx b_y = T at *
  rcases g1 with ⟨p, q⟩ | ⟨p, q⟩
  · exact ⟨means_meet ex ed p q (by omega) (by omega), means_meet ey ed p q (by omega) (by omega)⟩
  · have ex' : (-P) * dx - (-Q) * cx = (-T) * ax - (-R) * bx := by grind
    have ey' : (-P) * dy - (-Q) * cy = (-T) * ay - (-R) * b_y := by grind
    exact ⟨means_meet ex' (by omega) (by omega) (by omega) (by omega) (by omega), means_meet ey' (by omega) (by omega) (by omega) (by omega) (by omega)⟩
theorem on_within {px py ax ay bx b_y : Int} (h : onB px py ax ay bx b_y = true) : min ax bx ≤ px ∧ px ≤ max ax bx ∧ min ay b_y ≤ py ∧ py ≤ max ay b_y := by
  unfold onB at h
  rw [Bool.and_eq_true, withinB_iff] at h
  omega
/-- stretches that cross have boxes that meet -/
theorem cross_meet (ax ay bx b_y cx cy dx dy : Int) (ha : ptB ax ay = true) (hb : ptB bx b_y = true) (hc : ptB cx cy = true) (hd : ptB dx dy = true) (h : crossB ax ay bx b_y cx cy dx dy = true) :
    meetB (min ax bx) (min ay b_y) (max ax bx) (max ay b_y) (min cx dx) (min cy dy) (max cx dx) (max cy dy) = true := by
  rw [ptB_iff] at ha hb hc hd
  rw [meetB_iff]
  have hs : (min cx dx ≤ max ax bx ∧ min ax bx ≤ max cx dx) ∧ (min cy dy ≤ max ay b_y ∧ min ay b_y ≤ max cy dy) := by
    unfold crossB at h
    simp only [Bool.or_eq_true, Bool.and_eq_true, decide_eq_true_eq] at h
    rcases h with (((h | h) | h) | h) | ⟨h, h'⟩
    · have := on_within h; omega
    · have := on_within h; omega
    · have := on_within h; omega
    · have := on_within h; omega
    · exact strict_spans ax ay bx b_y cx cy dx dy h h'
  omega
end Go.Proofs.Ytmednnpmkhgfpaa.Geo
