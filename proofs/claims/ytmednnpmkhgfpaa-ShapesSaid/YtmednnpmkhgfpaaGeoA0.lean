/- Plain geometry of whole numbers: what the document says of points, boxes, turns, stretches and distances. No program, no condition. -/
import Derived.RowKit
section
namespace Go.Proofs.Ytmednnpmkhgfpaa.Geo

def coordB (x : Int) : Bool := decide (0 ≤ x) && decide (x ≤ 4294967295)
def ptB (x y : Int) : Bool := coordB x && coordB y
def boxB (a b c d : Int) : Bool := coordB a && coordB b && coordB c && coordB d && decide (a ≤ c) && decide (b ≤ d)
/-- the sign of a number -/
def sg (n : Int) : Int := if n < 0 then -1 else if 0 < n then 1 else 0
/-- the cross product of b - a and c - a, and its sign -/
def crossZ (ax ay bx b_y cx cy : Int) : Int := (bx - ax) * (cy - ay) - (b_y - ay) * (cx - ax)
def turnZ (ax ay bx b_y cx cy : Int) : Int := sg (crossZ ax ay bx b_y cx cy)
def withinB (px py x0 y0 x1 y1 : Int) : Bool := ptB px py && boxB x0 y0 x1 y1 && decide (x0 ≤ px) && decide (px ≤ x1) && decide (y0 ≤ py) && decide (py ≤ y1)
def onB (px py ax ay bx b_y : Int) : Bool := decide (turnZ ax ay bx b_y px py = 0) && withinB px py (min ax bx) (min ay b_y) (max ax bx) (max ay b_y)
def crossB (ax ay bx b_y cx cy dx dy : Int) : Bool :=
  onB cx cy ax ay bx b_y || onB dx dy ax ay bx b_y || onB ax ay cx cy dx dy || onB bx b_y cx cy dx dy ||
    (decide (turnZ ax ay bx b_y cx cy * turnZ ax ay bx b_y dx dy < 0) && decide (turnZ cx cy dx dy ax ay * turnZ cx cy dx dy bx b_y < 0))
def meetB (a0 a1 a2 a3 b0 b1 b2 b3 : Int) : Bool := boxB a0 a1 a2 a3 && boxB b0 b1 b2 b3 && decide (a0 ≤ b2) && decide (b0 ≤ a2) && decide (a1 ≤ b3) && decide (b1 ≤ a3)
/-- how far a number lies from a stretch -/
def gap (lo hi x : Int) : Int := max (lo - x) (max 0 (x - hi))
def farZ (px py x0 y0 x1 y1 : Int) : Int := gap x0 x1 px * gap x0 x1 px + gap y0 y1 py * gap y0 y1 py

theorem coordB_iff {x : Int} : coordB x = true ↔ 0 ≤ x ∧ x ≤ 4294967295 := by simp [coordB]
theorem ptB_iff {x y : Int} : ptB x y = true ↔ (0 ≤ x ∧ x ≤ 4294967295) ∧ (0 ≤ y ∧ y ≤ 4294967295) := by simp [ptB, coordB]
theorem boxB_iff {a b c d : Int} : boxB a b c d = true ↔ 0 ≤ a ∧ a ≤ c ∧ c ≤ 4294967295 ∧ 0 ≤ b ∧ b ≤ d ∧ d ≤ 4294967295 := by
  simp [boxB, coordB]; omega
theorem withinB_iff {px py x0 y0 x1 y1 : Int} : withinB px py x0 y0 x1 y1 = true ↔ 0 ≤ x0 ∧ x0 ≤ px ∧ px ≤ x1 ∧ x1 ≤ 4294967295 ∧ 0 ≤ y0 ∧ y0 ≤ py ∧ py ≤ y1 ∧ y1 ≤ 4294967295 := by
  simp only [withinB, Bool.and_eq_true, ptB_iff, boxB_iff, decide_eq_true_eq]; omega
theorem meetB_iff {a0 a1 a2 a3 b0 b1 b2 b3 : Int} : meetB a0 a1 a2 a3 b0 b1 b2 b3 = true ↔ (0 ≤ a0 ∧ a0 ≤ a2 ∧ a2 ≤ 4294967295 ∧ 0 ≤ a1 ∧ a1 ≤ a3 ∧ a3 ≤ 4294967295) ∧ (0 ≤ b0 ∧ b0 ≤ b2 ∧ b2 ≤ 4294967295 ∧ 0 ≤ b1 ∧ b1 ≤ b3 ∧ b3 ≤ 4294967295) ∧ a0 ≤ b2 ∧ b0 ≤ a2 ∧ a1 ≤ b3 ∧ b1 ≤ a3 := by
  simp only [meetB, Bool.and_eq_true, boxB_iff, decide_eq_true_eq, and_assoc]
theorem sg_range (n : Int) : sg n = -1 ∨ sg n = 0 ∨ sg n = 1 := by
  unfold sg
  repeat' split
  all_goals first | omega | simp
theorem sg_neg (n : Int) : sg (-n) = -(sg n) := by
  unfold sg
  repeat' split
  all_goals first | omega | simp
theorem sg_zero {n : Int} : sg n = 0 ↔ n = 0 := by
  unfold sg
  repeat' split
  all_goals first | omega | simp
theorem sg_pos {n : Int} : 0 < sg n ↔ 0 < n := by
  unfold sg
  repeat' split
  all_goals first | omega | simp
theorem sg_lt {n : Int} : sg n < 0 ↔ n < 0 := by
  unfold sg
  repeat' split
  all_goals first | omega | simp
theorem gap_bd {lo hi x : Int} (l0 : 0 ≤ lo) (h1 : hi ≤ 4294967295) (x0 : 0 ≤ x) (x1 : x ≤ 4294967295) (lh : lo ≤ hi) : 0 ≤ gap lo hi x ∧ gap lo hi x ≤ 4294967295 := by unfold gap; omega
theorem sq_bd {n : Int} (h0 : 0 ≤ n) (h1 : n ≤ 4294967295) : 0 ≤ n * n ∧ n * n ≤ 18446744065119617025 :=
  ⟨Int.mul_nonneg h0 h0, by have := Int.mul_le_mul h1 h1 h0 (by omega); omega⟩
end Go.Proofs.Ytmednnpmkhgfpaa.Geo
end
section
/- Plain laws of turns and crossings: from which end, in which order does not count; stretches that cross have boxes that meet. Condition: points that may be, where said. -/
namespace Go.Proofs.Ytmednnpmkhgfpaa.Geo

theorem cross_cycle (ax ay bx b_y cx cy : Int) : crossZ bx b_y cx cy ax ay = crossZ ax ay bx b_y cx cy := by unfold crossZ; grind
theorem cross_turn (ax ay bx b_y cx cy : Int) : crossZ cx cy bx b_y ax ay = -(crossZ ax ay bx b_y cx cy) := by unfold crossZ; grind
theorem cross_back (ax ay bx b_y cx cy : Int) : crossZ bx b_y ax ay cx cy = -(crossZ ax ay bx b_y cx cy) := by unfold crossZ; grind
theorem cross_self (ax ay cx cy : Int) : crossZ ax ay ax ay cx cy = 0 := by unfold crossZ; grind
theorem cross_end (ax ay bx b_y : Int) : crossZ ax ay bx b_y bx b_y = 0 := by unfold crossZ; grind
theorem cross_begin (ax ay bx b_y : Int) : crossZ ax ay bx b_y ax ay = 0 := by unfold crossZ; grind
theorem cross_moved (ax ay bx b_y cx cy d : Int) : crossZ (ax + d) ay (bx + d) b_y (cx + d) cy = crossZ ax ay bx b_y cx cy := by unfold crossZ; grind
theorem turn_cycle (ax ay bx b_y cx cy : Int) : turnZ bx b_y cx cy ax ay = turnZ ax ay bx b_y cx cy := by unfold turnZ; rw [cross_cycle]
theorem turn_turn (ax ay bx b_y cx cy : Int) : turnZ cx cy bx b_y ax ay = -(turnZ ax ay bx b_y cx cy) := by unfold turnZ; rw [cross_turn, sg_neg]
theorem turn_back (ax ay bx b_y cx cy : Int) : turnZ bx b_y ax ay cx cy = -(turnZ ax ay bx b_y cx cy) := by unfold turnZ; rw [cross_back, sg_neg]
theorem turn_self (ax ay cx cy : Int) : turnZ ax ay ax ay cx cy = 0 := by unfold turnZ; rw [cross_self]; rfl
theorem turn_end (ax ay bx b_y : Int) : turnZ ax ay bx b_y bx b_y = 0 := by unfold turnZ; rw [cross_end]; rfl
theorem turn_begin (ax ay bx b_y : Int) : turnZ ax ay bx b_y ax ay = 0 := by unfold turnZ; rw [cross_begin]; rfl
theorem turn_moved (ax ay bx b_y cx cy d : Int) : turnZ (ax + d) ay (bx + d) b_y (cx + d) cy = turnZ ax ay bx b_y cx cy := by unfold turnZ; rw [cross_moved]
theorem turn_range (ax ay bx b_y cx cy : Int) : -1 ≤ turnZ ax ay bx b_y cx cy ∧ turnZ ax ay bx b_y cx cy ≤ 1 := by
  unfold turnZ; rcases sg_range (crossZ ax ay bx b_y cx cy) with h | h | h <;> omega

theorem on_back (px py ax ay bx b_y : Int) : onB px py bx b_y ax ay = onB px py ax ay bx b_y := by
  unfold onB
  rw [turn_back, Int.min_comm bx, Int.min_comm b_y, Int.max_comm bx, Int.max_comm b_y]
  congr 1
  rw [Bool.eq_iff_iff]; simp
theorem cross_swap (ax ay bx b_y cx cy dx dy : Int) : crossB cx cy dx dy ax ay bx b_y = crossB ax ay bx b_y cx cy dx dy := by
  unfold crossB
  generalize onB cx cy ax ay bx b_y = p
  generalize onB dx dy ax ay bx b_y = q
  generalize onB ax ay cx cy dx dy = r
  generalize onB bx b_y cx cy dx dy = s
  generalize decide (turnZ ax ay bx b_y cx cy * turnZ ax ay bx b_y dx dy < 0) = t
  generalize decide (turnZ cx cy dx dy ax ay * turnZ cx cy dx dy bx b_y < 0) = u
  cases p <;> cases q <;> cases r <;> cases s <;> cases t <;> cases u <;> rfl
theorem cross_flip (ax ay bx b_y cx cy dx dy : Int) : crossB bx b_y ax ay cx cy dx dy = crossB ax ay bx b_y cx cy dx dy := by
  unfold crossB
  rw [on_back cx cy ax ay bx b_y, on_back dx dy ax ay bx b_y, turn_back ax ay bx b_y cx cy, turn_back ax ay bx b_y dx dy, Int.neg_mul_neg, Int.mul_comm (turnZ cx cy dx dy bx b_y)]
  generalize onB cx cy ax ay bx b_y = p
  generalize onB dx dy ax ay bx b_y = q
  generalize onB ax ay cx cy dx dy = r
  generalize onB bx b_y cx cy dx dy = s
  cases p <;> cases q <;> cases r <;> cases s <;> rfl
/-- an end of a stretch lies on it -/
theorem on_end (ax ay bx b_y : Int) (ha : ptB ax ay = true) (hb : ptB bx b_y = true) : onB bx b_y ax ay bx b_y = true := by
  unfold onB
  rw [turn_end, Bool.and_eq_true]
  rw [ptB_iff] at ha hb
  refine ⟨by simp, ?_⟩
  rw [withinB_iff]
  omega
theorem on_begin (ax ay bx b_y : Int) (ha : ptB ax ay = true) (hb : ptB bx b_y = true) : onB ax ay ax ay bx b_y = true := by
  rw [← on_back]; exact on_end bx b_y ax ay hb ha
theorem cross_shared (ax ay bx b_y dx dy : Int) (ha : ptB ax ay = true) (hb : ptB bx b_y = true) : crossB ax ay bx b_y bx b_y dx dy = true := by
  unfold crossB
  rw [on_end ax ay bx b_y ha hb]; rfl

theorem cross_x (ax ay bx b_y cx cy dx dy : Int) : crossZ ax ay bx b_y cx cy * dx - crossZ ax ay bx b_y dx dy * cx = crossZ cx cy dx dy bx b_y * ax - crossZ cx cy dx dy ax ay * bx := by unfold crossZ; grind
theorem cross_y (ax ay bx b_y cx cy dx dy : Int) : crossZ ax ay bx b_y cx cy * dy - crossZ ax ay bx b_y dx dy * cy = crossZ cx cy dx dy bx b_y * ay - crossZ cx cy dx dy ax ay * b_y := by unfold crossZ; grind
theorem cross_diff (ax ay bx b_y cx cy dx dy : Int) : crossZ ax ay bx b_y cx cy - crossZ ax ay bx b_y dx dy = crossZ cx cy dx dy bx b_y - crossZ cx cy dx dy ax ay := by unfold crossZ; grind

/-- two means of one number: their ends' spans meet -/
theorem means_meet {P Q R T a b c d : Int} (h : P * d - Q * c = T * a - R * b) (hd : P - Q = T - R) (hP : 0 < P) (hQ : Q < 0) (hR : R < 0) (hT : 0 < T) : min c d ≤ max a b ∧ min a b ≤ max c d := by
  constructor
  · refine Int.not_lt.1 (fun hl => ?_)
    have h1 : P * (max a b + 1) ≤ P * d := Int.mul_le_mul_of_nonneg_left (by omega) (by omega)
    have h2 : (-Q) * (max a b + 1) ≤ (-Q) * c := Int.mul_le_mul_of_nonneg_left (by omega) (by omega)
    have h3 : T * a ≤ T * max a b := Int.mul_le_mul_of_nonneg_left (by omega) (by omega)
    have h4 : (-R) * b ≤ (-R) * max a b := Int.mul_le_mul_of_nonneg_left (by omega) (by omega)
    generalize max a b = m at *
    have e : (P - Q) * (m + 1) = (T - R) * (m + 1) := by rw [hd]
    have e1 : P * (m + 1) + (-Q) * (m + 1) = (P - Q) * (m + 1) := by grind
    have e2 : T * m + (-R) * m = (T - R) * m := by grind
    have e3 : (T - R) * (m + 1) = (T - R) * m + (T - R) := by grind
    have e4 : (-Q) * c = -(Q * c) := by grind
    have e5 : (-R) * b = -(R * b) := by grind
    omega
  · refine Int.not_lt.1 (fun hl => ?_)
    have h1 : P * d ≤ P * max c d := Int.mul_le_mul_of_nonneg_left (by omega) (by omega)
    have h2 : (-Q) * c ≤ (-Q) * max c d := Int.mul_le_mul_of_nonneg_left (by omega) (by omega)
    have h3 : T * (max c d + 1) ≤ T * a := Int.mul_le_mul_of_nonneg_left (by omega) (by omega)
    have h4 : (-R) * (max c d + 1) ≤ (-R) * b := Int.mul_le_mul_of_nonneg_left (by omega) (by omega)
    generalize max c d = m at *
    have e : (P - Q) * m = (T - R) * m := by rw [hd]
    have e1 : P * m + (-Q) * m = (P - Q) * m := by grind
    have e2 : T * (m + 1) + (-R) * (m + 1) = (T - R) * (m + 1) := by grind
    have e3 : (T - R) * (m + 1) = (T - R) * m + (T - R) := by grind
    have e4 : (-Q) * c = -(Q * c) := by grind
    have e5 : (-R) * b = -(R * b) := by grind
    omega
theorem sg_prod {m n : Int} (h : sg m * sg n < 0) : (0 < m ∧ n < 0) ∨ (m < 0 ∧ 0 < n) := by
  unfold sg at h
  repeat' split at h
  all_goals first | omega | (simp at h)
/-- stretches that cross have spans that meet -/
theorem strict_spans (ax ay bx b_y cx cy dx dy : Int) (h1 : turnZ ax ay bx b_y cx cy * turnZ ax ay bx b_y dx dy < 0) (h2 : turnZ cx cy dx dy ax ay * turnZ cx cy dx dy bx b_y < 0) :
    (min cx dx ≤ max ax bx ∧ min ax bx ≤ max cx dx) ∧ (min cy dy ≤ max ay b_y ∧ min ay b_y ≤ max cy dy) := by
  have ex := cross_x ax ay bx b_y cx cy dx dy
  have ey := cross_y ax ay bx b_y cx cy dx dy
  have ed := cross_diff ax ay bx b_y cx cy dx dy
  have g1 := sg_prod h1
  have g2 := sg_prod h2
  generalize crossZ ax ay bx b_y cx cy = P at *
  generalize crossZ ax ay bx b_y dx dy = Q at *
  generalize crossZ cx cy dx dy ax ay = R at *
  generalize crossZ cx cy dx dy bx b_y = T at *
  rcases g1 with ⟨p, q⟩ | ⟨p, q⟩
  · exact ⟨means_meet ex ed p q (by omega) (by omega), means_meet ey ed p q (by omega) (by omega)⟩
  · have ex' : (-P) * dx - (-Q) * cx = (-T) * ax - (-R) * bx := by grind
    have ey' : (-P) * dy - (-Q) * cy = (-T) * ay - (-R) * b_y := by grind
    exact ⟨means_meet ex' (by omega) (by omega) (by omega) (by omega) (by omega), means_meet ey' (by omega) (by omega) (by omega) (by omega) (by omega)⟩
theorem on_within {px py ax ay bx b_y : Int} (h : onB px py ax ay bx b_y = true) : min ax bx ≤ px ∧ px ≤ max ax bx ∧ min ay b_y ≤ py ∧ py ≤ max ay b_y := by
  unfold onB at h
  rw [Bool.and_eq_true, withinB_iff] at h
  omega
/-- stretches that cross have boxes that meet -/
theorem cross_meet (ax ay bx b_y cx cy dx dy : Int) (ha : ptB ax ay = true) (hb : ptB bx b_y = true) (hc : ptB cx cy = true) (hd : ptB dx dy = true) (h : crossB ax ay bx b_y cx cy dx dy = true) :
    meetB (min ax bx) (min ay b_y) (max ax bx) (max ay b_y) (min cx dx) (min cy dy) (max cx dx) (max cy dy) = true := by
  rw [ptB_iff] at ha hb hc hd
  rw [meetB_iff]
  have hs : (min cx dx ≤ max ax bx ∧ min ax bx ≤ max cx dx) ∧ (min cy dy ≤ max ay b_y ∧ min ay b_y ≤ max cy dy) := by
    unfold crossB at h
    simp only [Bool.or_eq_true, Bool.and_eq_true, decide_eq_true_eq] at h
    rcases h with (((h | h) | h) | h) | ⟨h, h'⟩
    · have := on_within h; omega
    · have := on_within h; omega
    · have := on_within h; omega
    · have := on_within h; omega
    · exact strict_spans ax ay bx b_y cx cy dx dy h h'
  omega
end Go.Proofs.Ytmednnpmkhgfpaa.Geo
end
section
/- Plain laws of a stretch and a box: a stretch whose ends lie outside of a box and that crosses none of its sides lies apart from it; a ray's parity over such stretches. Condition: points that may be, where said. -/
namespace Go.Proofs.Ytmednnpmkhgfpaa.Geo
set_option linter.unusedVariables false

/-- both above naught or both below -/
def Same (m n : Int) : Prop := (0 < m ∧ 0 < n) ∨ (m < 0 ∧ n < 0)
theorem cross_dx (ax ay bx b_y x x' y : Int) : crossZ ax ay bx b_y x' y = crossZ ax ay bx b_y x y - (b_y - ay) * (x' - x) := by unfold crossZ; grind
theorem cross_dy (ax ay bx b_y x y y' : Int) : crossZ ax ay bx b_y x y' = crossZ ax ay bx b_y x y + (bx - ax) * (y' - y) := by unfold crossZ; grind
theorem cross_flat (ax ay bx b_y : Int) : crossZ ay ax b_y bx = fun cy cx => -(crossZ ax ay bx b_y cx cy) := by funext cy cx; unfold crossZ; grind
theorem turn_flat (ax ay bx b_y cx cy : Int) : turnZ ay ax b_y bx cy cx = -(turnZ ax ay bx b_y cx cy) := by unfold turnZ; rw [cross_flat ax ay bx b_y, sg_neg]
theorem on_flat (px py ax ay bx b_y : Int) : onB py px ay ax b_y bx = onB px py ax ay bx b_y := by
  unfold onB
  rw [turn_flat ax ay bx b_y px py, Bool.eq_iff_iff, Bool.and_eq_true, Bool.and_eq_true, withinB_iff, withinB_iff, decide_eq_true_eq, decide_eq_true_eq]
  omega
theorem crossB_flat (ax ay bx b_y cx cy dx dy : Int) : crossB ay ax b_y bx cy cx dy dx = crossB ax ay bx b_y cx cy dx dy := by
  unfold crossB
  rw [on_flat cx cy ax ay bx b_y, on_flat dx dy ax ay bx b_y, on_flat ax ay cx cy dx dy, on_flat bx b_y cx cy dx dy, turn_flat ax ay bx b_y cx cy, turn_flat ax ay bx b_y dx dy, turn_flat cx cy dx dy ax ay, turn_flat cx cy dx dy bx b_y, Int.neg_mul_neg, Int.neg_mul_neg]
theorem crossB_back (ax ay bx b_y cx cy dx dy : Int) : crossB ax ay bx b_y dx dy cx cy = crossB ax ay bx b_y cx cy dx dy := by
  rw [cross_swap dx dy cx cy ax ay bx b_y, cross_flip cx cy dx dy ax ay bx b_y, cross_swap]
theorem same_neg {m n : Int} (h : Same (-m) (-n)) : Same m n := by unfold Same at *; omega
theorem sg_opp {m n : Int} (h : (0 < m ∧ n < 0) ∨ (m < 0 ∧ 0 < n)) : sg m * sg n < 0 := by
  unfold sg
  rcases h with ⟨h1, h2⟩ | ⟨h1, h2⟩
  · rw [if_neg (by omega), if_pos h1, if_pos h2]; decide
  · rw [if_pos h1, if_neg (by omega), if_pos h2]; decide
theorem between_mul {E t D z : Int} (hE : 0 < E) (ht : 0 ≤ t) (ht' : t ≤ E) (h : E * z = D * t) : min 0 D ≤ z ∧ z ≤ max 0 D := by
  rcases Int.le_total 0 D with hD | hD
  · have h1 : 0 ≤ D * t := Int.mul_nonneg hD ht
    have h2 : D * t ≤ D * E := Int.mul_le_mul_of_nonneg_left ht' hD
    have h3 : 0 ≤ z := by
      refine Int.le_of_mul_le_mul_left (a := E) ?_ hE
      rw [Int.mul_zero, h]; exact h1
    have h4 : z ≤ D := by
      refine Int.le_of_mul_le_mul_left (a := E) ?_ hE
      rw [h, Int.mul_comm E D]; exact h2
    omega
  · have h1 : 0 ≤ (-D) * t := Int.mul_nonneg (by omega) ht
    have h2 : (-D) * t ≤ (-D) * E := Int.mul_le_mul_of_nonneg_left ht' (by omega)
    have e : E * (-z) = (-D) * t := by rw [Int.mul_neg, h, Int.neg_mul]
    have h3 : 0 ≤ -z := by
      refine Int.le_of_mul_le_mul_left (a := E) ?_ hE
      rw [Int.mul_zero, e]; exact h1
    have h4 : -z ≤ -D := by
      refine Int.le_of_mul_le_mul_left (a := E) ?_ hE
      rw [e, Int.mul_comm E (-D)]; exact h2
    omega
/-- a place of a stretch's line, beside it, lies on it -/
theorem on_line (ax ay bx b_y X Y : Int) (ha : ptB ax ay = true) (hb : ptB bx b_y = true) (hx : min ax bx ≤ X) (hx' : X ≤ max ax bx) (hne : ax ≠ bx) (hz : crossZ ax ay bx b_y X Y = 0) : onB X Y ax ay bx b_y = true := by
  have go : ∀ ax ay bx b_y : Int, ptB ax ay = true → ptB bx b_y = true → ax ≤ X → X ≤ bx → ax < bx → crossZ ax ay bx b_y X Y = 0 → onB X Y ax ay bx b_y = true := by
    intro ax ay bx b_y ha hb h1 h2 h3 hz
    have hz' := hz
    unfold crossZ at hz
    have := between_mul (E := bx - ax) (t := X - ax) (D := b_y - ay) (z := Y - ay) (by omega) (by omega) (by omega) (by omega)
    rw [ptB_iff] at ha hb
    unfold onB turnZ
    rw [Bool.and_eq_true, withinB_iff, decide_eq_true_eq, hz']
    refine ⟨rfl, ?_⟩
    omega
  rcases Int.lt_or_gt_of_ne hne with h | h
  · exact go ax ay bx b_y ha hb (by omega) (by omega) h hz
  · rw [← on_back]
    exact go bx b_y ax ay hb ha (by omega) (by omega) h (by rw [cross_back, hz]; rfl)
theorem on_v (X Y Y0 Y1 : Int) (h : ptB X Y = true) (h0 : ptB X Y0 = true) (h1 : ptB X Y1 = true) (hy : min Y0 Y1 ≤ Y) (hy' : Y ≤ max Y0 Y1) : onB X Y X Y0 X Y1 = true := by
  rw [ptB_iff] at h h0 h1
  unfold onB turnZ
  rw [Bool.and_eq_true, withinB_iff, decide_eq_true_eq]
  refine ⟨?_, by omega⟩
  rw [sg_zero]
  unfold crossZ
  rw [Int.sub_self, Int.zero_mul, Int.mul_zero]
  rfl
theorem mul_pos_lt {E z : Int} (h : 0 < E) : (0 < E * z ↔ 0 < z) ∧ (E * z < 0 ↔ z < 0) := by
  have h1 : 0 < z → 0 < E * z := fun hz => Int.mul_pos h hz
  have h2 : z < 0 → E * z < 0 := fun hz => Int.mul_neg_of_pos_of_neg h hz
  rcases Int.lt_trichotomy z 0 with hz | hz | hz
  · have := h2 hz; omega
  · subst hz; omega
  · have := h1 hz; omega
/-- a stretch that goes over an upright line and does not cross a side there: the side's ends lie on one hand -/
theorem side_v (ax ay bx b_y X Y0 Y1 : Int) (ha : ptB ax ay = true) (hb : ptB bx b_y = true) (h0 : ptB X Y0 = true) (h1 : ptB X Y1 = true) (hy : Y0 ≤ Y1) (hx : min ax bx ≤ X) (hx' : X ≤ max ax bx) (hne : ax ≠ bx)
    (h : crossB ax ay bx b_y X Y0 X Y1 = false) : Same (crossZ ax ay bx b_y X Y0) (crossZ ax ay bx b_y X Y1) := by
  refine Classical.byContradiction fun hs => ?_
  have hno := h
  unfold crossB at hno
  simp only [Bool.or_eq_false_iff, Bool.and_eq_false_iff, decide_eq_false_iff_not] at hno
  obtain ⟨⟨⟨⟨n1, n2⟩, n3⟩, n4⟩, n5⟩ := hno
  have z0 : crossZ ax ay bx b_y X Y0 ≠ 0 := fun hz => by
    rw [on_line ax ay bx b_y X Y0 ha hb hx hx' hne hz] at n1; cases n1
  have z1 : crossZ ax ay bx b_y X Y1 ≠ 0 := fun hz => by
    rw [on_line ax ay bx b_y X Y1 ha hb hx hx' hne hz] at n2; cases n2
  have hop : (0 < crossZ ax ay bx b_y X Y0 ∧ crossZ ax ay bx b_y X Y1 < 0) ∨ (crossZ ax ay bx b_y X Y0 < 0 ∧ 0 < crossZ ax ay bx b_y X Y1) := by unfold Same at hs; omega
  have ptv : ∀ Y, min Y0 Y1 ≤ Y → Y ≤ max Y0 Y1 → ptB X Y = true := by
    intro Y h2 h3
    rw [ptB_iff] at *
    omega
  by_cases ea : X = ax
  · have e : ∀ y, crossZ ax ay bx b_y X y = (bx - ax) * (y - ay) := by intro y; unfold crossZ; rw [ea, Int.sub_self, Int.mul_zero, Int.sub_zero]
    rw [e, e] at hop
    have hb2 : min Y0 Y1 ≤ ay ∧ ay ≤ max Y0 Y1 := by
      rcases Int.lt_or_gt_of_ne hne with hl | hl
      · have k0 := mul_pos_lt (E := bx - ax) (z := Y0 - ay) (by omega)
        have k1 := mul_pos_lt (E := bx - ax) (z := Y1 - ay) (by omega)
        rw [k0.1, k0.2, k1.1, k1.2] at hop
        omega
      · have f0 : (bx - ax) * (Y0 - ay) = -((ax - bx) * (Y0 - ay)) := by rw [← Int.neg_mul]; congr 1; omega
        have f1 : (bx - ax) * (Y1 - ay) = -((ax - bx) * (Y1 - ay)) := by rw [← Int.neg_mul]; congr 1; omega
        have k0 := mul_pos_lt (E := ax - bx) (z := Y0 - ay) (by omega)
        have k1 := mul_pos_lt (E := ax - bx) (z := Y1 - ay) (by omega)
        rw [f0, f1] at hop
        generalize (ax - bx) * (Y0 - ay) = u0 at *
        generalize (ax - bx) * (Y1 - ay) = u1 at *
        omega
    rw [← ea] at n3
    rw [on_v X ay Y0 Y1 (ptv ay hb2.1 hb2.2) h0 h1 hb2.1 hb2.2] at n3
    cases n3
  by_cases eb : X = bx
  · have e : ∀ y, crossZ ax ay bx b_y X y = (bx - ax) * (y - b_y) := by intro y; unfold crossZ; rw [eb]; grind
    rw [e, e] at hop
    have hb2 : min Y0 Y1 ≤ b_y ∧ b_y ≤ max Y0 Y1 := by
      rcases Int.lt_or_gt_of_ne hne with hl | hl
      · have k0 := mul_pos_lt (E := bx - ax) (z := Y0 - b_y) (by omega)
        have k1 := mul_pos_lt (E := bx - ax) (z := Y1 - b_y) (by omega)
        rw [k0.1, k0.2, k1.1, k1.2] at hop
        omega
      · have f0 : (bx - ax) * (Y0 - b_y) = -((ax - bx) * (Y0 - b_y)) := by rw [← Int.neg_mul]; congr 1; omega
        have f1 : (bx - ax) * (Y1 - b_y) = -((ax - bx) * (Y1 - b_y)) := by rw [← Int.neg_mul]; congr 1; omega
        have k0 := mul_pos_lt (E := ax - bx) (z := Y0 - b_y) (by omega)
        have k1 := mul_pos_lt (E := ax - bx) (z := Y1 - b_y) (by omega)
        rw [f0, f1] at hop
        generalize (ax - bx) * (Y0 - b_y) = u0 at *
        generalize (ax - bx) * (Y1 - b_y) = u1 at *
        omega
    rw [← eb] at n4
    rw [on_v X b_y Y0 Y1 (ptv b_y hb2.1 hb2.2) h0 h1 hb2.1 hb2.2] at n4
    cases n4
  have t1 : turnZ ax ay bx b_y X Y0 * turnZ ax ay bx b_y X Y1 < 0 := sg_opp hop
  have hY : Y0 < Y1 := by
    rcases Int.lt_or_eq_of_le hy with hl | hl
    · exact hl
    · subst hl; omega
  have ev : ∀ x y, crossZ X Y0 X Y1 x y = -((Y1 - Y0) * (x - X)) := by intro x y; unfold crossZ; rw [Int.sub_self, Int.zero_mul, Int.zero_sub]
  have t2 : turnZ X Y0 X Y1 ax ay * turnZ X Y0 X Y1 bx b_y < 0 := by
    unfold turnZ
    refine sg_opp ?_
    rw [ev, ev]
    have k0 := mul_pos_lt (E := Y1 - Y0) (z := ax - X) (by omega)
    have k1 := mul_pos_lt (E := Y1 - Y0) (z := bx - X) (by omega)
    generalize (Y1 - Y0) * (ax - X) = u0 at *
    generalize (Y1 - Y0) * (bx - X) = u1 at *
    omega
  rcases n5 with h5 | h5
  · exact h5 t1
  · exact h5 t2
theorem side_h (ax ay bx b_y Y X0 X1 : Int) (ha : ptB ax ay = true) (hb : ptB bx b_y = true) (h0 : ptB X0 Y = true) (h1 : ptB X1 Y = true) (hx : X0 ≤ X1) (hy : min ay b_y ≤ Y) (hy' : Y ≤ max ay b_y) (hne : ay ≠ b_y)
    (h : crossB ax ay bx b_y X0 Y X1 Y = false) : Same (crossZ ax ay bx b_y X0 Y) (crossZ ax ay bx b_y X1 Y) := by
  have hf : ∀ x y, ptB x y = true → ptB y x = true := by intro x y h; rw [ptB_iff] at *; omega
  have := side_v ay ax b_y bx Y X0 X1 (hf _ _ ha) (hf _ _ hb) (hf _ _ h0) (hf _ _ h1) hx hy hy' hne (by rw [crossB_flat ax ay bx b_y X0 Y X1 Y]; exact h)
  rw [cross_flat ax ay bx b_y] at this
  exact same_neg this
def Pos4 (ax ay bx b_y x0 y0 x1 y1 : Int) : Prop := 0 < crossZ ax ay bx b_y x0 y0 ∧ 0 < crossZ ax ay bx b_y x1 y0 ∧ 0 < crossZ ax ay bx b_y x1 y1 ∧ 0 < crossZ ax ay bx b_y x0 y1
def Neg4 (ax ay bx b_y x0 y0 x1 y1 : Int) : Prop := crossZ ax ay bx b_y x0 y0 < 0 ∧ crossZ ax ay bx b_y x1 y0 < 0 ∧ crossZ ax ay bx b_y x1 y1 < 0 ∧ crossZ ax ay bx b_y x0 y1 < 0
theorem core_left {ax ay bx b_y x0 y0 x1 y1 : Int} (hx : x0 ≤ x1) (hy : y0 ≤ y1) (ha : ax < x0) (hb : x0 ≤ bx)
    (H1 : Same (crossZ ax ay bx b_y x0 y0) (crossZ ax ay bx b_y x0 y1))
    (H2 : ay < y0 → y0 ≤ b_y → Same (crossZ ax ay bx b_y x0 y0) (crossZ ax ay bx b_y x1 y0))
    (H3 : y1 < ay → b_y ≤ y1 → Same (crossZ ax ay bx b_y x0 y1) (crossZ ax ay bx b_y x1 y1)) :
    (ay < y0 ∧ b_y < y0) ∨ (y1 < ay ∧ y1 < b_y) ∨ Pos4 ax ay bx b_y x0 y0 x1 y1 ∨ Neg4 ax ay bx b_y x0 y0 x1 y1 := by
  have dx0 := cross_dx ax ay bx b_y x0 x1 y0
  have dx1 := cross_dx ax ay bx b_y x0 x1 y1
  have dy0 := cross_dy ax ay bx b_y x0 y0 y1
  have dy1 := cross_dy ax ay bx b_y x1 y0 y1
  have e0 : crossZ ax ay bx b_y x0 y0 = (bx - ax) * (y0 - ay) - (b_y - ay) * (x0 - ax) := rfl
  have e1 : crossZ ax ay bx b_y x0 y1 = (bx - ax) * (y1 - ay) - (b_y - ay) * (x0 - ax) := rfl
  have hE : 0 ≤ (bx - ax) * (y1 - y0) := Int.mul_nonneg (by omega) (by omega)
  have hT := mul_pos_lt (E := x0 - ax) (z := b_y - ay) (by omega)
  rw [Int.mul_comm (x0 - ax)] at hT
  unfold Pos4 Neg4
  unfold Same at H1 H2 H3
  rcases H1 with ⟨p0, p1⟩ | ⟨p0, p1⟩
  · by_cases hay : y0 ≤ ay
    · have k : 0 ≤ (bx - ax) * (ay - y0) := Int.mul_nonneg (by omega) (by omega)
      have k' : (bx - ax) * (y0 - ay) = -((bx - ax) * (ay - y0)) := by rw [← Int.mul_neg]; congr 1; omega
      have hD : b_y - ay < 0 := by rw [← hT.2]; omega
      have k2 : 0 ≤ (ay - b_y) * (x1 - x0) := Int.mul_nonneg (by omega) (by omega)
      have k3 : (b_y - ay) * (x1 - x0) = -((ay - b_y) * (x1 - x0)) := by rw [← Int.neg_mul]; congr 1; omega
      right; right; left
      omega
    · by_cases hby : y0 ≤ b_y
      · have := H2 (by omega) hby
        right; right; left
        omega
      · left; omega
  · by_cases hay : ay ≤ y1
    · have k : 0 ≤ (bx - ax) * (y1 - ay) := Int.mul_nonneg (by omega) (by omega)
      have hD : 0 < b_y - ay := by rw [← hT.1]; omega
      have k2 : 0 ≤ (b_y - ay) * (x1 - x0) := Int.mul_nonneg (by omega) (by omega)
      right; right; right
      omega
    · by_cases hby : b_y ≤ y1
      · have := H3 (by omega) hby
        right; right; right
        omega
      · right; left; omega
theorem cross_mirror (ax ay bx b_y x y : Int) : crossZ (-ax) ay (-bx) b_y (-x) y = -(crossZ ax ay bx b_y x y) := by unfold crossZ; grind
theorem core_right {ax ay bx b_y x0 y0 x1 y1 : Int} (hx : x0 ≤ x1) (hy : y0 ≤ y1) (ha : x1 < ax) (hb : bx ≤ x1)
    (H1 : Same (crossZ ax ay bx b_y x1 y0) (crossZ ax ay bx b_y x1 y1))
    (H2 : ay < y0 → y0 ≤ b_y → Same (crossZ ax ay bx b_y x0 y0) (crossZ ax ay bx b_y x1 y0))
    (H3 : y1 < ay → b_y ≤ y1 → Same (crossZ ax ay bx b_y x0 y1) (crossZ ax ay bx b_y x1 y1)) :
    (ay < y0 ∧ b_y < y0) ∨ (y1 < ay ∧ y1 < b_y) ∨ Pos4 ax ay bx b_y x0 y0 x1 y1 ∨ Neg4 ax ay bx b_y x0 y0 x1 y1 := by
  have := core_left (ax := -ax) (ay := ay) (bx := -bx) (b_y := b_y) (x0 := -x1) (y0 := y0) (x1 := -x0) (y1 := y1) (by omega) hy (by omega) (by omega)
    (by rw [cross_mirror, cross_mirror]; unfold Same at *; omega)
    (fun h h' => by have := H2 h h'; rw [cross_mirror, cross_mirror]; unfold Same at *; omega)
    (fun h h' => by have := H3 h h'; rw [cross_mirror, cross_mirror]; unfold Same at *; omega)
  unfold Pos4 Neg4 at *
  simp only [cross_mirror] at this
  omega
theorem core_mid {ax ay bx b_y x0 y0 x1 y1 : Int} (h1 : x0 ≤ ax) (h2 : ax ≤ x1) (h3 : x0 ≤ bx) (h4 : bx ≤ x1) (h5 : ay < y0) (h6 : y0 ≤ b_y) (H : Same (crossZ ax ay bx b_y x0 y0) (crossZ ax ay bx b_y x1 y0)) : False := by
  have e0 : crossZ ax ay bx b_y x0 y0 = (bx - ax) * (y0 - ay) - (b_y - ay) * (x0 - ax) := rfl
  have e1 : crossZ ax ay bx b_y x1 y0 = (bx - ax) * (y0 - ay) - (b_y - ay) * (x1 - ax) := rfl
  have k0 : 0 ≤ (b_y - ay) * (ax - x0) := Int.mul_nonneg (by omega) (by omega)
  have k1 : 0 ≤ (b_y - ay) * (x1 - ax) := Int.mul_nonneg (by omega) (by omega)
  have k2 : 0 ≤ (b_y - ay) * (bx - x0) := Int.mul_nonneg (by omega) (by omega)
  have k3 : 0 ≤ (b_y - ay) * (x1 - bx) := Int.mul_nonneg (by omega) (by omega)
  have f0 : (b_y - ay) * (x0 - ax) = -((b_y - ay) * (ax - x0)) := by rw [← Int.mul_neg]; congr 1; omega
  have f2 : (b_y - ay) * (bx - x0) = (b_y - ay) * (bx - ax) + (b_y - ay) * (ax - x0) := by rw [← Int.mul_add]; congr 1; omega
  have f3 : (b_y - ay) * (x1 - bx) = (b_y - ay) * (x1 - ax) - (b_y - ay) * (bx - ax) := by rw [← Int.mul_sub]; congr 1; omega
  unfold Same at H
  rcases Int.le_total ax bx with hE | hE
  · have g0 : 0 ≤ (bx - ax) * (y0 - ay) := Int.mul_nonneg (by omega) (by omega)
    have g1 : (bx - ax) * (y0 - ay) ≤ (bx - ax) * (b_y - ay) := Int.mul_le_mul_of_nonneg_left (by omega) (by omega)
    rw [Int.mul_comm (bx - ax) (b_y - ay)] at g1
    omega
  · have g0 : 0 ≤ (ax - bx) * (y0 - ay) := Int.mul_nonneg (by omega) (by omega)
    have g1 : (ax - bx) * (y0 - ay) ≤ (ax - bx) * (b_y - ay) := Int.mul_le_mul_of_nonneg_left (by omega) (by omega)
    have g2 : (bx - ax) * (y0 - ay) = -((ax - bx) * (y0 - ay)) := by rw [← Int.neg_mul]; congr 1; omega
    have g3 : (b_y - ay) * (bx - ax) = -((ax - bx) * (b_y - ay)) := by rw [← Int.neg_mul, Int.mul_comm]; congr 1; omega
    omega
def Out (ax ay x0 y0 x1 y1 : Int) : Prop := ax < x0 ∨ x1 < ax ∨ ay < y0 ∨ y1 < ay
def sidesZ (ax ay bx b_y x0 y0 x1 y1 : Int) : Bool :=
  crossB ax ay bx b_y x0 y0 x1 y0 || crossB ax ay bx b_y x1 y0 x1 y1 || crossB ax ay bx b_y x1 y1 x0 y1 || crossB ax ay bx b_y x0 y1 x0 y0
theorem sidesZ_flip (ax ay bx b_y x0 y0 x1 y1 : Int) : sidesZ bx b_y ax ay x0 y0 x1 y1 = sidesZ ax ay bx b_y x0 y0 x1 y1 := by
  unfold sidesZ; rw [cross_flip ax ay bx b_y, cross_flip ax ay bx b_y, cross_flip ax ay bx b_y, cross_flip ax ay bx b_y]
/-- a stretch lies apart from a box: beside it, or the box on one hand of its line -/
def Sep (ax ay bx b_y x0 y0 x1 y1 : Int) : Prop :=
  (ax < x0 ∧ bx < x0) ∨ (x1 < ax ∧ x1 < bx) ∨ (ay < y0 ∧ b_y < y0) ∨ (y1 < ay ∧ y1 < b_y) ∨ Pos4 ax ay bx b_y x0 y0 x1 y1 ∨ Neg4 ax ay bx b_y x0 y0 x1 y1
theorem sep_flip {ax ay bx b_y x0 y0 x1 y1 : Int} (h : Sep bx b_y ax ay x0 y0 x1 y1) : Sep ax ay bx b_y x0 y0 x1 y1 := by
  unfold Sep Pos4 Neg4 at *
  rw [cross_back ax ay bx b_y, cross_back ax ay bx b_y, cross_back ax ay bx b_y, cross_back ax ay bx b_y] at h
  omega
theorem sep_left (ax ay bx b_y x0 y0 x1 y1 : Int) (ha : ptB ax ay = true) (hb : ptB bx b_y = true) (hB : boxB x0 y0 x1 y1 = true) (h : sidesZ ax ay bx b_y x0 y0 x1 y1 = false) (hl : ax < x0 ∨ x1 < ax) : Sep ax ay bx b_y x0 y0 x1 y1 := by
  rw [boxB_iff] at hB
  obtain ⟨q0, q1, q2, q3, q4, q5⟩ := hB
  have p00 : ptB x0 y0 = true := by rw [ptB_iff]; omega
  have p10 : ptB x1 y0 = true := by rw [ptB_iff]; omega
  have p11 : ptB x1 y1 = true := by rw [ptB_iff]; omega
  have p01 : ptB x0 y1 = true := by rw [ptB_iff]; omega
  unfold sidesZ at h
  simp only [Bool.or_eq_false_iff] at h
  obtain ⟨⟨⟨n0, n1⟩, n2⟩, n3⟩ := h
  rw [crossB_back] at n2 n3
  have H2 : ay < y0 → y0 ≤ b_y → Same (crossZ ax ay bx b_y x0 y0) (crossZ ax ay bx b_y x1 y0) := fun h h' => side_h ax ay bx b_y y0 x0 x1 ha hb p00 p10 q1 (by omega) (by omega) (by omega) n0
  have H3 : y1 < ay → b_y ≤ y1 → Same (crossZ ax ay bx b_y x0 y1) (crossZ ax ay bx b_y x1 y1) := fun h h' => side_h ax ay bx b_y y1 x0 x1 ha hb p01 p11 q1 (by omega) (by omega) (by omega) n2
  unfold Sep
  rcases hl with hl | hl
  · by_cases hbx : x0 ≤ bx
    · have := core_left q1 q4 hl hbx (side_v ax ay bx b_y x0 y0 y1 ha hb p00 p01 q4 (by omega) (by omega) (by omega) n3) H2 H3
      rcases this with h | h | h | h
      · exact .inr (.inr (.inl h))
      · exact .inr (.inr (.inr (.inl h)))
      · exact .inr (.inr (.inr (.inr (.inl h))))
      · exact .inr (.inr (.inr (.inr (.inr h))))
    · left; omega
  · by_cases hbx : bx ≤ x1
    · have := core_right q1 q4 hl hbx (side_v ax ay bx b_y x1 y0 y1 ha hb p10 p11 q4 (by omega) (by omega) (by omega) n1) H2 H3
      rcases this with h | h | h | h
      · exact .inr (.inr (.inl h))
      · exact .inr (.inr (.inr (.inl h)))
      · exact .inr (.inr (.inr (.inr (.inl h))))
      · exact .inr (.inr (.inr (.inr (.inr h))))
    · right; left; omega
/-- a stretch whose ends lie outside of a box and that crosses none of its sides lies apart from it -/
theorem sep_any (ax ay bx b_y x0 y0 x1 y1 : Int) (ha : ptB ax ay = true) (hb : ptB bx b_y = true) (hB : boxB x0 y0 x1 y1 = true) (oa : Out ax ay x0 y0 x1 y1) (ob : Out bx b_y x0 y0 x1 y1) (h : sidesZ ax ay bx b_y x0 y0 x1 y1 = false) : Sep ax ay bx b_y x0 y0 x1 y1 := by
  by_cases hl : ax < x0 ∨ x1 < ax
  · exact sep_left ax ay bx b_y x0 y0 x1 y1 ha hb hB h hl
  by_cases hl' : bx < x0 ∨ x1 < bx
  · exact sep_flip (sep_left bx b_y ax ay x0 y0 x1 y1 hb ha hB (by rw [sidesZ_flip]; exact h) hl')
  rw [boxB_iff] at hB
  obtain ⟨q0, q1, q2, q3, q4, q5⟩ := hB
  have p00 : ptB x0 y0 = true := by rw [ptB_iff]; omega
  have p10 : ptB x1 y0 = true := by rw [ptB_iff]; omega
  unfold sidesZ at h
  simp only [Bool.or_eq_false_iff] at h
  obtain ⟨⟨⟨n0, n1⟩, n2⟩, n3⟩ := h
  unfold Out at oa ob
  by_cases ca : ay < y0
  · by_cases cb : b_y < y0
    · exact .inr (.inr (.inl ⟨ca, cb⟩))
    · exact (core_mid (ax := ax) (ay := ay) (bx := bx) (b_y := b_y) (x0 := x0) (y0 := y0) (x1 := x1) (y1 := y1) (by omega) (by omega) (by omega) (by omega) ca (by omega) (side_h ax ay bx b_y y0 x0 x1 ha hb p00 p10 q1 (by omega) (by omega) (by omega) n0)).elim
  · by_cases cb : b_y < y0
    · refine (core_mid (ax := bx) (ay := b_y) (bx := ax) (b_y := ay) (x0 := x0) (y0 := y0) (x1 := x1) (y1 := y1) (by omega) (by omega) (by omega) (by omega) cb (by omega) (side_h bx b_y ax ay y0 x0 x1 hb ha p00 p10 q1 (by omega) (by omega) (by omega) ?_)).elim
      rw [cross_flip]; exact n0
    · exact .inr (.inr (.inr (.inl (by omega))))
/-- what holds of a line's hand at a box's corners holds within it -/
theorem pos4_all {ax ay bx b_y x0 y0 x1 y1 x y : Int} (h : Pos4 ax ay bx b_y x0 y0 x1 y1) (hx : x0 ≤ x) (hx' : x ≤ x1) (hy : y0 ≤ y) (hy' : y ≤ y1) : 0 < crossZ ax ay bx b_y x y := by
  have g : ∀ X Y : Int, crossZ ax ay bx b_y x y = crossZ ax ay bx b_y X Y + (bx - ax) * (y - Y) - (b_y - ay) * (x - X) := by intro X Y; unfold crossZ; grind
  have m : ∀ E : Int, (0 ≤ E → 0 ≤ E * (y - y0)) ∧ (E ≤ 0 → 0 ≤ E * (y - y1)) := fun E =>
    ⟨fun h => Int.mul_nonneg h (by omega), fun h => by have := Int.mul_nonneg (a := -E) (b := y1 - y) (by omega) (by omega); have e : E * (y - y1) = (-E) * (y1 - y) := by rw [Int.neg_mul, ← Int.mul_neg]; congr 1; omega
                                                       omega⟩
  have m' : ∀ D : Int, (0 ≤ D → D * (x - x1) ≤ 0) ∧ (D ≤ 0 → D * (x - x0) ≤ 0) := fun D =>
    ⟨fun h => by have := Int.mul_nonneg (a := D) (b := x1 - x) (by omega) (by omega); have e : D * (x - x1) = -(D * (x1 - x)) := by rw [← Int.mul_neg]; congr 1; omega
                 omega, fun h => by have := Int.mul_nonneg (a := -D) (b := x - x0) (by omega) (by omega); have e : D * (x - x0) = -((-D) * (x - x0)) := by rw [Int.neg_mul, Int.neg_neg]
                                    omega⟩
  obtain ⟨h1, h2, h3, h4⟩ := h
  rcases Int.le_total 0 (bx - ax) with hE | hE <;> rcases Int.le_total 0 (b_y - ay) with hD | hD
  · have := g x1 y0; have := (m _).1 hE; have := (m' _).1 hD; omega
  · have := g x0 y0; have := (m _).1 hE; have := (m' _).2 hD; omega
  · have := g x1 y1; have := (m _).2 hE; have := (m' _).1 hD; omega
  · have := g x0 y1; have := (m _).2 hE; have := (m' _).2 hD; omega
theorem neg4_all {ax ay bx b_y x0 y0 x1 y1 x y : Int} (h : Neg4 ax ay bx b_y x0 y0 x1 y1) (hx : x0 ≤ x) (hx' : x ≤ x1) (hy : y0 ≤ y) (hy' : y ≤ y1) : crossZ ax ay bx b_y x y < 0 := by
  have h2 : Pos4 bx b_y ax ay x0 y0 x1 y1 := by
    unfold Pos4 Neg4 at *
    rw [cross_back ax ay bx b_y, cross_back ax ay bx b_y, cross_back ax ay bx b_y, cross_back ax ay bx b_y]
    omega
  have := pos4_all h2 hx hx' hy hy'
  rw [cross_back ax ay bx b_y] at this
  omega
/-- a stretch apart from a box has none of its places -/
theorem sep_on {ax ay bx b_y x0 y0 x1 y1 x y : Int} (h : Sep ax ay bx b_y x0 y0 x1 y1) (hx : x0 ≤ x) (hx' : x ≤ x1) (hy : y0 ≤ y) (hy' : y ≤ y1) : onB x y ax ay bx b_y = false := by
  rw [← Bool.not_eq_true]
  intro hon
  have hw := on_within hon
  have hz : crossZ ax ay bx b_y x y = 0 := by
    unfold onB at hon
    rw [Bool.and_eq_true, decide_eq_true_eq] at hon
    exact sg_zero.1 hon.1
  rcases h with h | h | h | h | h | h
  · omega
  · omega
  · omega
  · omega
  · have := pos4_all h hx hx' hy hy'; omega
  · have := neg4_all h hx hx' hy hy'; omega
/-- does a ray toward greater X go over a stretch -/
def overZ (px py ax ay bx b_y : Int) : Bool :=
  if (decide (py < ay) == decide (py < b_y)) = true then false
  else if b_y < ay then decide (0 < turnZ bx b_y ax ay px py) else decide (0 < turnZ ax ay bx b_y px py)
theorem over_flip (px py ax ay bx b_y : Int) : overZ px py bx b_y ax ay = overZ px py ax ay bx b_y := by
  unfold overZ
  by_cases h : (decide (py < ay) == decide (py < b_y)) = true
  · rw [if_pos h, if_pos (by rw [beq_iff_eq] at *; exact h.symm)]
  · rw [if_neg h, if_neg (by rw [beq_iff_eq] at *; exact fun e => h e.symm)]
    by_cases h1 : b_y < ay
    · rw [if_pos h1, if_neg (by omega)]
    · by_cases h2 : ay < b_y
      · rw [if_neg h1, if_pos h2]
      · have : ay = b_y := by omega
        subst this
        simp at h
/-- an end of a stretch: does it lie between two heights, to greater X of a box -/
def beyond (x1 py qy vx vy : Int) : Bool := (decide (py < vy) != decide (qy < vy)) && decide (x1 < vx)
theorem over_up {px py ax ay bx b_y : Int} (h : ay ≤ b_y) : overZ px py ax ay bx b_y = ((decide (py < ay) != decide (py < b_y)) && decide (0 < crossZ ax ay bx b_y px py)) := by
  unfold overZ turnZ
  have e : decide (0 < sg (crossZ ax ay bx b_y px py)) = decide (0 < crossZ ax ay bx b_y px py) := decide_eq_decide.2 sg_pos
  rw [if_neg (by omega : ¬ b_y < ay), e]
  cases h1 : decide (py < ay) <;> cases h2 : decide (py < b_y) <;> simp
theorem over_move_up {ax ay bx b_y x0 y0 x1 y1 px py qx qy : Int} (h : Sep ax ay bx b_y x0 y0 x1 y1) (oa : Out ax ay x0 y0 x1 y1) (ob : Out bx b_y x0 y0 x1 y1)
    (p0 : x0 ≤ px) (p1 : px ≤ x1) (p2 : y0 ≤ py) (p3 : py ≤ y1) (q0 : x0 ≤ qx) (q1 : qx ≤ x1) (q2 : y0 ≤ qy) (q3 : qy ≤ y1) (hup : ay ≤ b_y) :
    (overZ px py ax ay bx b_y != overZ qx qy ax ay bx b_y) = (beyond x1 py qy ax ay != beyond x1 py qy bx b_y) := by
  rw [over_up hup, over_up hup]
  unfold beyond
  have dec : ∀ {p : Prop} [Decidable p], p → decide p = true := fun h => decide_eq_true h
  have decn : ∀ {p : Prop} [Decidable p], ¬ p → decide p = false := fun h => decide_eq_false h
  rcases h with h | h | h | h | h | h
  · have k : ∀ x y : Int, x0 ≤ x → (decide (y < ay) != decide (y < b_y)) = true → ¬ 0 < crossZ ax ay bx b_y x y := by
      intro x y hx hy hc
      have hyy : ay ≤ y ∧ y < b_y := by
        by_cases c1 : y < ay <;> by_cases c2 : y < b_y <;> simp [c1, c2] at hy <;> omega
      have e : crossZ ax ay bx b_y x y = (bx - x) * (y - ay) + (x - ax) * (y - b_y) := by unfold crossZ; grind
      have k1 : 0 ≤ (x - bx) * (y - ay) := Int.mul_nonneg (by omega) (by omega)
      have k2 : 0 ≤ (x - ax) * (b_y - y) := Int.mul_nonneg (by omega) (by omega)
      have e1 : (bx - x) * (y - ay) = -((x - bx) * (y - ay)) := by rw [← Int.neg_mul]; congr 1; omega
      have e2 : (x - ax) * (y - b_y) = -((x - ax) * (b_y - y)) := by rw [← Int.mul_neg]; congr 1; omega
      omega
    have k' : ∀ x y : Int, x0 ≤ x → ((decide (y < ay) != decide (y < b_y)) && decide (0 < crossZ ax ay bx b_y x y)) = false := by
      intro x y hx
      cases hc : (decide (y < ay) != decide (y < b_y))
      · rfl
      · rw [decn (k x y hx hc)]; rfl
    rw [k' px py p0, k' qx qy q0, decn (by omega : ¬ x1 < ax), decn (by omega : ¬ x1 < bx), Bool.and_false, Bool.and_false]
  · have k : ∀ x y : Int, x ≤ x1 → (decide (y < ay) != decide (y < b_y)) = true → 0 < crossZ ax ay bx b_y x y := by
      intro x y hx hy
      have hyy : ay ≤ y ∧ y < b_y := by
        by_cases c1 : y < ay <;> by_cases c2 : y < b_y <;> simp [c1, c2] at hy <;> omega
      have e : crossZ ax ay bx b_y x y = (bx - x) * (y - ay) + (x - ax) * (y - b_y) := by unfold crossZ; grind
      have k1 : 0 ≤ (bx - x) * (y - ay) := Int.mul_nonneg (by omega) (by omega)
      have k2 : 0 < (ax - x) * (b_y - y) := Int.mul_pos (by omega) (by omega)
      have e2 : (x - ax) * (y - b_y) = (ax - x) * (b_y - y) := by grind
      omega
    have k' : ∀ x y : Int, x ≤ x1 → ((decide (y < ay) != decide (y < b_y)) && decide (0 < crossZ ax ay bx b_y x y)) = (decide (y < ay) != decide (y < b_y)) := by
      intro x y hx
      cases hc : (decide (y < ay) != decide (y < b_y))
      · rfl
      · rw [dec (k x y hx hc)]; rfl
    rw [k' px py p1, k' qx qy q1, dec (by omega : x1 < ax), dec (by omega : x1 < bx), Bool.and_true, Bool.and_true]
    generalize decide (py < ay) = u1
    generalize decide (py < b_y) = u2
    generalize decide (qy < ay) = u3
    generalize decide (qy < b_y) = u4
    cases u1 <;> cases u2 <;> cases u3 <;> cases u4 <;> rfl
  · rw [decn (by omega : ¬ py < ay), decn (by omega : ¬ py < b_y), decn (by omega : ¬ qy < ay), decn (by omega : ¬ qy < b_y)]
    rfl
  · rw [dec (by omega : py < ay), dec (by omega : py < b_y), dec (by omega : qy < ay), dec (by omega : qy < b_y)]
    rfl
  · rw [dec (pos4_all h p0 p1 p2 p3), dec (pos4_all h q0 q1 q2 q3), Bool.and_true, Bool.and_true]
    have ka : ay ≥ y0 → ay ≤ y1 → x1 < ax := by
      intro ha ha'
      unfold Out at oa
      refine Int.not_le.1 fun hl => ?_
      have := pos4_all h (x := x0) (y := ay) (by omega) (by omega) ha ha'
      have e : crossZ ax ay bx b_y x0 ay = -((b_y - ay) * (x0 - ax)) := by unfold crossZ; rw [Int.sub_self, Int.mul_zero, Int.zero_sub]
      have := Int.mul_nonneg (a := b_y - ay) (b := x0 - ax) (by omega) (by omega)
      omega
    have kb : b_y ≥ y0 → b_y ≤ y1 → x1 < bx := by
      intro ha ha'
      unfold Out at ob
      refine Int.not_le.1 fun hl => ?_
      have := pos4_all h (x := x0) (y := b_y) (by omega) (by omega) ha ha'
      have e : crossZ ax ay bx b_y x0 b_y = -((b_y - ay) * (x0 - bx)) := by unfold crossZ; grind
      have := Int.mul_nonneg (a := b_y - ay) (b := x0 - bx) (by omega) (by omega)
      omega
    have e : ∀ v x, (v ≥ y0 → v ≤ y1 → x1 < x) → ((decide (py < v) != decide (qy < v)) && decide (x1 < x)) = (decide (py < v) != decide (qy < v)) := by
      intro v x hv
      by_cases c1 : py < v <;> by_cases c2 : qy < v
      · simp [c1, c2]
      · rw [dec (hv (by omega) (by omega)), Bool.and_true]
      · rw [dec (hv (by omega) (by omega)), Bool.and_true]
      · simp [c1, c2]
    rw [e ay ax ka, e b_y bx kb]
    generalize decide (py < ay) = u1
    generalize decide (py < b_y) = u2
    generalize decide (qy < ay) = u3
    generalize decide (qy < b_y) = u4
    cases u1 <;> cases u2 <;> cases u3 <;> cases u4 <;> rfl
  · have g1 := neg4_all h p0 p1 p2 p3
    have g2 := neg4_all h q0 q1 q2 q3
    rw [decn (by omega : ¬ 0 < crossZ ax ay bx b_y px py), decn (by omega : ¬ 0 < crossZ ax ay bx b_y qx qy), Bool.and_false, Bool.and_false]
    have ka : ay ≥ y0 → ay ≤ y1 → ¬ x1 < ax := by
      intro ha ha' hl
      have := neg4_all h (x := x1) (y := ay) (by omega) (by omega) ha ha'
      have e : crossZ ax ay bx b_y x1 ay = (b_y - ay) * (ax - x1) := by unfold crossZ; grind
      have := Int.mul_nonneg (a := b_y - ay) (b := ax - x1) (by omega) (by omega)
      omega
    have kb : b_y ≥ y0 → b_y ≤ y1 → ¬ x1 < bx := by
      intro ha ha' hl
      have := neg4_all h (x := x1) (y := b_y) (by omega) (by omega) ha ha'
      have e : crossZ ax ay bx b_y x1 b_y = (b_y - ay) * (bx - x1) := by unfold crossZ; grind
      have := Int.mul_nonneg (a := b_y - ay) (b := bx - x1) (by omega) (by omega)
      omega
    have e : ∀ v x, (v ≥ y0 → v ≤ y1 → ¬ x1 < x) → ((decide (py < v) != decide (qy < v)) && decide (x1 < x)) = false := by
      intro v x hv
      by_cases c1 : py < v <;> by_cases c2 : qy < v
      · simp [c1, c2]
      · rw [decn (hv (by omega) (by omega)), Bool.and_false]
      · rw [decn (hv (by omega) (by omega)), Bool.and_false]
      · simp [c1, c2]
    rw [e ay ax ka, e b_y bx kb]
/-- from one place of a box to another: what a ray goes over changes by the ends beyond -/
theorem over_move {ax ay bx b_y x0 y0 x1 y1 px py qx qy : Int} (h : Sep ax ay bx b_y x0 y0 x1 y1) (oa : Out ax ay x0 y0 x1 y1) (ob : Out bx b_y x0 y0 x1 y1)
    (p0 : x0 ≤ px) (p1 : px ≤ x1) (p2 : y0 ≤ py) (p3 : py ≤ y1) (q0 : x0 ≤ qx) (q1 : qx ≤ x1) (q2 : y0 ≤ qy) (q3 : qy ≤ y1) :
    (overZ px py ax ay bx b_y != overZ qx qy ax ay bx b_y) = (beyond x1 py qy ax ay != beyond x1 py qy bx b_y) := by
  rcases Int.le_total ay b_y with hup | hup
  · exact over_move_up h oa ob p0 p1 p2 p3 q0 q1 q2 q3 hup
  · rw [← over_flip px py ax ay, ← over_flip qx qy ax ay, over_move_up (sep_flip h) ob oa p0 p1 p2 p3 q0 q1 q2 q3 hup]
    generalize beyond x1 py qy bx b_y = u1
    generalize beyond x1 py qy ax ay = u2
    cases u1 <;> cases u2 <;> rfl
/-- a ray from beyond all ends -/
theorem over_east {px py ax ay bx b_y : Int} (ha : ax < px) (hb : bx < px) : overZ px py ax ay bx b_y = false := by
  have go : ∀ ax ay bx b_y : Int, ax < px → bx < px → ay ≤ b_y → overZ px py ax ay bx b_y = false := by
    intro ax ay bx b_y ha hb hup
    rw [over_up hup]
    cases hc : (decide (py < ay) != decide (py < b_y))
    · rfl
    · have hyy : ay ≤ py ∧ py < b_y := by
        by_cases c1 : py < ay <;> by_cases c2 : py < b_y <;> simp [c1, c2] at hc <;> omega
      have e : crossZ ax ay bx b_y px py = (bx - px) * (py - ay) + (px - ax) * (py - b_y) := by unfold crossZ; grind
      have k1 : 0 ≤ (px - bx) * (py - ay) := Int.mul_nonneg (by omega) (by omega)
      have k2 : 0 ≤ (px - ax) * (b_y - py) := Int.mul_nonneg (by omega) (by omega)
      have e1 : (bx - px) * (py - ay) = -((px - bx) * (py - ay)) := by rw [← Int.neg_mul]; congr 1; omega
      have e2 : (px - ax) * (py - b_y) = -((px - ax) * (b_y - py)) := by rw [← Int.mul_neg]; congr 1; omega
      rw [decide_eq_false (by omega)]
      rfl
  rcases Int.le_total ay b_y with hup | hup
  · exact go ax ay bx b_y ha hb hup
  · rw [← over_flip]; exact go bx b_y ax ay hb ha hup
theorem over_west {px py ax ay bx b_y : Int} (ha : px < ax) (hb : px < bx) : overZ px py ax ay bx b_y = (decide (py < ay) != decide (py < b_y)) := by
  have go : ∀ ax ay bx b_y : Int, px < ax → px < bx → ay ≤ b_y → overZ px py ax ay bx b_y = (decide (py < ay) != decide (py < b_y)) := by
    intro ax ay bx b_y ha hb hup
    rw [over_up hup]
    cases hc : (decide (py < ay) != decide (py < b_y))
    · rfl
    · have hyy : ay ≤ py ∧ py < b_y := by
        by_cases c1 : py < ay <;> by_cases c2 : py < b_y <;> simp [c1, c2] at hc <;> omega
      have e : crossZ ax ay bx b_y px py = (bx - px) * (py - ay) + (px - ax) * (py - b_y) := by unfold crossZ; grind
      have k1 : 0 ≤ (bx - px) * (py - ay) := Int.mul_nonneg (by omega) (by omega)
      have k2 : 0 < (ax - px) * (b_y - py) := Int.mul_pos (by omega) (by omega)
      have e2 : (px - ax) * (py - b_y) = (ax - px) * (b_y - py) := by grind
      rw [decide_eq_true (by omega)]
      rfl
  rcases Int.le_total ay b_y with hup | hup
  · exact go ax ay bx b_y ha hb hup
  · rw [← over_flip, go bx b_y ax ay hb ha hup]
    generalize decide (py < ay) = u1
    generalize decide (py < b_y) = u2
    cases u1 <;> cases u2 <;> rfl
theorem over_flatY {px py ax ay bx b_y : Int} (h : decide (py < ay) = decide (py < b_y)) : overZ px py ax ay bx b_y = false := by
  unfold overZ
  rw [h, if_pos (by simp)]
end Go.Proofs.Ytmednnpmkhgfpaa.Geo
end
