/- Plain geometry of whole numbers: what the document says of points, boxes, turns, stretches and distances. No program, no condition. -/
import Derived.RowKit
namespace Go.Proofs.Ytmednnpmkhgfpaa.Geo

def coordB (x : Int) : Bool := decide (0 ≤ x) && decide (x ≤ 4294967295)
def ptB (x y : Int) : Bool := coordB x && coordB y
def boxB (a b c d : Int) : Bool := coordB a && coordB b && coordB c && coordB d && decide (a ≤ c) && decide (b ≤ d)
/-- the sign of a number -/
def sg (n : Int) : Int := if n < 0 then -1 else if 0 < n then 1 else 0
/-- the cross product of b - a and c - a, and its sign -/
def crossZ (ax ay bx b_y cx cy : Int) : Int := (bx - ax) * (cy - ay) - (b_y - ay) * (cx - ax)
def turnZ (ax ay bx b_y cx cy : Int) : Int := sg (crossZ ax ay bx b_y cx cy)
def withinB (px py x0 y0 x1 y1 : Int) : Bool := ptB px py && boxB x0 y0 x1 y1 && decide (x0 ≤ px) && decide (px ≤ x1) && decide (y0 ≤ py) && decide (py ≤ y1)
def onB (px py ax ay bx b_y : Int) : Bool := decide (turnZ ax ay bx b_y px py = 0) && withinB px py (min ax bx) (min ay b_y) (max ax bx) (max ay b_y)
def crossB (ax ay bx b_y cx cy dx dy : Int) : Bool :=
  onB cx cy ax ay bx b_y || onB dx dy ax ay bx b_y || onB ax ay cx cy dx dy || onB bx b_y cx cy dx dy ||
    (decide (turnZ ax ay bx b_y cx cy * turnZ ax ay bx b_y dx dy < 0) && decide (turnZ cx cy dx dy ax ay * turnZ cx cy dx dy bx b_y < 0))
def meetB (a0 a1 a2 a3 b0 b1 b2 b3 : Int) : Bool := boxB a0 a1 a2 a3 && boxB b0 b1 b2 b3 && decide (a0 ≤ b2) && decide (b0 ≤ a2) && decide (a1 ≤ b3) && decide (b1 ≤ a3)
/-- how far a number lies from a stretch -/
def gap (lo hi x : Int) : Int := max (lo - x) (max 0 (x - hi))
def farZ (px py x0 y0 x1 y1 : Int) : Int := gap x0 x1 px * gap x0 x1 px + gap y0 y1 py * gap y0 y1 py

theorem coordB_iff {x : Int} : coordB x = true ↔ 0 ≤ x ∧ x ≤ 4294967295 := by simp [coordB]
theorem ptB_iff {x y : Int} : ptB x y = true ↔ (0 ≤ x ∧ x ≤ 4294967295) ∧ (0 ≤ y ∧ y ≤ 4294967295) := by simp [ptB, coordB]
theorem boxB_iff {a b c d : Int} : boxB a b c d = true ↔ 0 ≤ a ∧ a ≤ c ∧ c ≤ 4294967295 ∧ 0 ≤ b ∧ b ≤ d ∧ d ≤ 4294967295 := by
  simp [boxB, coordB]; omega
theorem withinB_iff {px py x0 y0 x1 y1 : Int} : withinB px py x0 y0 x1 y1 = true ↔ 0 ≤ x0 ∧ x0 ≤ px ∧ px ≤ x1 ∧ x1 ≤ 4294967295 ∧ 0 ≤ y0 ∧ y0 ≤ py ∧ py ≤ y1 ∧ y1 ≤ 4294967295 := by
  simp only [withinB, Bool.and_eq_true, ptB_iff, boxB_iff, decide_eq_true_eq]; omega
theorem meetB_iff {a0 a1 a2 a3 b0 b1 b2 b3 : Int} : meetB a0 a1 a2 a3 b0 b1 b2 b3 = true ↔ (0 ≤ a0 ∧ a0 ≤ a2 ∧ a2 ≤ 4294967295 ∧ 0 ≤ a1 ∧ a1 ≤ a3 ∧ a3 ≤ 4294967295) ∧ (0 ≤ b0 ∧ b0 ≤ b2 ∧ b2 ≤ 4294967295 ∧ 0 ≤ b1 ∧ b1 ≤ b3 ∧ b3 ≤ 4294967295) ∧ a0 ≤ b2 ∧ b0 ≤ a2 ∧ a1 ≤ b3 ∧ b1 ≤ a3 := by
  simp only [meetB, Bool.and_eq_true, boxB_iff, decide_eq_true_eq, and_assoc]
theorem sg_range (n : Int) : sg n = -1 ∨ sg n = 0 ∨ sg n = 1 := by
  unfold sg
  repeat' split
  all_goals first | omega | simp
theorem sg_neg (n : Int) : sg (-n) = -(sg n) := by
  unfold sg
  repeat' split
  all_goals first | omega | simp
theorem sg_zero {n : Int} : sg n = 0 ↔ n = 0 := by
  unfold sg
  repeat' split
  all_goals first | omega | simp
theorem sg_pos {n : Int} : 0 < sg n ↔ 0 < n := by
  unfold sg
  repeat' split
  all_goals first | omega | simp
theorem sg_lt {n : Int} : sg n < 0 ↔ n < 0 := by
  unfold sg
  repeat' split
  all_goals first | omega | simp
theorem gap_bd {lo hi x : Int} (l0 : 0 ≤ lo) (h1 : hi ≤ 4294967295) (x0 : 0 ≤ x) (x1 : x ≤ 4294967295) (lh : lo ≤ hi) : 0 ≤ gap lo hi x ∧ gap lo hi x ≤ 4294967295 := by unfold gap; omega
theorem sq_bd {n : Int} (h0 : 0 ≤ n) (h1 : n ≤ 4294967295) : 0 ≤ n * n ∧ n * n ≤ 18446744065119617025 :=
  ⟨Int.mul_nonneg h0 h0, by have := Int.mul_le_mul h1 h1 h0 (by omega); omega⟩
end Go.Proofs.Ytmednnpmkhgfpaa.Geo
