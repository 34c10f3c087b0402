/- Plain laws of squares, of a square with a square hole, of a line of two points. Condition: as said at each. -/
import Derived.Test.YtmednnpmkhgfpaaShT
namespace Go.Proofs.Ytmednnpmkhgfpaa.SH
open Go Go.RowKit Go.Proofs.YtmednnpmkhgfpaaW.PrintWords Go.Proofs.Ytmednnpmkhgfpaa.PShapes Go.Proofs.Ytmednnpmkhgfpaa.Geo
set_option linter.unusedVariables false
set_option linter.unusedSimpArgs false

def sq (b : Bx) : List S23 := [⟨b.x0, b.y0⟩, ⟨b.x1, b.y0⟩, ⟨b.x1, b.y1⟩, ⟨b.x0, b.y1⟩]
theorem sq_sts (b : Bx) : ringSt 2 (sq b) = [(⟨b.x0, b.y0⟩, ⟨b.x1, b.y0⟩), (⟨b.x1, b.y0⟩, ⟨b.x1, b.y1⟩), (⟨b.x1, b.y1⟩, ⟨b.x0, b.y1⟩), (⟨b.x0, b.y1⟩, ⟨b.x0, b.y0⟩)] := rfl
theorem on_hor {px py ax bx y : Int} (hp : ptB px py = true) (ha : ptB ax y = true) (hb : ptB bx y = true) : onB px py ax y bx y = true ↔ py = y ∧ min ax bx ≤ px ∧ px ≤ max ax bx := by
  constructor
  · intro h
    have := on_within h
    omega
  · rintro ⟨rfl, h1, h2⟩
    rw [← on_flat]
    refine on_v py px ax bx ?_ ?_ ?_ h1 h2 <;> rw [ptB_iff] at * <;> omega
theorem on_ver {px py ay b_y x : Int} (hp : ptB px py = true) (ha : ptB x ay = true) (hb : ptB x b_y = true) : onB px py x ay x b_y = true ↔ px = x ∧ min ay b_y ≤ py ∧ py ≤ max ay b_y := by
  constructor
  · intro h
    have := on_within h
    omega
  · rintro ⟨rfl, h1, h2⟩
    exact on_v px py ay b_y hp ha hb h1 h2
theorem over_hor (px py ax bx y : Int) : overZ px py ax y bx y = false := over_flatY rfl
theorem over_ver {px py ay b_y x : Int} (h : ay < b_y) : overZ px py x ay x b_y = decide (ay ≤ py ∧ py < b_y ∧ px < x) := by
  rw [over_up (by omega)]
  have e : crossZ x ay x b_y px py = (b_y - ay) * (x - px) := by unfold crossZ; grind
  have k := mul_pos_lt (E := b_y - ay) (z := x - px) (by omega)
  have e2 : decide (0 < (b_y - ay) * (x - px)) = decide (0 < x - px) := decide_eq_decide.2 k.1
  rw [e, e2, Bool.eq_iff_iff]
  simp only [Bool.and_eq_true, bne_iff_ne, ne_eq, decide_eq_decide, decide_eq_true_eq]
  omega
structure Sq (b : Bx) : Prop where
  may : bxMay b = true
  hx : b.x0 < b.x1
  hy : b.y0 < b.y1
theorem Sq.corners {b : Bx} (h : Sq b) : ptB b.x0 b.y0 = true ∧ ptB b.x1 b.y0 = true ∧ ptB b.x1 b.y1 = true ∧ ptB b.x0 b.y1 = true := by
  have := h.may
  rw [bxMay_iff] at this
  simp only [ptB_iff]
  omega
theorem sq_on {b : Bx} (h : Sq b) {p : S23} (hp : ptP p = true) : onAny p (ringSt 2 (sq b)) = true ↔ b.x0 ≤ p.f0 ∧ p.f0 ≤ b.x1 ∧ b.y0 ≤ p.f1 ∧ p.f1 ≤ b.y1 ∧ (p.f0 = b.x0 ∨ p.f0 = b.x1 ∨ p.f1 = b.y0 ∨ p.f1 = b.y1) := by
  obtain ⟨c0, c1, c2, c3⟩ := h.corners
  have hx := h.hx
  have hy := h.hy
  rw [sq_sts]
  unfold onAny onP
  simp only [List.any_cons, List.any_nil, Bool.or_eq_true, Bool.or_false]
  rw [on_hor hp c0 c1, on_ver hp c1 c2, on_hor hp c2 c3, on_ver hp c3 c0]
  omega
theorem sq_odd {b : Bx} (h : Sq b) (p : S23) : oddOf p (ringSt 2 (sq b)) = decide (b.x0 ≤ p.f0 ∧ p.f0 < b.x1 ∧ b.y0 ≤ p.f1 ∧ p.f1 < b.y1) := by
  have hx := h.hx
  have hy := h.hy
  rw [sq_sts, odd_is, xorL_cons, xorL_cons, xorL_cons, xorL_cons, xorL_nil]
  dsimp only
  rw [over_hor, over_hor, over_ver hy, ← over_flip, over_ver hy, Bool.eq_iff_iff]
  by_cases g1 : b.y0 ≤ p.f1 ∧ p.f1 < b.y1 ∧ p.f0 < b.x1 <;> by_cases g2 : b.y0 ≤ p.f1 ∧ p.f1 < b.y1 ∧ p.f0 < b.x0
  · rw [decide_eq_true g1, decide_eq_true g2, decide_eq_true_eq]; simp; omega
  · rw [decide_eq_true g1, decide_eq_false g2, decide_eq_true_eq]; simp; omega
  · omega
  · rw [decide_eq_false g1, decide_eq_false g2, decide_eq_true_eq]; simp; omega
theorem sq_ring {b : Bx} (h : Sq b) : ringB (sq b) 3 true = true := by
  obtain ⟨c0, c1, c2, c3⟩ := h.corners
  have hx := h.hx
  have hy := h.hy
  rw [ring_iff]
  refine ⟨by simp [sq], by simp [sq], fun k hk => ?_⟩
  have hk4 : k < 4 := hk
  have ne : ∀ {p q : S23}, (p.f0 ≠ q.f0 ∨ p.f1 ≠ q.f1) → eqP p q = false := by
    intro p q h
    rw [eqP_false]
    rintro rfl
    omega
  have hcase : k = 0 ∨ k = 1 ∨ k = 2 ∨ k = 3 := by omega
  rcases hcase with rfl | rfl | rfl | rfl
  · show (ptB b.x0 b.y0 && !((true) && eqP ⟨b.x0, b.y0⟩ ⟨b.x1, b.y0⟩)) = true
    rw [c0, ne (.inl (by show b.x0 ≠ b.x1; omega))]; rfl
  · show (ptB b.x1 b.y0 && !((true) && eqP ⟨b.x1, b.y0⟩ ⟨b.x1, b.y1⟩)) = true
    rw [c1, ne (.inr (by show b.y0 ≠ b.y1; omega))]; rfl
  · show (ptB b.x1 b.y1 && !((true) && eqP ⟨b.x1, b.y1⟩ ⟨b.x0, b.y1⟩)) = true
    rw [c2, ne (.inl (by show b.x1 ≠ b.x0; omega))]; rfl
  · show (ptB b.x0 b.y1 && !((true) && eqP ⟨b.x0, b.y1⟩ ⟨b.x0, b.y0⟩)) = true
    rw [c3, ne (.inr (by show b.y1 ≠ b.y0; omega))]; rfl
def sqF (id : Int) (b : Bx) : Ft := ⟨id, 2, [sq b]⟩
theorem sqF_may {id : Int} {b : Bx} (h : Sq b) (h1 : 1 ≤ id) (h2 : id ≤ 65535) : mayB (sqF id b) = true := by
  rw [may_iff]
  refine ⟨h1, h2, by simp [sqF], by simp [sqF], .inr (.inr ⟨rfl, ?_⟩)⟩
  intro ps hps
  simp only [sqF, List.mem_singleton] at hps
  subst hps
  exact sq_ring h
theorem sqF_has {id : Int} {b : Bx} (h : Sq b) {p : S23} (hp : ptP p = true) : hasB (sqF id b) p = inB b p := by
  have hx := h.hx
  have hy := h.hy
  unfold hasB sqF
  dsimp only
  rw [if_neg (by decide), show stsOf 2 [sq b] = ringSt 2 (sq b) from List.append_nil _, Bool.eq_iff_iff, in_iff h.may, Bool.or_eq_true, Bool.and_eq_true, sq_on h hp, sq_odd h, decide_eq_true_eq]
  simp only [beq_self_eq_true, and_true]
  omega
theorem sqF_box {id : Int} {b : Bx} (h : Sq b) (h1 : 1 ≤ id) (h2 : id ≤ 65535) : boxV (sqF id b) = b := by
  have hx := h.hx
  have hy := h.hy
  have e : boxL (⟨b.x0, b.y0⟩ : S23) (sq b) = b := by
    unfold boxL sq atB
    simp only [List.foldl_cons, List.foldl_nil, joinP]
    cases b
    simp only [Bx.mk.injEq]
    simp only at hx hy
    omega
  unfold boxV
  rw [if_pos (sqF_may h h1 h2)]
  show boxL (⟨b.x0, b.y0⟩ : S23) ([sq b].flatten) = b
  rw [show [sq b].flatten = sq b from List.append_nil _]
  exact e
/-- a polygon around a box meets what its box meets -/
theorem sqF_meets {id : Int} {b c : Bx} (h : Sq b) (h1 : 1 ≤ id) (h2 : id ≤ 65535) (hc : bxMay c = true) : meetsB (sqF id b) c = meetV b c := by
  have hm := sqF_may h h1 h2
  rw [Bool.eq_iff_iff]
  constructor
  · intro hh
    have := meets_box hm hc hh
    rwa [sqF_box h h1 h2] at this
  · intro hh
    rw [meetV_iff h.may hc] at hh
    have hb := h.may
    have hc' := hc
    rw [bxMay_iff] at hb hc'
    have p1 : inB b ⟨max b.x0 c.x0, max b.y0 c.y0⟩ = true := by rw [in_iff h.may]; simp only; omega
    have p2 : inB c ⟨max b.x0 c.x0, max b.y0 c.y0⟩ = true := by rw [in_iff hc]; simp only; omega
    refine has_meets hm hc p2 ?_
    rw [sqF_has h, p1]
    rw [ptP_iff]
    simp only
    omega
def holeF (id : Int) (b c : Bx) : Ft := ⟨id, 2, [sq b, sq c]⟩
theorem holeF_may {id : Int} {b c : Bx} (h : Sq b) (hc : Sq c) (h1 : 1 ≤ id) (h2 : id ≤ 65535) : mayB (holeF id b c) = true := by
  rw [may_iff]
  refine ⟨h1, h2, by simp [holeF], by simp [holeF], .inr (.inr ⟨rfl, ?_⟩)⟩
  intro ps hps
  simp only [holeF, List.mem_cons, List.not_mem_nil, or_false] at hps
  rcases hps with rfl | rfl
  · exact sq_ring h
  · exact sq_ring hc
/-- a square with a square hole -/
theorem holeF_has {id : Int} {b c : Bx} (h : Sq b) (hc : Sq c) (i0 : b.x0 < c.x0) (i1 : c.x1 < b.x1) (i2 : b.y0 < c.y0) (i3 : c.y1 < b.y1) {p : S23} (hp : ptP p = true) :
    hasB (holeF id b c) p = true ↔ (b.x0 ≤ p.f0 ∧ p.f0 ≤ b.x1 ∧ b.y0 ≤ p.f1 ∧ p.f1 ≤ b.y1) ∧ ¬ (c.x0 < p.f0 ∧ p.f0 < c.x1 ∧ c.y0 < p.f1 ∧ p.f1 < c.y1) := by
  have hx := h.hx
  have hy := h.hy
  have hcx := hc.hx
  have hcy := hc.hy
  have hon : onAny p (ringSt 2 (sq b) ++ ringSt 2 (sq c)) = (onAny p (ringSt 2 (sq b)) || onAny p (ringSt 2 (sq c))) := by unfold onAny; rw [List.any_append]
  have hodd : oddOf p (ringSt 2 (sq b) ++ ringSt 2 (sq c)) = (oddOf p (ringSt 2 (sq b)) != oddOf p (ringSt 2 (sq c))) := by rw [odd_is, xorL_append]; rfl
  have hst : stsOf 2 [sq b, sq c] = ringSt 2 (sq b) ++ ringSt 2 (sq c) := by show ringSt 2 (sq b) ++ (ringSt 2 (sq c) ++ []) = _; rw [List.append_nil]
  unfold hasB holeF
  dsimp only
  rw [if_neg (by decide), hst, hon, hodd, Bool.or_eq_true, Bool.or_eq_true, Bool.and_eq_true, sq_on h hp, sq_on hc hp, sq_odd h, sq_odd hc, bne_iff_ne, ne_eq, decide_eq_decide]
  simp only [beq_self_eq_true, and_true]
  omega
/-- a line of two points -/
def lineF (id : Int) (a b : S23) : Ft := ⟨id, 1, [[a, b]]⟩
theorem lineF_has (id : Int) (a b p : S23) : hasB (lineF id a b) p = onP p a b := by
  show (((onP p a b || false) || (oddOf p [(a, b)] && false))) = _
  rw [Bool.and_false, Bool.or_false, Bool.or_false]
theorem lineF_may {id : Int} {a b : S23} (h1 : 1 ≤ id) (h2 : id ≤ 65535) (ha : ptP a = true) (hb : ptP b = true) (hne : a ≠ b) : mayB (lineF id a b) = true := by
  rw [may_iff]
  refine ⟨h1, h2, by simp [lineF], by simp [lineF], .inr (.inl ⟨rfl, rfl, ?_⟩)⟩
  rw [ring_iff]
  show (2 : Int) ≤ 2 ∧ 2 ≤ 16 ∧ ∀ k, k < 2 → _
  refine ⟨by omega, by omega, fun k hk => ?_⟩
  have hcase : k = 0 ∨ k = 1 := by omega
  rcases hcase with rfl | rfl
  · show (ptP a && !((true || false) && eqP a b)) = true
    rw [ha, eqP_false.2 hne]; rfl
  · show (ptP b && !((false || false) && eqP b a)) = true
    rw [hb]; rfl
end Go.Proofs.Ytmednnpmkhgfpaa.SH
