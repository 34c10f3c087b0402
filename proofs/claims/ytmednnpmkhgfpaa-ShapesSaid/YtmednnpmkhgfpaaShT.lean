/- Plain laws of features: what has a place of a box meets it; what meets a box has a box that does; of a box of one place to meet is to have. Condition: a feature, a box, a place that may be. -/
import Derived.Test.YtmednnpmkhgfpaaShOA
import Derived.Test.YtmednnpmkhgfpaaShMA
import Derived.Test.YtmednnpmkhgfpaaGeoA0
namespace Go.Proofs.Ytmednnpmkhgfpaa.SH
open Go Go.RowKit Go.Proofs.YtmednnpmkhgfpaaW.PrintWords Go.Proofs.Ytmednnpmkhgfpaa.PShapes Go.Proofs.Ytmednnpmkhgfpaa.Geo
open Go.Proofs.Ytmednnpmkhgfpaa.GW (crossA may4)
set_option linter.unusedVariables false
set_option linter.unusedSimpArgs false

def cn0 (b : Bx) : S23 := ⟨b.x0, b.y0⟩
def cn1 (b : Bx) : S23 := ⟨b.x1, b.y0⟩
def cn2 (b : Bx) : S23 := ⟨b.x1, b.y1⟩
def cn3 (b : Bx) : S23 := ⟨b.x0, b.y1⟩
def cnr (b : Bx) : List S23 := [cn0 b, cn1 b, cn2 b, cn3 b]
def inB (b : Bx) (p : S23) : Bool := withinB p.f0 p.f1 b.x0 b.y0 b.x1 b.y1
def sideB (b : Bx) (s : Pair) : Bool := sidesB s.1 s.2 (cn0 b) (cn1 b) (cn2 b) (cn3 b)
/-- P4.2: has a feature a place of a box? -/
def meetsB (f : Ft) (b : Bx) : Bool := f.rings.flatten.any (inB b) || (stsOf f.shape f.rings).any (sideB b) || (f.shape == 2 && (cnr b).any (hasB f))
def meetsV (f : Ft) (b : Bx) : Bool := mayB f && bxMay b && meetsB f b

theorem bxMay_iff {b : Bx} : bxMay b = true ↔ 0 ≤ b.x0 ∧ b.x0 ≤ b.x1 ∧ b.x1 ≤ 4294967295 ∧ 0 ≤ b.y0 ∧ b.y0 ≤ b.y1 ∧ b.y1 ≤ 4294967295 := boxB_iff
theorem ptP_iff {p : S23} : ptP p = true ↔ (0 ≤ p.f0 ∧ p.f0 ≤ 4294967295) ∧ (0 ≤ p.f1 ∧ p.f1 ≤ 4294967295) := ptB_iff
theorem cnr_may {b : Bx} (h : bxMay b = true) : ∀ c ∈ cnr b, ptP c = true := by
  rw [bxMay_iff] at h
  intro c hc
  simp only [cnr, List.mem_cons, List.not_mem_nil, or_false] at hc
  rw [ptP_iff]
  rcases hc with rfl | rfl | rfl | rfl
  · show (0 ≤ b.x0 ∧ b.x0 ≤ _) ∧ 0 ≤ b.y0 ∧ b.y0 ≤ _; omega
  · show (0 ≤ b.x1 ∧ b.x1 ≤ _) ∧ 0 ≤ b.y0 ∧ b.y0 ≤ _; omega
  · show (0 ≤ b.x1 ∧ b.x1 ≤ _) ∧ 0 ≤ b.y1 ∧ b.y1 ≤ _; omega
  · show (0 ≤ b.x0 ∧ b.x0 ≤ _) ∧ 0 ≤ b.y1 ∧ b.y1 ≤ _; omega
theorem side_is {b : Bx} {s : Pair} (hb : bxMay b = true) (h1 : ptP s.1 = true) (h2 : ptP s.2 = true) : sideB b s = sidesZ s.1.f0 s.1.f1 s.2.f0 s.2.f1 b.x0 b.y0 b.x1 b.y1 := by
  have hc := cnr_may hb
  have c0 : ptB b.x0 b.y0 = true := hc (cn0 b) (by simp [cnr])
  have c1 : ptB b.x1 b.y0 = true := hc (cn1 b) (by simp [cnr])
  have c2 : ptB b.x1 b.y1 = true := hc (cn2 b) (by simp [cnr])
  have c3 : ptB b.x0 b.y1 = true := hc (cn3 b) (by simp [cnr])
  have m : ∀ x y z u, ptB x y = true → ptB z u = true → crossA s.1.f0 s.1.f1 s.2.f0 s.2.f1 x y z u = crossB s.1.f0 s.1.f1 s.2.f0 s.2.f1 x y z u := by
    intro x y z u hx hz
    unfold crossA may4
    rw [show ptB s.1.f0 s.1.f1 = true from h1, show ptB s.2.f0 s.2.f1 = true from h2, hx, hz]
    rfl
  have e : sideB b s = (crossA s.1.f0 s.1.f1 s.2.f0 s.2.f1 b.x0 b.y0 b.x1 b.y0 || (crossA s.1.f0 s.1.f1 s.2.f0 s.2.f1 b.x1 b.y0 b.x1 b.y1 || (crossA s.1.f0 s.1.f1 s.2.f0 s.2.f1 b.x1 b.y1 b.x0 b.y1 || (crossA s.1.f0 s.1.f1 s.2.f0 s.2.f1 b.x0 b.y1 b.x0 b.y0 || false)))) := rfl
  rw [e, m _ _ _ _ c0 c1, m _ _ _ _ c1 c2, m _ _ _ _ c2 c3, m _ _ _ _ c3 c0, Bool.or_false]
  unfold sidesZ
  rw [Bool.or_assoc, Bool.or_assoc]

/-- odd or not: over how many of a list -/
def xorL (F : Pair → Bool) (l : List Pair) : Bool := l.foldl (fun o s => o != F s) false
theorem xorL_from (F : Pair → Bool) : ∀ (l : List Pair) (b : Bool), l.foldl (fun o s => o != F s) b = (b != xorL F l)
  | [], b => by cases b <;> rfl
  | s :: l, b => by
    unfold xorL
    rw [List.foldl_cons, List.foldl_cons, xorL_from F l, xorL_from F l (false != F s)]
    cases b <;> cases F s <;> cases xorL F l <;> rfl
theorem xorL_nil (F : Pair → Bool) : xorL F [] = false := rfl
theorem xorL_cons (F : Pair → Bool) (s : Pair) (l : List Pair) : xorL F (s :: l) = (F s != xorL F l) := by
  show (s :: l).foldl (fun o s => o != F s) false = _
  rw [List.foldl_cons, xorL_from]
  cases F s <;> rfl
theorem xorL_append (F : Pair → Bool) (l m : List Pair) : xorL F (l ++ m) = (xorL F l != xorL F m) := by
  unfold xorL
  rw [List.foldl_append, xorL_from F m]
  rfl
theorem xorL_congr {F G : Pair → Bool} {l : List Pair} (h : ∀ s ∈ l, F s = G s) : xorL F l = xorL G l := by
  induction l with
  | nil => rfl
  | cons s l ih => rw [xorL_cons, xorL_cons, h s (List.mem_cons_self ..), ih (fun t ht => h t (List.mem_cons_of_mem _ ht))]
theorem xorL_ne (F G : Pair → Bool) (l : List Pair) : xorL (fun s => F s != G s) l = (xorL F l != xorL G l) := by
  induction l with
  | nil => rfl
  | cons s l ih =>
    rw [xorL_cons, xorL_cons, xorL_cons, ih]
    cases F s <;> cases G s <;> cases xorL F l <;> cases xorL G l <;> rfl
theorem xorL_none {F : Pair → Bool} {l : List Pair} (h : ∀ s ∈ l, F s = false) : xorL F l = false := by
  induction l with
  | nil => rfl
  | cons s l ih => rw [xorL_cons, h s (List.mem_cons_self ..), ih (fun t ht => h t (List.mem_cons_of_mem _ ht))]; rfl
theorem xorL_flat {α : Type} {F : Pair → Bool} {g : α → List Pair} {l : List α} (h : ∀ x ∈ l, xorL F (g x) = false) : xorL F (l.flatMap g) = false := by
  induction l with
  | nil => rfl
  | cons x l ih => rw [List.flatMap_cons, xorL_append, h x (List.mem_cons_self ..), ih (fun t ht => h t (List.mem_cons_of_mem _ ht))]; rfl
theorem odd_is (p : S23) (l : List Pair) : oddOf p l = xorL (fun s => overZ p.f0 p.f1 s.1.f0 s.1.f1 s.2.f0 s.2.f1) l := rfl
theorem tele_in (h : S23 → Bool) (ps : List S23) (m : Nat) : xorL (fun s => h s.1 != h s.2) ((List.range m).map fun j => (rdP ps j, rdP ps (j + 1))) = (h (rdP ps 0) != h (rdP ps m)) := by
  induction m with
  | zero => cases h (rdP ps 0) <;> rfl
  | succ m ih =>
    rw [List.range_succ, List.map_append, xorL_append, ih]
    show ((h (rdP ps 0) != h (rdP ps m)) != ((false != (h (rdP ps m) != h (rdP ps (m + 1)))))) = _
    cases h (rdP ps 0) <;> cases h (rdP ps m) <;> cases h (rdP ps (m + 1)) <;> rfl
theorem tele_ring (h : S23 → Bool) (ps : List S23) : xorL (fun s => h s.1 != h s.2) (ringSt 2 ps) = false := by
  unfold ringSt ringIn ringEnd
  rw [xorL_append, tele_in, if_pos rfl]
  show ((h (rdP ps 0) != h (rdP ps (ps.length - 1))) != ((false != (h (rdP ps (ps.length - 1)) != h (rdP ps 0))))) = _
  cases h (rdP ps 0) <;> cases h (rdP ps (ps.length - 1)) <;> rfl
/-- round closed rings what each end adds twice falls out -/
theorem tele_sts (h : S23 → Bool) (rs : List (List S23)) : xorL (fun s => h s.1 != h s.2) (stsOf 2 rs) = false := xorL_flat fun ps _ => tele_ring h ps

theorem sts_mem {shape : Int} {rs : List (List S23)} (hne : shape = 2 → ∀ ps ∈ rs, 0 < ps.length) {s : Pair} (h : s ∈ stsOf shape rs) : s.1 ∈ rs.flatten ∧ s.2 ∈ rs.flatten := by
  unfold stsOf at h
  rw [List.mem_flatMap] at h
  obtain ⟨ps, hps, hs⟩ := h
  unfold ringSt at hs
  rw [List.mem_append] at hs
  rw [List.mem_flatten, List.mem_flatten]
  rcases hs with hs | hs
  · unfold ringIn at hs
    rw [List.mem_map] at hs
    obtain ⟨j, hj, rfl⟩ := hs
    rw [List.mem_range] at hj
    exact ⟨⟨ps, hps, rdP_mem (by omega)⟩, ⟨ps, hps, rdP_mem (by omega)⟩⟩
  · unfold ringEnd at hs
    split at hs
    · rename_i h2
      rw [List.mem_singleton] at hs
      subst hs
      have := hne h2 ps hps
      exact ⟨⟨ps, hps, rdP_mem (by omega)⟩, ⟨ps, hps, rdP_mem (by omega)⟩⟩
    · cases hs
theorem sts_may {f : Ft} (hm : mayB f = true) {s : Pair} (h : s ∈ stsOf f.shape f.rings) : (s.1 ∈ f.rings.flatten ∧ s.2 ∈ f.rings.flatten) ∧ ptP s.1 = true ∧ ptP s.2 = true := by
  have h1 := sts_mem (fun h2 => may_ne hm h2) h
  have hp : ∀ v ∈ f.rings.flatten, ptP v = true := by
    intro v hv
    obtain ⟨ps, hps, hv⟩ := List.mem_flatten.1 hv
    exact may_pts hm ps hps v hv
  exact ⟨h1, hp _ h1.1, hp _ h1.2⟩
theorem flat_may {f : Ft} (hm : mayB f = true) {v : S23} (hv : v ∈ f.rings.flatten) : ptP v = true := by
  obtain ⟨ps, hps, hv⟩ := List.mem_flatten.1 hv
  exact may_pts hm ps hps v hv
theorem in_iff {b : Bx} {p : S23} (hb : bxMay b = true) : inB b p = true ↔ b.x0 ≤ p.f0 ∧ p.f0 ≤ b.x1 ∧ b.y0 ≤ p.f1 ∧ p.f1 ≤ b.y1 := by
  rw [bxMay_iff] at hb
  unfold inB
  rw [withinB_iff]
  omega
theorem out_of {b : Bx} {p : S23} (hb : bxMay b = true) (h : inB b p = false) : Out p.f0 p.f1 b.x0 b.y0 b.x1 b.y1 := by
  rw [← Bool.not_eq_true, in_iff hb] at h
  unfold Out
  omega
theorem rd_flat {f : Ft} (hm : mayB f = true) (h0 : f.shape = 0) : rdP (rdR f.rings 0) 0 ∈ f.rings.flatten := by
  obtain ⟨h1, h2⟩ := may_zero hm h0
  exact List.mem_flatten.2 ⟨_, rdR_mem h1, rdP_mem h2⟩
/-- what has a place of a box meets it -/
theorem has_meets {f : Ft} {b : Bx} {p : S23} (hm : mayB f = true) (hb : bxMay b = true) (hp : inB b p = true) (hh : hasB f p = true) : meetsB f b = true := by
  refine Classical.byContradiction fun hn => ?_
  rw [Bool.not_eq_true] at hn
  unfold meetsB at hn
  rw [Bool.or_eq_false_iff, Bool.or_eq_false_iff, List.any_eq_false, List.any_eq_false] at hn
  obtain ⟨⟨n1, n2⟩, n3⟩ := hn
  have hout : ∀ v ∈ f.rings.flatten, Out v.f0 v.f1 b.x0 b.y0 b.x1 b.y1 := fun v hv => out_of hb (by have := n1 v hv; simpa using this)
  have hsep : ∀ s ∈ stsOf f.shape f.rings, Sep s.1.f0 s.1.f1 s.2.f0 s.2.f1 b.x0 b.y0 b.x1 b.y1 := by
    intro s hs
    obtain ⟨⟨m1, m2⟩, p1, p2⟩ := sts_may hm hs
    have := n2 s hs
    rw [side_is hb p1 p2] at this
    exact sep_any _ _ _ _ _ _ _ _ p1 p2 hb (hout _ m1) (hout _ m2) (by simpa using this)
  obtain ⟨q0, q1, q2, q3⟩ := (in_iff hb).1 hp
  have hnon : onAny p (stsOf f.shape f.rings) = false := by
    unfold onAny
    rw [List.any_eq_false]
    intro s hs
    have := sep_on (hsep s hs) q0 q1 q2 q3
    unfold onP
    rw [this]
    simp
  unfold hasB at hh
  by_cases h0 : f.shape = 0
  · rw [if_pos h0, eqP_iff] at hh
    have := n1 _ (rd_flat hm h0)
    rw [hh] at this
    exact this hp
  · rw [if_neg h0, hnon, Bool.false_or, Bool.and_eq_true, beq_iff_eq] at hh
    obtain ⟨ho, h2⟩ := hh
    rw [h2] at n3 ho hsep
    have n4 : hasB f (cn0 b) = false := by
      have : (cnr b).any (hasB f) = false := by simpa using n3
      rw [List.any_eq_false] at this
      have := this (cn0 b) (by simp [cnr])
      simpa using this
    unfold hasB at n4
    rw [if_neg h0, Bool.or_eq_false_iff, h2] at n4
    have n5 : oddOf (cn0 b) (stsOf 2 f.rings) = false := by have := n4.2; simpa using this
    rw [odd_is] at ho n5
    have hb' := hb
    rw [bxMay_iff] at hb'
    have e : xorL (fun s => overZ p.f0 p.f1 s.1.f0 s.1.f1 s.2.f0 s.2.f1 != overZ (cn0 b).f0 (cn0 b).f1 s.1.f0 s.1.f1 s.2.f0 s.2.f1) (stsOf 2 f.rings) = xorL (fun s => beyond b.x1 p.f1 b.y0 s.1.f0 s.1.f1 != beyond b.x1 p.f1 b.y0 s.2.f0 s.2.f1) (stsOf 2 f.rings) := by
      refine xorL_congr fun s hs => ?_
      obtain ⟨⟨m1, m2⟩, p1, p2⟩ := sts_may hm (by rw [h2]; exact hs)
      exact over_move (hsep s hs) (hout _ m1) (hout _ m2) q0 q1 q2 q3 (Int.le_refl _) (by show b.x0 ≤ b.x1; omega) (Int.le_refl _) (by show b.y0 ≤ b.y1; omega)
    rw [xorL_ne, ho, n5, tele_sts (fun v => beyond b.x1 p.f1 b.y0 v.f0 v.f1)] at e
    cases e
def inBox (b : Bx) (q : S23) : Prop := b.x0 ≤ q.f0 ∧ q.f0 ≤ b.x1 ∧ b.y0 ≤ q.f1 ∧ q.f1 ≤ b.y1
theorem boxL_in : ∀ (ps : List S23) (b : Bx), (∀ q, inBox b q → inBox (ps.foldl joinP b) q) ∧ ∀ q ∈ ps, inBox (ps.foldl joinP b) q
  | [], b => ⟨fun q h => h, fun q h => by cases h⟩
  | p :: ps, b => by
    have ih := boxL_in ps (joinP b p)
    have h1 : ∀ q, inBox b q → inBox (joinP b p) q := by intro q h; unfold inBox joinP at *; simp only; omega
    have h2 : inBox (joinP b p) p := by unfold inBox joinP; simp only; omega
    refine ⟨fun q h => ih.1 q (h1 q h), fun q hq => ?_⟩
    rcases List.mem_cons.1 hq with rfl | hq
    · exact ih.1 _ h2
    · exact ih.2 q hq
theorem boxV_in {f : Ft} (hm : mayB f = true) {v : S23} (hv : v ∈ f.rings.flatten) : inBox (boxV f) v := by
  unfold boxV
  rw [if_pos hm]
  exact (boxL_in _ _).2 v hv
theorem may_first {f : Ft} (hm : mayB f = true) : rdP (rdR f.rings 0) 0 ∈ f.rings.flatten := by
  obtain ⟨_, _, hl, _, h⟩ := may_iff.1 hm
  refine List.mem_flatten.2 ⟨rdR f.rings 0, rdR_mem (by omega), rdP_mem ?_⟩
  rcases h with ⟨_, _, h1, _⟩ | ⟨_, _, hr⟩ | ⟨_, hr⟩
  · omega
  · have := (ring_iff.1 hr).1; omega
  · have := (ring_iff.1 (hr (rdR f.rings 0) (rdR_mem (by omega)))).1; omega
theorem boxV_may {f : Ft} (hm : mayB f = true) : bxMay (boxV f) = true := by
  unfold boxV boxL
  rw [if_pos hm]
  have h1 := flat_may hm (may_first hm)
  exact boxL_may h1 _ (fun q hq => flat_may hm hq) _ (at_may h1)
def meetV (a b : Bx) : Bool := meetB a.x0 a.y0 a.x1 a.y1 b.x0 b.y0 b.x1 b.y1
theorem meetV_iff {a b : Bx} (ha : bxMay a = true) (hb : bxMay b = true) : meetV a b = true ↔ a.x0 ≤ b.x1 ∧ b.x0 ≤ a.x1 ∧ a.y0 ≤ b.y1 ∧ b.y0 ≤ a.y1 := by
  rw [bxMay_iff] at ha hb
  unfold meetV
  rw [meetB_iff]
  omega
/-- what a feature has lies in its box -/
theorem has_in {f : Ft} {p : S23} (hm : mayB f = true) (hh : hasB f p = true) : inBox (boxV f) p := by
  unfold hasB at hh
  have hon : onAny p (stsOf f.shape f.rings) = true → inBox (boxV f) p := by
    intro h
    unfold onAny at h
    rw [List.any_eq_true] at h
    obtain ⟨s, hs, h⟩ := h
    obtain ⟨⟨m1, m2⟩, _, _⟩ := sts_may hm hs
    have h1 := boxV_in hm m1
    have h2 := boxV_in hm m2
    have := on_within h
    unfold inBox at *
    omega
  by_cases h0 : f.shape = 0
  · rw [if_pos h0, eqP_iff] at hh
    rw [← hh]
    exact boxV_in hm (rd_flat hm h0)
  · rw [if_neg h0, Bool.or_eq_true, Bool.and_eq_true, beq_iff_eq] at hh
    rcases hh with hh | ⟨ho, h2⟩
    · exact hon hh
    · refine Classical.byContradiction fun hn => ?_
      have hbx : ∀ s ∈ stsOf 2 f.rings, inBox (boxV f) s.1 ∧ inBox (boxV f) s.2 := by
        intro s hs
        obtain ⟨⟨m1, m2⟩, _, _⟩ := sts_may hm (by rw [h2]; exact hs)
        exact ⟨boxV_in hm m1, boxV_in hm m2⟩
      rw [h2, odd_is] at ho
      have hcase : p.f0 < (boxV f).x0 ∨ (boxV f).x1 < p.f0 ∨ p.f1 < (boxV f).y0 ∨ (boxV f).y1 < p.f1 := by unfold inBox at hn; omega
      rcases hcase with h | h | h | h
      · rw [xorL_congr (G := fun s => decide (p.f1 < s.1.f1) != decide (p.f1 < s.2.f1)) (fun s hs => by
          obtain ⟨g1, g2⟩ := hbx s hs
          unfold inBox at g1 g2
          exact over_west (by omega) (by omega)), tele_sts (fun v => decide (p.f1 < v.f1))] at ho
        cases ho
      · rw [xorL_none (fun s hs => by
          obtain ⟨g1, g2⟩ := hbx s hs
          unfold inBox at g1 g2
          exact over_east (by omega) (by omega))] at ho
        cases ho
      · rw [xorL_none (fun s hs => by
          obtain ⟨g1, g2⟩ := hbx s hs
          unfold inBox at g1 g2
          exact over_flatY (by rw [decide_eq_true (by omega), decide_eq_true (by omega)]))] at ho
        cases ho
      · rw [xorL_none (fun s hs => by
          obtain ⟨g1, g2⟩ := hbx s hs
          unfold inBox at g1 g2
          exact over_flatY (by rw [decide_eq_false (by omega), decide_eq_false (by omega)]))] at ho
        cases ho
theorem cnr_in {b : Bx} (hb : bxMay b = true) {c : S23} (hc : c ∈ cnr b) : inBox b c := by
  rw [bxMay_iff] at hb
  simp only [cnr, List.mem_cons, List.not_mem_nil, or_false] at hc
  rcases hc with rfl | rfl | rfl | rfl <;> simp only [inBox, cn0, cn1, cn2, cn3] <;> omega
/-- what meets a box has a box that does -/
theorem meets_box {f : Ft} {b : Bx} (hm : mayB f = true) (hb : bxMay b = true) (h : meetsB f b = true) : meetV (boxV f) b = true := by
  have hx := boxV_may hm
  rw [meetV_iff hx hb]
  unfold meetsB at h
  rw [Bool.or_eq_true, Bool.or_eq_true, List.any_eq_true, List.any_eq_true, Bool.and_eq_true, List.any_eq_true] at h
  rcases h with (⟨v, hv, h⟩ | ⟨s, hs, h⟩) | ⟨_, c, hc, h⟩
  · have h1 := boxV_in hm hv
    rw [in_iff hb] at h
    unfold inBox at h1
    omega
  · obtain ⟨⟨m1, m2⟩, p1, p2⟩ := sts_may hm hs
    have h1 := boxV_in hm m1
    have h2 := boxV_in hm m2
    rw [side_is hb p1 p2] at h
    have hb' := hb
    rw [bxMay_iff] at hb'
    have hc := cnr_may hb
    have c0 : ptB b.x0 b.y0 = true := hc (cn0 b) (by simp [cnr])
    have c1 : ptB b.x1 b.y0 = true := hc (cn1 b) (by simp [cnr])
    have c2 : ptB b.x1 b.y1 = true := hc (cn2 b) (by simp [cnr])
    have c3 : ptB b.x0 b.y1 = true := hc (cn3 b) (by simp [cnr])
    unfold sidesZ at h
    rw [Bool.or_eq_true, Bool.or_eq_true, Bool.or_eq_true] at h
    unfold inBox at h1 h2
    rcases h with ((h | h) | h) | h
    · have := cross_meet _ _ _ _ _ _ _ _ p1 p2 c0 c1 h
      rw [meetB_iff] at this
      omega
    · have := cross_meet _ _ _ _ _ _ _ _ p1 p2 c1 c2 h
      rw [meetB_iff] at this
      omega
    · have := cross_meet _ _ _ _ _ _ _ _ p1 p2 c2 c3 h
      rw [meetB_iff] at this
      omega
    · have := cross_meet _ _ _ _ _ _ _ _ p1 p2 c3 c0 h
      rw [meetB_iff] at this
      omega
  · have h1 := has_in hm h
    have h2 := cnr_in hb hc
    unfold inBox at h1 h2
    omega
theorem ring_vertex {shape : Int} {ps : List S23} (h : 2 ≤ ps.length) {v : S23} (hv : v ∈ ps) : ∃ s ∈ ringSt shape ps, s.1 = v ∨ s.2 = v := by
  obtain ⟨k, hk, rfl⟩ := List.mem_iff_getElem.1 hv
  have e : ps[k] = rdP ps k := by unfold rdP; simp [hk]
  rw [e]
  unfold ringSt ringIn
  by_cases hl : k < ps.length - 1
  · exact ⟨(rdP ps k, rdP ps (k + 1)), List.mem_append_left _ (List.mem_map.2 ⟨k, List.mem_range.2 hl, rfl⟩), .inl rfl⟩
  · obtain ⟨j, rfl⟩ : ∃ j, k = j + 1 := ⟨k - 1, by omega⟩
    exact ⟨(rdP ps j, rdP ps (j + 1)), List.mem_append_left _ (List.mem_map.2 ⟨j, List.mem_range.2 (by omega), rfl⟩), .inr rfl⟩
/-- a feature has its own points -/
theorem vertex_has {f : Ft} (hm : mayB f = true) {v : S23} (hv : v ∈ f.rings.flatten) : hasB f v = true := by
  have key : (∀ ps ∈ f.rings, 2 ≤ ps.length) → onAny v (stsOf f.shape f.rings) = true := by
    intro h2
    obtain ⟨ps, hps, hv⟩ := List.mem_flatten.1 hv
    obtain ⟨s, hs, he⟩ := ring_vertex (shape := f.shape) (h2 ps hps) hv
    unfold onAny
    rw [List.any_eq_true]
    have hst : s ∈ stsOf f.shape f.rings := List.mem_flatMap.2 ⟨ps, hps, hs⟩
    obtain ⟨_, p1, p2⟩ := sts_may hm hst
    refine ⟨s, hst, ?_⟩
    rcases he with rfl | rfl
    · exact on_begin _ _ _ _ p1 p2
    · exact on_end _ _ _ _ p1 p2
  obtain ⟨_, _, hl, _, h⟩ := may_iff.1 hm
  unfold hasB
  rcases h with ⟨h0, hl1, h1, _⟩ | ⟨h1, hl1, hr⟩ | ⟨h2, hr⟩
  · rw [if_pos h0, eqP_iff]
    obtain ⟨ps, hps, hv⟩ := List.mem_flatten.1 hv
    rw [one_ring hl1 hps] at hv
    obtain ⟨k, hk, rfl⟩ := List.mem_iff_getElem.1 hv
    have : k = 0 := by omega
    subst this
    unfold rdP
    simp [hk]
  · rw [if_neg (by omega), key (fun ps hps => by rw [one_ring hl1 hps]; have := (ring_iff.1 hr).1; omega)]
    rfl
  · rw [if_neg (by omega), key (fun ps hps => by have := (ring_iff.1 (hr ps hps)).1; omega)]
    rfl
theorem in_at {p q : S23} (hp : ptP p = true) : inB (atB p) q = true ↔ q = p := by
  rw [in_iff (at_may hp)]
  unfold atB
  simp only
  cases p
  cases q
  simp only [S23.mk.injEq]
  omega
/-- of a box of one place to meet is to have -/
theorem meets_point {f : Ft} {p : S23} (hm : mayB f = true) (hp : ptP p = true) : meetsB f (atB p) = hasB f p := by
  have hb := at_may hp
  rw [Bool.eq_iff_iff]
  refine ⟨fun h => ?_, fun h => has_meets hm hb ((in_at hp).2 rfl) h⟩
  unfold meetsB at h
  rw [Bool.or_eq_true, Bool.or_eq_true, List.any_eq_true, List.any_eq_true, Bool.and_eq_true, List.any_eq_true] at h
  rcases h with (⟨v, hv, h⟩ | ⟨s, hs, h⟩) | ⟨_, c, hc, h⟩
  · rw [in_at hp] at h
    rw [← h]
    exact vertex_has hm hv
  · obtain ⟨⟨m1, m2⟩, p1, p2⟩ := sts_may hm hs
    rw [side_is hb p1 p2] at h
    have h' : crossB s.1.f0 s.1.f1 s.2.f0 s.2.f1 p.f0 p.f1 p.f0 p.f1 = true := by
      unfold sidesZ atB at h
      simpa using h
    have hp1 : ∀ v : S23, onB v.f0 v.f1 p.f0 p.f1 p.f0 p.f1 = true → v = p := by
      intro v hv
      have := on_within hv
      cases v
      cases p
      simp only [S23.mk.injEq]
      simp only at this
      omega
    have hon : onP p s.1 s.2 = true ∨ s.1 = p ∨ s.2 = p := by
      unfold crossB at h'
      simp only [Bool.or_eq_true, Bool.and_eq_true, decide_eq_true_eq] at h'
      rcases h' with (((h | h) | h) | h) | ⟨h, _⟩
      · exact .inl h
      · exact .inl h
      · exact .inr (.inl (hp1 _ h))
      · exact .inr (.inr (hp1 _ h))
      · exact absurd h (by
          rcases sg_range (crossZ s.1.f0 s.1.f1 s.2.f0 s.2.f1 p.f0 p.f1) with e | e | e <;> unfold turnZ <;> rw [e] <;> decide)
    rcases hon with h | h | h
    · have h0 : f.shape ≠ 0 := by
        intro h0
        obtain ⟨_, _, _, _, ⟨_, hl, h1, _⟩ | ⟨h1, _⟩ | ⟨h1, _⟩⟩ := may_iff.1 hm
        · unfold stsOf at hs
          rw [List.mem_flatMap] at hs
          obtain ⟨ps, hps, hs⟩ := hs
          rw [one_ring hl hps] at hs
          unfold ringSt ringIn ringEnd at hs
          rw [h1, h0] at hs
          simp at hs
        · omega
        · omega
      unfold hasB
      rw [if_neg h0]
      have : onAny p (stsOf f.shape f.rings) = true := by
        unfold onAny
        rw [List.any_eq_true]
        exact ⟨s, hs, h⟩
      rw [this]
      rfl
    · rw [← h]; exact vertex_has hm m1
    · rw [← h]; exact vertex_has hm m2
  · have : c = p := by
      simp only [cnr, List.mem_cons, List.not_mem_nil, or_false] at hc
      rcases hc with rfl | rfl | rfl | rfl <;> rfl
    rw [← this]
    exact h
end Go.Proofs.Ytmednnpmkhgfpaa.SH
