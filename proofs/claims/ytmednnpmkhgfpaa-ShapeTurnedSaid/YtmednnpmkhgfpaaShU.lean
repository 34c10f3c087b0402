/- Plain laws of features: from which point a ring begins, which way it goes, which ring comes first does not count. Condition: a polygon that may be. -/
import Derived.Test.YtmednnpmkhgfpaaShT
namespace Go.Proofs.Ytmednnpmkhgfpaa.SH
open Go Go.RowKit Go.Proofs.YtmednnpmkhgfpaaW.PrintWords Go.Proofs.Ytmednnpmkhgfpaa.PShapes Go.Proofs.Ytmednnpmkhgfpaa.Geo
open Go.Proofs.Ytmednnpmkhgfpaa.GW (crossA may4)
set_option linter.unusedVariables false
set_option linter.unusedSimpArgs false

theorem ring2_is {ps : List S23} (h : 0 < ps.length) : ringSt 2 ps = (List.range ps.length).map fun k => (rdP ps k, rdP ps (nxt ps.length k)) := by
  obtain ⟨n, hn⟩ : ∃ n, ps.length = n + 1 := ⟨ps.length - 1, by omega⟩
  unfold ringSt ringIn ringEnd
  rw [if_pos rfl, hn, List.range_succ, List.map_append, Nat.add_sub_cancel]
  congr 1
  · refine List.map_congr_left fun j hj => ?_
    rw [List.mem_range] at hj
    unfold nxt
    rw [if_neg (by omega)]
  · simp [nxt]
/-- the place in a ring of n points that the turned ring's place j has: from c on backwards -/
def turnI (n c j : Nat) : Nat := if j ≤ c then c - j else c + n - j
theorem turnI_lt {n c j : Nat} (hc : c < n) (hj : j < n) : turnI n c j < n := by unfold turnI; split <;> omega
theorem turnI_twice {n c j : Nat} (hc : c < n) (hj : j < n) : turnI n c (turnI n c j) = j := by
  unfold turnI
  repeat' split
  all_goals omega
theorem turn_next {n c k : Nat} (hc : c < n) (hk : k < n) : nxt n (turnI n c (nxt n k)) = turnI n c k := by
  unfold turnI nxt
  repeat' split
  all_goals omega
def turnL (r : List S23) (c : Nat) : List S23 := (List.range r.length).map fun j => rdP r (turnI r.length c j)
theorem turnL_len (r : List S23) (c : Nat) : (turnL r c).length = r.length := by simp [turnL]
theorem turnL_at {r : List S23} (c : Nat) {k : Nat} (hk : k < r.length) : rdP (turnL r c) k = rdP r (turnI r.length c k) := by
  show (turnL r c).getD k z23 = _
  unfold turnL
  simp [hk]
theorem mem_rd {r : List S23} {v : S23} (h : v ∈ r) : ∃ k, k < r.length ∧ v = rdP r k := by
  obtain ⟨k, hk, rfl⟩ := List.mem_iff_getElem.1 h
  exact ⟨k, hk, by unfold rdP; simp [hk]⟩
theorem turnL_mem {r : List S23} {c : Nat} (hc : c < r.length) {v : S23} : v ∈ turnL r c ↔ v ∈ r := by
  constructor
  · intro h
    obtain ⟨k, hk, rfl⟩ := mem_rd h
    rw [turnL_len] at hk
    rw [turnL_at c hk]
    exact rdP_mem (turnI_lt hc hk)
  · intro h
    obtain ⟨k, hk, rfl⟩ := mem_rd h
    have := turnL_at c (turnI_lt hc hk)
    rw [turnI_twice hc hk] at this
    rw [← this]
    exact rdP_mem (by rw [turnL_len]; exact turnI_lt hc hk)
theorem turn_perm {n c : Nat} (hc : c < n) : ((List.range n).map fun k => turnI n c (nxt n k)).Perm (List.range n) := by
  have e : ((List.range n).map fun k => turnI n c (nxt n k)) = (List.range' c (n - c) ++ List.range' 0 c).reverse := by
    refine List.ext_getElem (by simp; omega) fun k h1 h2 => ?_
    have hk : k < n := by simpa using h1
    rw [List.getElem_reverse, List.getElem_append]
    simp only [List.getElem_map, List.getElem_range, List.length_append, List.length_range', List.getElem_range']
    unfold turnI nxt
    repeat' split
    all_goals omega
  rw [e]
  refine (List.reverse_perm _).trans (List.perm_append_comm.trans ?_)
  have := List.range'_append_1 (s := 0) (m := c) (n := n - c)
  rw [Nat.zero_add] at this
  rw [this, List.range_eq_range']
  have : c + (n - c) = n := by omega
  rw [this]
def sw (s : Pair) : Pair := (s.2, s.1)
theorem ring_turn {r : List S23} {c : Nat} (hc : c < r.length) : (ringSt 2 (turnL r c)).Perm ((ringSt 2 r).map sw) := by
  rw [ring2_is (by rw [turnL_len]; omega), ring2_is (by omega), turnL_len, List.map_map]
  have e : ((List.range r.length).map fun k => (rdP (turnL r c) k, rdP (turnL r c) (nxt r.length k))) = ((List.range r.length).map fun k => turnI r.length c (nxt r.length k)).map (fun i => (rdP r (nxt r.length i), rdP r i)) := by
    rw [List.map_map]
    refine List.map_congr_left fun k hk => ?_
    rw [List.mem_range] at hk
    rw [turnL_at c hk, turnL_at c (nxt_lt hk)]
    show _ = (rdP r (nxt r.length (turnI r.length c (nxt r.length k))), rdP r (turnI r.length c (nxt r.length k)))
    rw [turn_next hc hk]
  rw [e]
  exact (turn_perm hc).map _
/-- rings turned, each from a place that its length tells, the last one first -/
def turned (cOf : Nat → Nat) (rs : List (List S23)) : List (List S23) := rs.reverse.map fun r => turnL r (cOf r.length)
theorem perm_flat {α β : Type} {f g : α → List β} {l : List α} (h : ∀ x ∈ l, (f x).Perm (g x)) : (l.flatMap f).Perm (l.flatMap g) := by
  induction l with
  | nil => exact List.Perm.refl _
  | cons x l ih =>
    rw [List.flatMap_cons, List.flatMap_cons]
    exact (h x (List.mem_cons_self ..)).append (ih fun y hy => h y (List.mem_cons_of_mem _ hy))
theorem sts_turned {cOf : Nat → Nat} {rs : List (List S23)} (hc : ∀ r ∈ rs, cOf r.length < r.length) : (stsOf 2 (turned cOf rs)).Perm ((stsOf 2 rs).map sw) := by
  unfold stsOf turned
  rw [List.flatMap_map, List.map_flatMap]
  refine ((List.reverse_perm rs).flatMap_right _).trans ?_
  refine perm_flat fun r hr => ?_
  exact ring_turn (hc r hr)
theorem any_perm {α : Type} {F : α → Bool} {l m : List α} (h : l.Perm m) : l.any F = m.any F := by
  rw [Bool.eq_iff_iff, List.any_eq_true, List.any_eq_true]
  exact ⟨fun ⟨x, hx, hf⟩ => ⟨x, h.mem_iff.1 hx, hf⟩, fun ⟨x, hx, hf⟩ => ⟨x, h.mem_iff.2 hx, hf⟩⟩
theorem xorL_perm {F : Pair → Bool} {l m : List Pair} (h : l.Perm m) : xorL F l = xorL F m := by
  induction h with
  | nil => rfl
  | cons x _ ih => rw [xorL_cons, xorL_cons, ih]
  | swap x y l =>
    rw [xorL_cons, xorL_cons, xorL_cons, xorL_cons]
    cases F x <;> cases F y <;> cases xorL F l <;> rfl
  | trans _ _ ih1 ih2 => exact ih1.trans ih2
theorem any_sw {F : Pair → Bool} (hF : ∀ s, F (sw s) = F s) (l : List Pair) : (l.map sw).any F = l.any F := by
  induction l with
  | nil => rfl
  | cons s l ih => rw [List.map_cons, List.any_cons, List.any_cons, hF, ih]
theorem xorL_sw {F : Pair → Bool} (hF : ∀ s, F (sw s) = F s) (l : List Pair) : xorL F (l.map sw) = xorL F l := by
  induction l with
  | nil => rfl
  | cons s l ih => rw [List.map_cons, xorL_cons, xorL_cons, hF, ih]
theorem has_turned {f : Ft} {cOf : Nat → Nat} (h2 : f.shape = 2) (hc : ∀ r ∈ f.rings, cOf r.length < r.length) (p : S23) : hasB ⟨f.id, f.shape, turned cOf f.rings⟩ p = hasB f p := by
  unfold hasB
  dsimp only
  rw [h2, if_neg (by decide), if_neg (by decide)]
  have e1 : onAny p (stsOf 2 (turned cOf f.rings)) = onAny p (stsOf 2 f.rings) := by
    unfold onAny
    rw [any_perm (sts_turned hc), any_sw (F := fun s => onP p s.1 s.2) (fun s => on_back _ _ _ _ _ _)]
  have e2 : oddOf p (stsOf 2 (turned cOf f.rings)) = oddOf p (stsOf 2 f.rings) := by
    rw [odd_is, odd_is, xorL_perm (sts_turned hc), xorL_sw (F := fun s => overZ p.f0 p.f1 s.1.f0 s.1.f1 s.2.f0 s.2.f1) (fun s => over_flip _ _ _ _ _ _)]
  rw [e1, e2]
theorem crossA_flip (ax ay bx b_y cx cy dx dy : Int) : crossA bx b_y ax ay cx cy dx dy = crossA ax ay bx b_y cx cy dx dy := by
  unfold crossA may4
  rw [cross_flip ax ay bx b_y, Bool.and_comm (ptB bx b_y)]
theorem side_sw (b : Bx) (s : Pair) : sideB b (sw s) = sideB b s := by
  unfold sideB sidesB sideX sw
  dsimp only
  congr 1
  funext k
  exact crossA_flip _ _ _ _ _ _ _ _
theorem meets_turned {f : Ft} {cOf : Nat → Nat} (h2 : f.shape = 2) (hc : ∀ r ∈ f.rings, cOf r.length < r.length) (b : Bx) : meetsB ⟨f.id, f.shape, turned cOf f.rings⟩ b = meetsB f b := by
  unfold meetsB
  have e3 : (cnr b).any (hasB ⟨f.id, f.shape, turned cOf f.rings⟩) = (cnr b).any (hasB f) := by
    congr 1
    funext p
    exact has_turned h2 hc p
  have e1 : (turned cOf f.rings).flatten.any (inB b) = f.rings.flatten.any (inB b) := by
    rw [Bool.eq_iff_iff, List.any_eq_true, List.any_eq_true]
    have hm : ∀ v, v ∈ (turned cOf f.rings).flatten ↔ v ∈ f.rings.flatten := by
      intro v
      rw [List.mem_flatten, List.mem_flatten]
      unfold turned
      constructor
      · rintro ⟨t, ht, hv⟩
        rw [List.mem_map] at ht
        obtain ⟨r, hr, rfl⟩ := ht
        rw [List.mem_reverse] at hr
        exact ⟨r, hr, (turnL_mem (hc r hr)).1 hv⟩
      · rintro ⟨r, hr, hv⟩
        exact ⟨_, List.mem_map.2 ⟨r, List.mem_reverse.2 hr, rfl⟩, (turnL_mem (hc r hr)).2 hv⟩
    exact ⟨fun ⟨x, hx, hf⟩ => ⟨x, (hm x).1 hx, hf⟩, fun ⟨x, hx, hf⟩ => ⟨x, (hm x).2 hx, hf⟩⟩
  have e2 : (stsOf f.shape (turned cOf f.rings)).any (sideB b) = (stsOf f.shape f.rings).any (sideB b) := by
    rw [h2, any_perm (sts_turned hc), any_sw (side_sw b)]
  dsimp only at e3 ⊢
  rw [e1, e2, e3]
theorem ring_turned {r : List S23} {c : Nat} (hc : c < r.length) (h : ringB r 3 true = true) : ringB (turnL r c) 3 true = true := by
  rw [ring_iff] at h ⊢
  rw [turnL_len]
  refine ⟨h.1, h.2.1, fun k hk => ?_⟩
  have h1 := h.2.2 _ (turnI_lt hc hk)
  have h2 := h.2.2 _ (turnI_lt hc (nxt_lt hk))
  unfold okAt at *
  rw [turnL_len, turnL_at c hk, turnL_at c (nxt_lt hk)]
  rw [turn_next hc hk] at h2
  rw [Bool.and_eq_true] at h1 h2 ⊢
  refine ⟨h1.1, ?_⟩
  have h3 := h2.2
  simp only [Bool.or_true, Bool.true_and, Bool.not_eq_true', eqP_false] at h3 ⊢
  exact fun e => h3 e.symm
theorem may_turned {f : Ft} {cOf : Nat → Nat} (h2 : f.shape = 2) (hm : mayB f = true) (hc : ∀ r ∈ f.rings, cOf r.length < r.length) : mayB ⟨f.id, f.shape, turned cOf f.rings⟩ = true := by
  rw [may_iff] at hm ⊢
  have hl : (turned cOf f.rings).length = f.rings.length := by simp [turned]
  dsimp only
  rw [hl]
  refine ⟨hm.1, hm.2.1, hm.2.2.1, hm.2.2.2.1, .inr (.inr ⟨h2, ?_⟩)⟩
  have hr : ∀ ps ∈ f.rings, ringB ps 3 true = true := by
    rcases hm.2.2.2.2 with ⟨h0, _⟩ | ⟨h1, _⟩ | ⟨_, hr⟩
    · omega
    · omega
    · exact hr
  intro t ht
  unfold turned at ht
  rw [List.mem_map] at ht
  obtain ⟨r, hr', rfl⟩ := ht
  rw [List.mem_reverse] at hr'
  exact ring_turned (hc r hr') (hr r hr')
end Go.Proofs.Ytmednnpmkhgfpaa.SH
