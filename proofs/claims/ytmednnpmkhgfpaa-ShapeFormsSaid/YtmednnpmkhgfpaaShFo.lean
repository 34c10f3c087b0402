/- What furlonglaw4.ShapeForms answers: yes. -/
import Derived.Test.YtmednnpmkhgfpaaShAw
import Derived.Test.YtmednnpmkhgfpaaMaskL
namespace Go.Proofs.Ytmednnpmkhgfpaa.SH
open Go Go.RowKit Go.Proofs.YtmednnpmkhgfpaaW.PrintWords Go.Proofs.YtmednnpmkhgfpaaW.PrintLast Go.Proofs.YtmednnpmkhgfpaaW.PrintMore Go.Proofs.Ytmednnpmkhgfpaa.PShapes Go.Proofs.Ytmednnpmkhgfpaa.Geo
set_option linter.unusedVariables false
set_option linter.unusedSimpArgs false
attribute [local go_sem high] eqA23 eqA30

/-- what square leaves, place by place -/
theorem square_lit (id : Int) (b : Bx) (w : World) : Calls Try.prog 11 #[.int .i64 id, .agg #[.int .i64 b.x0, .int .i64 b.y0, .int .i64 b.x1, .int .i64 b.y1]] w fun e w' => ∃ h g, e = .returned (.agg #[.int .i64 id, .int .i64 2, .slice (some ⟨g, 0, none⟩) 1 1]) ∧
    w'.heap[h]? = some (.cells #[.int .i64 b.x0, .int .i64 b.y0, .int .i64 b.x1, .int .i64 b.y0, .int .i64 b.x1, .int .i64 b.y1, .int .i64 b.x0, .int .i64 b.y1] 23 (0, 0)) ∧ w'.heap[g]? = some (.cells #[.slice (some ⟨h, 0, none⟩) 4 4] 31 (0, 0)) ∧ w.heap.size ≤ h ∧ w.heap.size ≤ g ∧ g ≠ h ∧ Below w.heap.size w w' := by
  go_enter Try.func11, Try.ntmps11
  go_wp2
  have hh := blk_alloc (blk_new ((w.alloc (.cells #[.int .i64 b.x0, .int .i64 b.y0, .int .i64 b.x1, .int .i64 b.y1] 30)).alloc (.cells #[.int .i64 id, .int .i64 2, .slice (some ⟨w.heap.size + 1 + 1 + 1, 0, none⟩) 1 1] 27)) (.cells #[.int .i64 b.x0, .int .i64 b.y0, .int .i64 b.x1, .int .i64 b.y0, .int .i64 b.x1, .int .i64 b.y1, .int .i64 b.x0, .int .i64 b.y1] 23)) (.cells #[.slice (some ⟨w.heap.size + 1 + 1, 0, none⟩) 4 4] 31)
  have hg := blk_new (((w.alloc (.cells #[.int .i64 b.x0, .int .i64 b.y0, .int .i64 b.x1, .int .i64 b.y1] 30)).alloc (.cells #[.int .i64 id, .int .i64 2, .slice (some ⟨w.heap.size + 1 + 1 + 1, 0, none⟩) 1 1] 27)).alloc (.cells #[.int .i64 b.x0, .int .i64 b.y0, .int .i64 b.x1, .int .i64 b.y0, .int .i64 b.x1, .int .i64 b.y1, .int .i64 b.x0, .int .i64 b.y1] 23)) (.cells #[.slice (some ⟨w.heap.size + 1 + 1, 0, none⟩) 4 4] 31)
  have hf := blk_alloc (blk_alloc (blk_new (w.alloc (.cells #[.int .i64 b.x0, .int .i64 b.y0, .int .i64 b.x1, .int .i64 b.y1] 30)) (.cells #[.int .i64 id, .int .i64 2, .slice (some ⟨w.heap.size + 1 + 1 + 1, 0, none⟩) 1 1] 27)) (.cells #[.int .i64 b.x0, .int .i64 b.y0, .int .i64 b.x1, .int .i64 b.y0, .int .i64 b.x1, .int .i64 b.y1, .int .i64 b.x0, .int .i64 b.y1] 23)) (.cells #[.slice (some ⟨w.heap.size + 1 + 1, 0, none⟩) 4 4] 31)
  simp only [World.size_alloc] at hh hg hf
  have hb := below_alloc (below_alloc (below_alloc (below_alloc (Below.refl w.heap.size w) (.cells #[.int .i64 b.x0, .int .i64 b.y0, .int .i64 b.x1, .int .i64 b.y1] 30)) (.cells #[.int .i64 id, .int .i64 2, .slice (some ⟨w.heap.size + 1 + 1 + 1, 0, none⟩) 1 1] 27)) (.cells #[.int .i64 b.x0, .int .i64 b.y0, .int .i64 b.x1, .int .i64 b.y0, .int .i64 b.x1, .int .i64 b.y1, .int .i64 b.x0, .int .i64 b.y1] 23)) (.cells #[.slice (some ⟨w.heap.size + 1 + 1, 0, none⟩) 4 4] 31)
  generalize (((w.alloc (.cells #[.int .i64 b.x0, .int .i64 b.y0, .int .i64 b.x1, .int .i64 b.y1] 30)).alloc (.cells #[.int .i64 id, .int .i64 2, .slice (some ⟨w.heap.size + 1 + 1 + 1, 0, none⟩) 1 1] 27)).alloc (.cells #[.int .i64 b.x0, .int .i64 b.y0, .int .i64 b.x1, .int .i64 b.y0, .int .i64 b.x1, .int .i64 b.y1, .int .i64 b.x0, .int .i64 b.y1] 23)).alloc (.cells #[.slice (some ⟨w.heap.size + 1 + 1, 0, none⟩) 4 4] 31) = W at *
  have f0 : W.cell? ⟨w.heap.size + 1, 0, none⟩ = some (.int .i64 id) := (blk_cell hf 0).trans rfl
  have f1 : W.cell? ⟨w.heap.size + 1, 1, none⟩ = some (.int .i64 2) := (blk_cell hf 1).trans rfl
  have f2 : W.cell? ⟨w.heap.size + 1, 2, none⟩ = some (.slice (some ⟨w.heap.size + 1 + 1 + 1, 0, none⟩) 1 1) := (blk_cell hf 2).trans rfl
  refine bodyPost_ret (v := .agg #[.int .i64 id, .int .i64 2, .slice (some ⟨w.heap.size + 1 + 1 + 1, 0, none⟩) 1 1]) (by simp [f0, f1, f2, results, Try.f11, go_sem]) rfl ⟨w.heap.size + 1 + 1, w.heap.size + 1 + 1 + 1, rfl, hh, hg, by omega, by omega, by omega, hb⟩
theorem rc_ring {W : World} {s : Nat} {A : Option Addr} {n c : Nat} {ps : List S23} (h : W.heap[s]? = some (.cells #[.slice A n c] 31 (0, 0))) (hn : n = ps.length) (hc : n ≤ c) (hp : PC W A ps) : RC W (some ⟨s, 0, none⟩) [ps] := by
  refine ⟨rfl, by show (1 : Nat) ≤ _; omega, fun _ => ⟨⟨s, 0, none⟩, rfl, fun j p hp' => ?_⟩⟩
  have hj : j = 0 := by have := (List.getElem?_eq_some_iff.1 hp').1; simp at this; exact this
  subst hj
  cases hp'
  subst hn
  refine ⟨[.slice A ps.length c], rfl, ⟨A, c, rfl, hc, hp⟩, fun i u hu => ?_⟩
  have hi : i = 0 := by have := (List.getElem?_eq_some_iff.1 hu).1; simp at this; exact this
  subst hi
  cases hu
  exact (blk_cell h 0).trans rfl
/-- four points in a block -/
theorem pc_four {W : World} {h : Nat} {a b c d e f g k : Int} (hh : W.heap[h]? = some (.cells #[.int .i64 a, .int .i64 b, .int .i64 c, .int .i64 d, .int .i64 e, .int .i64 f, .int .i64 g, .int .i64 k] 23 (0, 0))) : PC W (some ⟨h, 0, none⟩) [⟨a, b⟩, ⟨c, d⟩, ⟨e, f⟩, ⟨g, k⟩] :=
  pc_block hh (by show (4 : Nat) ≤ _; omega) (fun j hj => by
    have hj4 : j < 4 := hj
    have h4 : j = 0 ∨ j = 1 ∨ j = 2 ∨ j = 3 := by omega
    rcases h4 with rfl | rfl | rfl | rfl <;> exact ⟨rfl, rfl⟩)
/-- the switch has left a feature that may not be -/
def FEnd (w : World) (fb : Nat) (W : World) : Prop := ∃ (id sh : Int) (A : Option Addr) (c : Nat) (rs : List (List S23)), W.heap[fb]? = some (.cells #[.int .i64 id, .int .i64 sh, .slice A rs.length c] 27 (0, 0)) ∧ RC W A rs ∧ mayB ⟨id, sh, rs⟩ = false ∧ Below w.heap.size w W
theorem rc_many {W : World} {s : Nat} {cs : Array Value} {rs : List (List S23)} (h : W.heap[s]? = some (.cells cs 31 (0, 0))) (hl : rs.length ≤ 9223372036854775807) (hc : ∀ (j : Nat) (p : List S23), rs[j]? = some p → ∃ (A : Option Addr) (c : Nat), cs[j]? = some (Value.slice A p.length c) ∧ p.length ≤ c ∧ PC W A p) : RC W (some ⟨s, 0, none⟩) rs := by
  refine ⟨rfl, hl, fun _ => ⟨⟨s, 0, none⟩, rfl, fun j p hp => ?_⟩⟩
  obtain ⟨A, c, h1, h2, h3⟩ := hc j p hp
  refine ⟨[.slice A p.length c], rfl, ⟨A, c, rfl, h2, h3⟩, fun i u hu => ?_⟩
  have hi : i = 0 := by have := (List.getElem?_eq_some_iff.1 hu).1; simp at this; exact this
  subst hi
  cases hu
  have e : (⟨s, 0, none⟩ : Addr).add (j * 1 + 0) = ⟨s, j, none⟩ := by rw [add_at, Nat.zero_add]; congr 1; omega
  show W.cell? ((⟨s, 0, none⟩ : Addr).add (j * 1 + 0)) = _
  rw [e]
  exact (blk_cell h j).trans h1
/-- one ring, told as rows of the call's own -/
theorem own_lit1 {W : World} {base g h n c : Nat} {ps : List S23} (hg : W.heap[g]? = some (.cells #[.slice (some ⟨h, 0, none⟩) n c] 31 (0, 0))) (hn : n = ps.length) (hc : n ≤ c) (hF : Kd.F k23 W (fun k => k = h) (some ⟨h, 0, none⟩) n ps) (hbg : base ≤ g) (hbh : base ≤ h) (hne : h ≠ g) : Own4 W base (fun k => base ≤ k) (.slice (some ⟨g, 0, none⟩) 1 1) [ps] := by
  subst hn
  have hlt := blk_lt hg
  refine ⟨fun k hk => ?_, [[.slice (some ⟨h, 0, none⟩) ps.length c]], rfl, ⟨fun k hk => hk.symm, [.slice (some ⟨h, 0, none⟩) ps.length c], ⟨rfl, .inr ⟨g, 1, #[.slice (some ⟨h, 0, none⟩) ps.length c], rfl, hbg, hg, Nat.le_refl _, by decide, rfl, rfl⟩⟩, ?_⟩, ?_⟩
  · simp [Value.ownBlock] at hk
    omega
  · refine ⟨rfl, fun j p hp => ?_⟩
    have hj : j = 0 := by have := (List.getElem?_eq_some_iff.1 hp).1; simp at this; exact this
    subst hj
    cases hp
    exact ⟨rfl, rfl, fun u hu => by have hu2 := List.mem_of_mem_take hu; rw [List.mem_singleton.1 hu2]; rfl⟩
  · intro j x c' hx hc'
    have hj : j = 0 := by have := (List.getElem?_eq_some_iff.1 hx).1; simp at this; exact this
    subst hj
    cases hx
    cases hc'
    exact Kd.FK_mono (Kd.FK_slice_mk hc hF) (fun k hk => ⟨by omega, by simp [Value.ownBlock]; omega⟩)
theorem Box_bad (f : Ft) (hm : mayB f = false) (A : Option Addr) (c : Nat) (w : World) (h : RC w A f.rings) :
    Calls Try.prog 17 #[.agg #[.int .i64 f.id, .int .i64 f.shape, .slice A f.rings.length c]] w fun e w' => e = .returned (.tuple #[.agg #[.int .i64 0, .int .i64 0, .int .i64 0, .int .i64 0], .int .i64 400]) ∧ Below w.heap.size w w' := by
  have h2 := Box_any f A c w h
  rw [show boxV f = zB by unfold boxV; rw [hm]; rfl, hm] at h2
  exact h2
theorem Has_bad (f : Ft) (hm : mayB f = false) (A : Option Addr) (c : Nat) (w : World) (h : RC w A f.rings) :
    Calls Try.prog 12 #[.agg #[.int .i64 f.id, .int .i64 f.shape, .slice A f.rings.length c], .agg #[.int .i64 0, .int .i64 0]] w fun e w' => e = .returned (.tuple #[.bool false, .int .i64 400]) ∧ Below w.heap.size w w' := by
  have h2 := Has_any f A c ⟨0, 0⟩ w h
  rw [show hasV f ⟨0, 0⟩ = false by unfold hasV; rw [hm]; rfl, hm] at h2
  exact h2
theorem Meets_bad (f : Ft) (hm : mayB f = false) (A : Option Addr) (c : Nat) (w : World) (h : RC w A f.rings) :
    Calls Try.prog 15 #[.agg #[.int .i64 f.id, .int .i64 f.shape, .slice A f.rings.length c], .agg #[.int .i64 0, .int .i64 0, .int .i64 0, .int .i64 0]] w fun e w' => e = .returned (.tuple #[.bool false, .int .i64 400]) ∧ Below w.heap.size w w' := by
  have h2 := Meets_any f A c ⟨0, 0, 0, 0⟩ w h
  rw [show meetsV f ⟨0, 0, 0, 0⟩ = false by unfold meetsV; rw [hm]; rfl, hm] at h2
  exact h2
theorem May_bad (f : Ft) (hm : mayB f = false) (A : Option Addr) (c : Nat) (w : World) (h : RC w A f.rings) :
    Calls Try.prog 14 #[.agg #[.int .i64 f.id, .int .i64 f.shape, .slice A f.rings.length c]] w fun e w' => e = .returned (.bool false) ∧ Below w.heap.size w w' := by
  have h2 := may_any f A c w h
  rw [hm] at h2
  exact h2
abbrev sq9 : List S23 := [⟨0, 0⟩, ⟨9, 0⟩, ⟨9, 9⟩, ⟨0, 9⟩]
theorem bad0 {d : Int} (h : 1 ≤ d) : mayB ⟨1 - d, 2, [sq9]⟩ = false := by
  unfold mayB; dsimp only; rw [decide_eq_false (by omega : ¬ 1 ≤ 1 - d)]; rfl
theorem bad1 {d : Int} (h : 1 ≤ d) : mayB ⟨65535 + d, 2, [sq9]⟩ = false := by
  unfold mayB; dsimp only; rw [decide_eq_false (by omega : ¬ 65535 + d ≤ 65535)]; simp
theorem bad2 {s : Int} (h : 2 < s ∨ s < 0) : mayB ⟨5, s, [sq9]⟩ = false := by
  unfold mayB; dsimp only; rw [if_neg (by omega), if_neg (by omega), if_neg (by omega), Bool.and_false]
theorem bad4 : mayB ⟨5, 2, []⟩ = false := by kernel_rfl
theorem bad5 : mayB ⟨5, 2, [sq9, sq9, sq9, sq9, sq9]⟩ = false := by kernel_rfl
theorem bad6 {n : Nat} (h : 16 < n) : mayB ⟨5, 2, [List.replicate n z23]⟩ = false := by
  unfold mayB; dsimp only
  rw [if_neg (by decide), if_neg (by decide), if_pos rfl, List.all_cons, ring_long (by rw [List.length_replicate]; exact h), Bool.false_and, Bool.and_false]
theorem bad7 : mayB ⟨5, 2, [[⟨0, 0⟩, ⟨0, 0⟩, ⟨9, 9⟩, ⟨0, 9⟩]]⟩ = false := by kernel_rfl
theorem bad8 : mayB ⟨5, 2, [[⟨0, 0⟩, ⟨9, 0⟩, ⟨9, 9⟩, ⟨0, 0⟩]]⟩ = false := by kernel_rfl
theorem bad9 : mayB ⟨5, 2, [[⟨0, 0⟩, ⟨9, 0⟩]]⟩ = false := by kernel_rfl
theorem bad10 {d : Int} (h : 1 ≤ d) : mayB ⟨5, 2, [[⟨0, 0⟩, ⟨9, 0⟩, ⟨4294967295 + d, 9⟩, ⟨0, 9⟩]]⟩ = false := by
  unfold mayB; dsimp only
  rw [if_neg (by decide), if_neg (by decide), if_pos rfl, List.all_cons, ring_bad (k := 2) (by show (2 : Nat) < 4; omega) ?_, Bool.false_and, Bool.and_false]
  unfold okAt
  rw [show ptP (rdP [⟨0, 0⟩, ⟨9, 0⟩, ⟨4294967295 + d, 9⟩, ⟨0, 9⟩] 2) = false from ?_, Bool.false_and]
  show ptP ⟨4294967295 + d, 9⟩ = false
  rw [← Bool.not_eq_true, ptP_iff]
  simp only
  omega
theorem bad11 : mayB ⟨5, 1, [sq9, sq9]⟩ = false := by kernel_rfl
theorem ring_F {W : World} {h : Nat} {a b c d e f g k : Int} (hh : W.heap[h]? = some (.cells #[.int .i64 a, .int .i64 b, .int .i64 c, .int .i64 d, .int .i64 e, .int .i64 f, .int .i64 g, .int .i64 k] 23 (0, 0))) : Kd.F k23 W (fun k => k = h) (some ⟨h, 0, none⟩) 4 [⟨a, b⟩, ⟨c, d⟩, ⟨e, f⟩, ⟨g, k⟩] :=
  fun W' hW => pc_four ((hW h rfl (blk_lt hh)).trans hh)
theorem pc_two {W : World} {h : Nat} {a b c d e f g k : Int} (hh : W.heap[h]? = some (.cells #[.int .i64 a, .int .i64 b, .int .i64 c, .int .i64 d, .int .i64 e, .int .i64 f, .int .i64 g, .int .i64 k] 23 (0, 0))) : PC W (some ⟨h, 0, none⟩) [⟨a, b⟩, ⟨c, d⟩] :=
  pc_block hh (by show (2 : Nat) ≤ _; omega) (fun j hj => by
    have hj4 : j < 2 := hj
    have h4 : j = 0 ∨ j = 1 := by omega
    rcases h4 with rfl | rfl <;> exact ⟨rfl, rfl⟩)
/-- four times the same ring in a block -/
theorem four_F {W : World} {s h : Nat} (hs : W.heap[s]? = some (.cells #[.slice (some ⟨h, 0, none⟩) 4 4, .slice (some ⟨h, 0, none⟩) 4 4, .slice (some ⟨h, 0, none⟩) 4 4, .slice (some ⟨h, 0, none⟩) 4 4] 31 (0, 0)))
    (hh : W.heap[h]? = some (.cells #[.int .i64 0, .int .i64 0, .int .i64 9, .int .i64 0, .int .i64 9, .int .i64 9, .int .i64 0, .int .i64 9] 23 (0, 0))) : Kd.F (Kd.slice 23 k23) W (fun k => k = s ∨ k = h) (some ⟨s, 0, none⟩) 4 [sq9, sq9, sq9, sq9] :=
  fun W' hW => rc_many ((hW s (.inl rfl) (blk_lt hs)).trans hs) (by show (4 : Nat) ≤ _; omega) (fun j p hp => by
    have hp4 : PC W' (some ⟨h, 0, none⟩) sq9 := pc_four ((hW h (.inr rfl) (blk_lt hh)).trans hh)
    have hj4 : j < 4 := (List.getElem?_eq_some_iff.1 hp).1
    have h4 : j = 0 ∨ j = 1 ∨ j = 2 ∨ j = 3 := by omega
    rcases h4 with rfl | rfl | rfl | rfl <;> (cases hp; exact ⟨some ⟨h, 0, none⟩, 4, rfl, Nat.le_refl _, hp4⟩))
/-- one ring of four points, told as rows of the call's own, apart from a block -/
theorem own_apart {W : World} {base g h fb : Nat} {cs : Array Value} {t : TypeId} (hf : W.heap[fb]? = some (.cells cs t (0, 0))) (hg : W.heap[g]? = some (.cells #[.slice (some ⟨h, 0, none⟩) 4 4] 31 (0, 0)))
    (hh : W.heap[h]? = some (.cells #[.int .i64 0, .int .i64 0, .int .i64 9, .int .i64 0, .int .i64 9, .int .i64 9, .int .i64 0, .int .i64 9] 23 (0, 0))) (hbg : base ≤ g) (hbh : base ≤ h) (hne : g ≠ h) (n1 : g ≠ fb) (n2 : h ≠ fb) :
    Own4 W base (fun k => base ≤ k ∧ k ≠ fb) (.slice (some ⟨g, 0, none⟩) 1 1) [sq9] := by
  have hlt := blk_lt hg
  refine ⟨fun k hk => ?_, [[.slice (some ⟨h, 0, none⟩) 4 4]], rfl, ⟨fun k hk => hk.symm, [.slice (some ⟨h, 0, none⟩) 4 4], ⟨rfl, .inr ⟨g, 1, #[.slice (some ⟨h, 0, none⟩) 4 4], rfl, hbg, hg, Nat.le_refl _, by decide, rfl, rfl⟩⟩, ?_⟩, ?_⟩
  · simp [Value.ownBlock] at hk
    omega
  · refine ⟨rfl, fun j p hp => ?_⟩
    have hj : j = 0 := by have := (List.getElem?_eq_some_iff.1 hp).1; simp at this; exact this
    subst hj
    cases hp
    exact ⟨rfl, rfl, fun u hu => by have hu2 := List.mem_of_mem_take hu; rw [List.mem_singleton.1 hu2]; rfl⟩
  · intro j x c' hx hc'
    have hj : j = 0 := by have := (List.getElem?_eq_some_iff.1 hx).1; simp at this; exact this
    subst hj
    cases hx
    cases hc'
    exact Kd.FK_mono (Kd.FK_slice_mk (Nat.le_refl 4) (ring_F hh)) (fun k hk => ⟨⟨by omega, by omega⟩, by simp [Value.ownBlock]; omega⟩)
theorem c5_may : mayB (sqF 5 ⟨0, 0, 9, 9⟩) = true := by kernel_rfl
set_option maxHeartbeats 16000000 in
set_option maxRecDepth 100000 in
theorem forms_any (which x : Int) (w : World) : Calls Try.prog 8 #[.int .i64 which, .int .i64 x] w fun e w' => e = .returned (.bool true) ∧ Below w.heap.size w w' := by
  obtain ⟨m, hm⟩ : ∃ m, Go.bits .and .i64 x 63 = m := ⟨_, rfl⟩
  have bm := and_63 x
  rw [hm] at bm
  go_enter Try.func8, Try.ntmps8
  go_wp2_with fail
  refine (awake_any _).mono ?_
  rintro e w1 ⟨rfl, hb1⟩
  have HB1 := Aside0.mk hb1
  clear hb1
  go_wp2_with fail
  refine (square_lit 5 ⟨0, 0, 9, 9⟩ w1).mono ?_
  rintro e w2 ⟨hq, gq, rfl, hh, hg, hlh, hlg, hgh, hb⟩
  have HF := Aside0.mk (blk_new w2 (.cells #[.int .i64 5, .int .i64 2, .slice (some ⟨gq, 0, none⟩) 1 1] 27))
  have HH := Aside0.mk (blk_alloc hh (.cells #[.int .i64 5, .int .i64 2, .slice (some ⟨gq, 0, none⟩) 1 1] 27))
  have HG := Aside0.mk (blk_alloc hg (.cells #[.int .i64 5, .int .i64 2, .slice (some ⟨gq, 0, none⟩) 1 1] 27))
  have HB := Aside0.mk (below_alloc (below_then HB1.out HB1.out.size hb) (.cells #[.int .i64 5, .int .i64 2, .slice (some ⟨gq, 0, none⟩) 1 1] 27))
  have hl1 := HB1.out.size
  have hgl := blk_lt hg
  have hhl := blk_lt hh
  have hl2 := hb.size
  clear hh hg hb HB1
  go_wp2_with fail
  obtain ⟨d, hd⟩ : ∃ d, 1 + m = d := ⟨_, rfl⟩
  rw [hd]
  have bd : 1 ≤ d ∧ d ≤ 64 := by omega
  have HC := Aside0.mk (rc_ring (ps := [⟨0, 0⟩, ⟨9, 0⟩, ⟨9, 9⟩, ⟨0, 9⟩]) HG.out rfl (Nat.le_refl _) (pc_four HH.out))
  have hcon := may_any (sqF 5 ⟨0, 0, 9, 9⟩) (some ⟨gq, 0, none⟩) 1 (w2.alloc (.cells #[.int .i64 5, .int .i64 2, .slice (some ⟨gq, 0, none⟩) 1 1] 27)) HC.out
  rw [c5_may] at hcon
  refine hcon.mono ?_
  rintro e V ⟨rfl, hb⟩
  replace HF := Aside0.mk (blk_below HF.out hb)
  replace HH := Aside0.mk (blk_below HH.out hb)
  replace HG := Aside0.mk (blk_below HG.out hb)
  replace HB := Aside0.mk (below_then HB.out HB.out.size hb)
  clear hb hcon HC
  generalize w2.heap.size = fb at *
  go_upto_region 9 with (fail)
  obtain ⟨k, hk⟩ : ∃ k, (IntKind.u64.wrap which).tmod 12 = k := ⟨_, rfl⟩
  rw [hk]
  have hk0 : 0 ≤ k ∧ k < 12 := by
    rw [← hk, IntKind.wrap_u64, Int.tmod_eq_emod_of_nonneg (by omega)]
    omega
  have f0 : V.cell? ⟨fb, 0, none⟩ = some (.int .i64 5) := (blk_cell HF.out 0).trans rfl
  have f1 : V.cell? ⟨fb, 1, none⟩ = some (.int .i64 2) := (blk_cell HF.out 1).trans rfl
  have f2 : V.cell? ⟨fb, 2, none⟩ = some (.slice (some ⟨gq, 0, none⟩) 1 1) := (blk_cell HF.out 2).trans rfl
  have g0 : V.cell? ⟨gq, 0, none⟩ = some (.slice (some ⟨hq, 0, none⟩) 4 4) := (blk_cell HG.out 0).trans rfl
  have h0 : V.cell? ⟨hq, 0, none⟩ = some (.int .i64 0) := (blk_cell HH.out 0).trans rfl
  have h1 : V.cell? ⟨hq, 1, none⟩ = some (.int .i64 0) := (blk_cell HH.out 1).trans rfl
  have ff := blk_frozen HF.out
  have fl := blk_lt HF.out
  have hcase : k = 0 ∨ k = 1 ∨ k = 2 ∨ k = 3 ∨ k = 4 ∨ k = 5 ∨ k = 6 ∨ k = 7 ∨ k = 8 ∨ k = 9 ∨ k = 10 ∨ k = 11 := by omega
  have hgf : gq ≠ fb := by omega
  have hhf : hq ≠ fb := by omega
  have HK := Aside0.mk (And.intro hk (And.intro hd hm))
  have HCh := Aside0.mk (pc_four HH.out)
  have HFl := Aside0.mk (show w.heap.size ≤ fb by omega)
  clear hk hk0 hd hm bm
  rcases hcase with rfl | rfl | rfl | rfl | rfl | rfl | rfl | rfl | rfl | rfl | rfl | rfl
  focus
    have e1 : IntKind.i64.wrap (1 - d) = 1 - d := IntWalk.i64_in _ ⟨by omega, by omega⟩
    have e2 : wrap64 (1 - d) = 1 - d := by unfold wrap64; omega
    go_upto_region 31 with (fail)
    have HE := Aside0.mk (show FEnd w fb (V.setCell ⟨fb, 0, none⟩ (.int .i64 (1 - d))) from ⟨1 - d, 2, (some ⟨gq, 0, none⟩), 1, [sq9], blk_put HF.out 0 (.int .i64 (1 - d)) rfl, rc_ring (blk_far (p := ⟨fb, 0, none⟩) HG.out hgf _) rfl (Nat.le_refl _) (pc_four (blk_far (p := ⟨fb, 0, none⟩) HH.out hhf _)), bad0 bd.1, HB.out.setCell (p := ⟨fb, 0, none⟩) HFl.out _⟩)
    generalize V.setCell ⟨fb, 0, none⟩ (.int .i64 (1 - d)) = W9 at HE ⊢
  rotate_left
  focus
    have e1 : IntKind.i64.wrap (65535 + d) = 65535 + d := IntWalk.i64_in _ ⟨by omega, by omega⟩
    have e2 : wrap64 (65535 + d) = 65535 + d := by unfold wrap64; omega
    go_upto_region 31 with (fail)
    have HE := Aside0.mk (show FEnd w fb (V.setCell ⟨fb, 0, none⟩ (.int .i64 (65535 + d))) from ⟨65535 + d, 2, (some ⟨gq, 0, none⟩), 1, [sq9], blk_put HF.out 0 (.int .i64 (65535 + d)) rfl, rc_ring (blk_far (p := ⟨fb, 0, none⟩) HG.out hgf _) rfl (Nat.le_refl _) (pc_four (blk_far (p := ⟨fb, 0, none⟩) HH.out hhf _)), bad1 bd.1, HB.out.setCell (p := ⟨fb, 0, none⟩) HFl.out _⟩)
    generalize V.setCell ⟨fb, 0, none⟩ (.int .i64 (65535 + d)) = W9 at HE ⊢
  rotate_left
  focus
    have e1 : IntKind.i64.wrap (2 + d) = 2 + d := IntWalk.i64_in _ ⟨by omega, by omega⟩
    have e2 : wrap64 (2 + d) = 2 + d := by unfold wrap64; omega
    go_upto_region 31 with (fail)
    have HE := Aside0.mk (show FEnd w fb (V.setCell ⟨fb, 1, none⟩ (.int .i64 (2 + d))) from ⟨5, 2 + d, (some ⟨gq, 0, none⟩), 1, [sq9], blk_put HF.out 1 (.int .i64 (2 + d)) rfl, rc_ring (blk_far (p := ⟨fb, 1, none⟩) HG.out hgf _) rfl (Nat.le_refl _) (pc_four (blk_far (p := ⟨fb, 1, none⟩) HH.out hhf _)), bad2 (by omega), HB.out.setCell (p := ⟨fb, 1, none⟩) HFl.out _⟩)
    generalize V.setCell ⟨fb, 1, none⟩ (.int .i64 (2 + d)) = W9 at HE ⊢
  rotate_left
  focus
    have e1 : IntKind.i64.wrap (-d) = -d := IntWalk.i64_in _ ⟨by omega, by omega⟩
    have e2 : wrap64 (-d) = -d := by unfold wrap64; omega
    go_upto_region 31 with (fail)
    have HE := Aside0.mk (show FEnd w fb (V.setCell ⟨fb, 1, none⟩ (.int .i64 (-d))) from ⟨5, -d, (some ⟨gq, 0, none⟩), 1, [sq9], blk_put HF.out 1 (.int .i64 (-d)) rfl, rc_ring (blk_far (p := ⟨fb, 1, none⟩) HG.out hgf _) rfl (Nat.le_refl _) (pc_four (blk_far (p := ⟨fb, 1, none⟩) HH.out hhf _)), bad2 (by omega), HB.out.setCell (p := ⟨fb, 1, none⟩) HFl.out _⟩)
    generalize V.setCell ⟨fb, 1, none⟩ (.int .i64 (-d)) = W9 at HE ⊢
  rotate_left
  focus
    go_upto_region 31 with (fail)
    have HE := Aside0.mk (show FEnd w fb (V.setCell ⟨fb, 2, none⟩ (.slice none 0 0)) from ⟨5, 2, none, 0, [], blk_put HF.out 2 (.slice none 0 0) rfl, rc_nil _, bad4, HB.out.setCell (p := ⟨fb, 2, none⟩) HFl.out _⟩)
    generalize V.setCell ⟨fb, 2, none⟩ (.slice none 0 0) = W9 at HE ⊢
  rotate_left
  focus
    have hVs : fb < V.heap.size := fl
    go_upto_region 20 with (fail)
    have HV5 := Aside0.mk (below_alloc (below_drew (Below.refl V.heap.size V)) (.cells #[.slice (some ⟨hq, 0, none⟩) 4 4, .slice (some ⟨hq, 0, none⟩) 4 4, .slice (some ⟨hq, 0, none⟩) 4 4, .slice (some ⟨hq, 0, none⟩) 4 4] 31))
    have HFv := Aside0.mk (blk_below HF.out HV5.out)
    have HHv := Aside0.mk (blk_below HH.out HV5.out)
    have HGv := Aside0.mk (blk_below HG.out HV5.out)
    have HVb := Aside0.mk (blk_new V.drew (.cells #[.slice (some ⟨hq, 0, none⟩) 4 4, .slice (some ⟨hq, 0, none⟩) 4 4, .slice (some ⟨hq, 0, none⟩) 4 4, .slice (some ⟨hq, 0, none⟩) 4 4] 31))
    have HFn := Aside0.mk (show ¬ some fb = (Value.slice (some ⟨gq, 0, none⟩) 1 1).ownBlock from fun e => by simp [Value.ownBlock] at e; omega)
    have HOw := Aside0.mk (Kd.N_alloc (Kd.N_drew (own_apart (base := w.heap.size) HF.out HG.out HH.out (by omega) (by omega) hgh (by omega) (by omega))) (.cells #[.slice (some ⟨hq, 0, none⟩) 4 4, .slice (some ⟨hq, 0, none⟩) 4 4, .slice (some ⟨hq, 0, none⟩) 4 4, .slice (some ⟨hq, 0, none⟩) 4 4] 31))
    refine start_ (n := 22) (S := fun w' => Below V.heap.size V w') (ds := [19, 21]) #[false, false, false, false, false, false, false, false, false, false, false, false, false, false, false, false, false, false, false, false, false, false] (by kernel_rfl) rfl rfl (below_drew (Below.refl _ _)) (fun hHeld => ?_)
    refine pure_ (i := 0) (N := (some 61)) (v := ?_) (a' := ?_) #[true, false, false, false, false, false, false, false, false, false, false, false, false, false, false, false, false, false, false, false, false, false] rfl rfl (by kernel_rfl) (fun _ _ _ h => h) (Or.inl ⟨by rfl, ?_⟩) ?_ ?_
    rotate_left
    · intro w'
      go_simp
      all_goals with_reducible rfl
    rotate_left
    · simp only [Act.put, List.setIfInBounds_toArray, List.set_cons_zero, List.set_cons_succ]
      rfl
    refine take_ (i := 1) (N := (some 62)) (v := ?_) (a' := ?_) #[true, true, false, false, false, false, false, false, false, false, false, false, false, false, false, false, false, false, false, false, false, false] rfl rfl (by kernel_rfl) (fun _ _ _ h => h) (Or.inl ⟨by rfl, ?_⟩) hHeld ?_ ?_
    rotate_left
    · intro w' hS'
      (try dsimp only at hS')
      have q2 := pw_cell_below hS' f2
      go_simp
      all_goals with_reducible rfl
    rotate_left
    · simp only [Act.put, List.setIfInBounds_toArray, List.set_cons_zero, List.set_cons_succ]
      rfl
    refine pure_ (i := 2) (N := (some 63)) (v := ?_) (a' := ?_) #[true, true, true, false, false, false, false, false, false, false, false, false, false, false, false, false, false, false, false, false, false, false] rfl rfl (by kernel_rfl) (fun _ _ _ h => h) (Or.inl ⟨by rfl, ?_⟩) ?_ ?_
    rotate_left
    · intro w'
      go_simp
      all_goals with_reducible rfl
    rotate_left
    · simp only [Act.put, List.setIfInBounds_toArray, List.set_cons_zero, List.set_cons_succ]
      rfl
    refine take_ (i := 3) (N := (some 64)) (v := ?_) (a' := ?_) #[true, true, true, true, false, false, false, false, false, false, false, false, false, false, false, false, false, false, false, false, false, false] rfl rfl (by kernel_rfl) (fun _ _ _ h => h) (Or.inl ⟨by rfl, ?_⟩) hHeld ?_ ?_
    rotate_left
    · intro w' hS'
      (try dsimp only at hS')
      have q2 := pw_cell_below hS' f2
      go_simp
      all_goals with_reducible rfl
    rotate_left
    · simp only [Act.put, List.setIfInBounds_toArray, List.set_cons_zero, List.set_cons_succ]
      rfl
    refine pure_ (i := 4) (N := (some 65)) (v := ?_) (a' := ?_) #[true, true, true, true, true, false, false, false, false, false, false, false, false, false, false, false, false, false, false, false, false, false] rfl rfl (by kernel_rfl) (fun _ _ _ h => h) (Or.inl ⟨by rfl, ?_⟩) ?_ ?_
    rotate_left
    · intro w'
      go_simp
      all_goals with_reducible rfl
    rotate_left
    · simp only [Act.put, List.setIfInBounds_toArray, List.set_cons_zero, List.set_cons_succ]
      rfl
    refine take_ (i := 5) (N := (some 66)) (v := ?_) (a' := ?_) #[true, true, true, true, true, true, false, false, false, false, false, false, false, false, false, false, false, false, false, false, false, false] rfl rfl (by kernel_rfl) (fun _ _ _ h => h) (Or.inl ⟨by rfl, ?_⟩) hHeld ?_ ?_
    rotate_left
    · intro w' hS'
      (try dsimp only at hS')
      have q3 := pw_cell_below hS' g0
      go_simp
      all_goals with_reducible rfl
    rotate_left
    · simp only [Act.put, List.setIfInBounds_toArray, List.set_cons_zero, List.set_cons_succ]
      rfl
    refine pure_ (i := 6) (N := (some 67)) (v := ?_) (a' := ?_) #[true, true, true, true, true, true, true, false, false, false, false, false, false, false, false, false, false, false, false, false, false, false] rfl rfl (by kernel_rfl) (fun _ _ _ h => h) (Or.inl ⟨by rfl, ?_⟩) ?_ ?_
    rotate_left
    · intro w'
      go_simp
      all_goals with_reducible rfl
    rotate_left
    · simp only [Act.put, List.setIfInBounds_toArray, List.set_cons_zero, List.set_cons_succ]
      rfl
    refine take_ (i := 7) (N := (some 68)) (v := ?_) (a' := ?_) #[true, true, true, true, true, true, true, true, false, false, false, false, false, false, false, false, false, false, false, false, false, false] rfl rfl (by kernel_rfl) (fun _ _ _ h => h) (Or.inl ⟨by rfl, ?_⟩) hHeld ?_ ?_
    rotate_left
    · intro w' hS'
      (try dsimp only at hS')
      have q2 := pw_cell_below hS' f2
      go_simp
      all_goals with_reducible rfl
    rotate_left
    · simp only [Act.put, List.setIfInBounds_toArray, List.set_cons_zero, List.set_cons_succ]
      rfl
    refine pure_ (i := 8) (N := (some 69)) (v := ?_) (a' := ?_) #[true, true, true, true, true, true, true, true, true, false, false, false, false, false, false, false, false, false, false, false, false, false] rfl rfl (by kernel_rfl) (fun _ _ _ h => h) (Or.inl ⟨by rfl, ?_⟩) ?_ ?_
    rotate_left
    · intro w'
      go_simp
      all_goals with_reducible rfl
    rotate_left
    · simp only [Act.put, List.setIfInBounds_toArray, List.set_cons_zero, List.set_cons_succ]
      rfl
    refine take_ (i := 9) (N := (some 70)) (v := ?_) (a' := ?_) #[true, true, true, true, true, true, true, true, true, true, false, false, false, false, false, false, false, false, false, false, false, false] rfl rfl (by kernel_rfl) (fun _ _ _ h => h) (Or.inl ⟨by rfl, ?_⟩) hHeld ?_ ?_
    rotate_left
    · intro w' hS'
      (try dsimp only at hS')
      have q3 := pw_cell_below hS' g0
      go_simp
      all_goals with_reducible rfl
    rotate_left
    · simp only [Act.put, List.setIfInBounds_toArray, List.set_cons_zero, List.set_cons_succ]
      rfl
    refine pure_ (i := 10) (N := (some 71)) (v := ?_) (a' := ?_) #[true, true, true, true, true, true, true, true, true, true, true, false, false, false, false, false, false, false, false, false, false, false] rfl rfl (by kernel_rfl) (fun _ _ _ h => h) (Or.inl ⟨by rfl, ?_⟩) ?_ ?_
    rotate_left
    · intro w'
      go_simp
      all_goals with_reducible rfl
    rotate_left
    · simp only [Act.put, List.setIfInBounds_toArray, List.set_cons_zero, List.set_cons_succ]
      rfl
    refine take_ (i := 11) (N := (some 72)) (v := ?_) (a' := ?_) #[true, true, true, true, true, true, true, true, true, true, true, true, false, false, false, false, false, false, false, false, false, false] rfl rfl (by kernel_rfl) (fun _ _ _ h => h) (Or.inl ⟨by rfl, ?_⟩) hHeld ?_ ?_
    rotate_left
    · intro w' hS'
      (try dsimp only at hS')
      have q2 := pw_cell_below hS' f2
      go_simp
      all_goals with_reducible rfl
    rotate_left
    · simp only [Act.put, List.setIfInBounds_toArray, List.set_cons_zero, List.set_cons_succ]
      rfl
    refine pure_ (i := 12) (N := (some 73)) (v := ?_) (a' := ?_) #[true, true, true, true, true, true, true, true, true, true, true, true, true, false, false, false, false, false, false, false, false, false] rfl rfl (by kernel_rfl) (fun _ _ _ h => h) (Or.inl ⟨by rfl, ?_⟩) ?_ ?_
    rotate_left
    · intro w'
      go_simp
      all_goals with_reducible rfl
    rotate_left
    · simp only [Act.put, List.setIfInBounds_toArray, List.set_cons_zero, List.set_cons_succ]
      rfl
    refine take_ (i := 13) (N := (some 74)) (v := ?_) (a' := ?_) #[true, true, true, true, true, true, true, true, true, true, true, true, true, true, false, false, false, false, false, false, false, false] rfl rfl (by kernel_rfl) (fun _ _ _ h => h) (Or.inl ⟨by rfl, ?_⟩) hHeld ?_ ?_
    rotate_left
    · intro w' hS'
      (try dsimp only at hS')
      have q3 := pw_cell_below hS' g0
      go_simp
      all_goals with_reducible rfl
    rotate_left
    · simp only [Act.put, List.setIfInBounds_toArray, List.set_cons_zero, List.set_cons_succ]
      rfl
    refine pure_ (i := 14) (N := (some 75)) (v := ?_) (a' := ?_) #[true, true, true, true, true, true, true, true, true, true, true, true, true, true, true, false, false, false, false, false, false, false] rfl rfl (by kernel_rfl) (fun _ _ _ h => h) (Or.inl ⟨by rfl, ?_⟩) ?_ ?_
    rotate_left
    · intro w'
      go_simp
      all_goals with_reducible rfl
    rotate_left
    · simp only [Act.put, List.setIfInBounds_toArray, List.set_cons_zero, List.set_cons_succ]
      rfl
    refine take_ (i := 15) (N := (some 76)) (v := ?_) (a' := ?_) #[true, true, true, true, true, true, true, true, true, true, true, true, true, true, true, true, false, false, false, false, false, false] rfl rfl (by kernel_rfl) (fun _ _ _ h => h) (Or.inl ⟨by rfl, ?_⟩) hHeld ?_ ?_
    rotate_left
    · intro w' hS'
      (try dsimp only at hS')
      have q2 := pw_cell_below hS' f2
      go_simp
      all_goals with_reducible rfl
    rotate_left
    · simp only [Act.put, List.setIfInBounds_toArray, List.set_cons_zero, List.set_cons_succ]
      rfl
    refine pure_ (i := 16) (N := (some 77)) (v := ?_) (a' := ?_) #[true, true, true, true, true, true, true, true, true, true, true, true, true, true, true, true, true, false, false, false, false, false] rfl rfl (by kernel_rfl) (fun _ _ _ h => h) (Or.inl ⟨by rfl, ?_⟩) ?_ ?_
    rotate_left
    · intro w'
      go_simp
      all_goals with_reducible rfl
    rotate_left
    · simp only [Act.put, List.setIfInBounds_toArray, List.set_cons_zero, List.set_cons_succ]
      rfl
    refine take_ (i := 17) (N := (some 78)) (v := ?_) (a' := ?_) #[true, true, true, true, true, true, true, true, true, true, true, true, true, true, true, true, true, true, false, false, false, false] rfl rfl (by kernel_rfl) (fun _ _ _ h => h) (Or.inl ⟨by rfl, ?_⟩) hHeld ?_ ?_
    rotate_left
    · intro w' hS'
      (try dsimp only at hS')
      have q3 := pw_cell_below hS' g0
      go_simp
      all_goals with_reducible rfl
    rotate_left
    · simp only [Act.put, List.setIfInBounds_toArray, List.set_cons_zero, List.set_cons_succ]
      rfl
    refine one_ (i := 18) (N := (some 79)) #[true, true, true, true, true, true, true, true, true, true, true, true, true, true, true, true, true, true, true, false, false, false] rfl rfl (by kernel_rfl) (by decide) (fun K hK => ?_)
    refine value_ (w1 := V.drew.alloc (.cells #[.slice (some ⟨hq, 0, none⟩) 4 4, .slice (some ⟨hq, 0, none⟩) 4 4, .slice (some ⟨hq, 0, none⟩) 4 4, .slice (some ⟨hq, 0, none⟩) 4 4] 31)) (v := .slice (some ⟨V.drew.heap.size, 0, none⟩) 4 4) (by rfl) rfl (by first | (go_simp; done) | (go_simp; rfl)) ?_
    refine hK.out _ _ (below_alloc hHeld _) (fun hHeld => ?_)
    clear hK K
    refine norm_ (a' := ?_) ?_ ?_
    rotate_left
    · show Act.put _ (some 79) _ = _
      simp only [Act.put, List.setIfInBounds_toArray, List.set_cons_zero, List.set_cons_succ]
      rfl
    refine last_ (i := 19) (N := some 80) #[true, true, true, true, true, true, true, true, true, true, true, true, true, true, true, true, true, true, true, true, false, false] rfl rfl (by kernel_rfl) (by decide) (fun K hK => ?_)
    refine Kd.N_append_rows_step (Kd.slice 23 k23) (w0 := w) w.heap.size (by rfl) (.tmp 62) (.tmp 79) 25 31 (.slice none 0 0) 24 rfl Try.underlying25 info31 rfl (by decide) (by omega) (.slice (some ⟨gq, 0, none⟩) 1 1) [sq9] [sq9, sq9, sq9, sq9] _ 4 4 (fun k => w.heap.size ≤ k ∧ k ≠ fb) (fun k => k = V.heap.size ∨ k = hq) rfl rfl HOw.out (four_F HVb.out HHv.out) (fun k hk => ⟨⟨by omega, by omega⟩, by simp [Value.ownBlock]; omega⟩) (fun k hk => by simp only [World.size_alloc] at hk; have : V.drew.heap.size = V.heap.size := rfl; omega) (below_alloc (below_drew HB.out) _) (by simp only [World.size_alloc]; have : V.drew.heap.size = V.heap.size := rfl; omega) (by show (1 + 4) * 24 ≤ _; omega) ?_
    intro v5 w5 hN5 hb5 hg5 hat5
    obtain ⟨A5, c5, rfl⟩ := Kd.N_slice hN5
    have HN5 := Aside0.mk hN5
    have HB5 := Aside0.mk hb5
    have hF5 := blk_grown HFv.out hg5 (fun e => HFn.out e)
    clear hN5 hb5 hg5 hat5
    refine hK.out _ _ ?_
    clear hK K
    refine norm_ (a' := ?_) ?_ ?_
    rotate_left
    · show Act.put _ (some 80) _ = _
      simp only [Act.put, List.setIfInBounds_toArray, List.set_cons_zero, List.set_cons_succ]
      rfl
    refine pure_ (i := 20) (N := (some 81)) (v := ?_) (a' := ?_) #[true, true, true, true, true, true, true, true, true, true, true, true, true, true, true, true, true, true, true, true, true, false] rfl rfl (by kernel_rfl) (fun _ _ _ h => h) (Or.inl ⟨by rfl, ?_⟩) ?_ ?_
    rotate_left
    · intro w'
      go_simp
      all_goals with_reducible rfl
    rotate_left
    · simp only [Act.put, List.setIfInBounds_toArray, List.set_cons_zero, List.set_cons_succ]
      rfl
    refine last_ (i := 21) (N := none) #[true, true, true, true, true, true, true, true, true, true, true, true, true, true, true, true, true, true, true, true, true, true] rfl rfl (by kernel_rfl) (by decide) (fun K hK => ?_)
    have s2 : w5.cell? ⟨fb, 2, none⟩ = some (.slice (some ⟨gq, 0, none⟩) 1 1) := (blk_cell hF5 2).trans rfl
    have sf := blk_frozen hF5 2
    have sl := blk_lt hF5
    refine skip_ (w1 := w5.setCell ⟨fb, 2, none⟩ (.slice A5 5 c5)) (by rfl) rfl ?_ ?_
    · first | (go_simp; done) | (go_simp; rfl)
    refine hK.out _ _ ?_
    clear hK K s2 sf sl
    refine done_ (by kernel_rfl) ?_
    have HN6 := Aside0.mk (Kd.N_far (p := ⟨fb, 2, none⟩) HN5.out (fun _ hk => hk.2) (.slice A5 5 c5))
    clear hHeld
    go_upto_region 31 with (fail)
    have HE := Aside0.mk (show FEnd w fb (w5.setCell ⟨fb, 2, none⟩ (.slice A5 5 c5)) from ⟨5, 2, A5, c5, [sq9, sq9, sq9, sq9, sq9], blk_put hF5 2 (.slice A5 5 c5) rfl, (Own4.reads HN6.out).1, bad5, HB5.out.setCell (p := ⟨fb, 2, none⟩) HFl.out _⟩)
    generalize w5.setCell ⟨fb, 2, none⟩ (.slice A5 5 c5) = W9 at HE ⊢
  rotate_left
  focus
    have e1 : IntKind.i64.wrap (16 + d) = 16 + d := IntWalk.i64_in _ ⟨by omega, by omega⟩
    have e2 : wrap64 (16 + d) = 16 + d := by unfold wrap64; omega
    go_upto_region 22 with (fail)
    refine start_ (n := 7) (S := fun w' => Below V.heap.size V w') (ds := [6]) #[false, false, false, false, false, false, false] (by kernel_rfl) rfl rfl (below_drew (Below.refl _ _)) (fun hHeld => ?_)
    refine pure_ (i := 0) (N := (some 84)) (v := ?_) (a' := ?_) #[true, false, false, false, false, false, false] rfl rfl (by kernel_rfl) (fun _ _ _ h => h) (Or.inl ⟨by rfl, ?_⟩) ?_ ?_
    rotate_left
    · intro w'
      go_simp
      all_goals with_reducible rfl
    rotate_left
    · simp only [Act.put, List.setIfInBounds_toArray, List.set_cons_zero, List.set_cons_succ]
      rfl
    refine take_ (i := 1) (N := (some 85)) (v := ?_) (a' := ?_) #[true, true, false, false, false, false, false] rfl rfl (by kernel_rfl) (fun _ _ _ h => h) (Or.inl ⟨by rfl, ?_⟩) hHeld ?_ ?_
    rotate_left
    · intro w' hS'
      (try dsimp only at hS')
      have q2 := pw_cell_below hS' f2
      go_simp
      all_goals with_reducible rfl
    rotate_left
    · simp only [Act.put, List.setIfInBounds_toArray, List.set_cons_zero, List.set_cons_succ]
      rfl
    refine pure_ (i := 2) (N := (some 86)) (v := ?_) (a' := ?_) #[true, true, true, false, false, false, false] rfl rfl (by kernel_rfl) (fun _ _ _ h => h) (Or.inl ⟨by rfl, ?_⟩) ?_ ?_
    rotate_left
    · intro w'
      go_simp
      all_goals with_reducible rfl
    rotate_left
    · simp only [Act.put, List.setIfInBounds_toArray, List.set_cons_zero, List.set_cons_succ]
      rfl
    refine pure_ (i := 3) (N := (some 87)) (v := .int .i64 (16 + d)) (a' := ?_) #[true, true, true, true, false, false, false] rfl rfl (by kernel_rfl) (fun _ _ _ h => h) (Or.inl ⟨by rfl, ?_⟩) ?_ ?_
    · intro w'
      go_simp
      all_goals (first | exact e1 | exact e2 | (simp [e1, e2]; done))
    rotate_left
    · simp only [Act.put, List.setIfInBounds_toArray, List.set_cons_zero, List.set_cons_succ]
      rfl
    refine one_ (i := 4) (N := (some 88)) #[true, true, true, true, true, false, false] rfl rfl (by kernel_rfl) (by decide) (fun K hK => ?_)
    refine Kd.N_make_step k23 (w0 := V.drew) 0 23 (by rfl) (N' := 88) rfl 31 (.tmp 87) (.tmp 87) rfl (16 + d) rfl rfl Try.underlying31 (.agg #[.int .i64 0, .int .i64 0]) 16 info23 rfl (by decide) (by omega) z23 (ok := fun k => k ≠ gq) (okp := fun _ => False) (k23_mkF _ _ z23) (fun _ h => h.elim) (by show V.heap.size ≠ gq; omega) (by omega) (by omega) (Below.refl _ _) (Nat.zero_le _) ?_
    intro v5 w5 hN5 _ hg5 _
    obtain ⟨A5, c5, rfl⟩ := Kd.N_slice hN5
    rw [List.length_replicate] at hN5 ⊢
    have HN5 := Aside0.mk hN5
    have hd5 : Below V.heap.size V w5 := below_then (below_drew (Below.refl _ _)) (Nat.le_refl _) ⟨hg5.os, hg5.tape, hg5.output, hg5.size, fun k hk => hg5.block k hk (by simp)⟩
    clear hN5 hg5
    refine hK.out _ _ hd5 (fun hHeld => ?_)
    clear hd5
    clear hK K
    refine norm_ (a' := ?_) ?_ ?_
    rotate_left
    · show Act.put _ (some 88) _ = _
      simp only [Act.put, List.setIfInBounds_toArray, List.set_cons_zero, List.set_cons_succ]
      rfl
    refine pure_ (i := 5) (N := (some 89)) (v := ?_) (a' := ?_) #[true, true, true, true, true, true, false] rfl rfl (by kernel_rfl) (fun _ _ _ h => h) (Or.inl ⟨by rfl, ?_⟩) ?_ ?_
    rotate_left
    · intro w'
      go_simp
      all_goals with_reducible rfl
    rotate_left
    · simp only [Act.put, List.setIfInBounds_toArray, List.set_cons_zero, List.set_cons_succ]
      rfl
    refine last_ (i := 6) (N := none) #[true, true, true, true, true, true, true] rfl rfl (by kernel_rfl) (by decide) (fun K hK => ?_)
    have hG5 := blk_below HG.out hHeld
    have s2 : w5.cell? ⟨gq, 0, none⟩ = some (.slice (some ⟨hq, 0, none⟩) 4 4) := (blk_cell hG5 0).trans rfl
    have sf := blk_frozen hG5 0
    have sl := blk_lt hG5
    refine skip_ (w1 := w5.setCell ⟨gq, 0, none⟩ (.slice A5 (16 + d).toNat c5)) (by rfl) rfl ?_ ?_
    · first | (go_simp; done) | (go_simp; rfl)
    refine hK.out _ _ ?_
    clear hK K s2 sf sl
    refine done_ (by kernel_rfl) ?_
    have hR5 := Kd.N_reads' HN5.out
    rw [List.length_replicate] at hR5
    have hF5 := blk_far (p := ⟨gq, 0, none⟩) (blk_below HF.out hHeld) (Ne.symm hgf) (.slice A5 (16 + d).toNat c5)
    have hB5 := (below_then HB.out HB.out.size hHeld).setCell (p := ⟨gq, 0, none⟩) (show w.heap.size ≤ gq by omega) (.slice A5 (16 + d).toNat c5)
    have HPc := Aside0.mk (show PC (w5.setCell ⟨gq, 0, none⟩ (.slice A5 (16 + d).toNat c5)) A5 (List.replicate (16 + d).toNat z23) from by have hN6 := Kd.N_far (p := ⟨gq, 0, none⟩) HN5.out (fun _ hk => hk) (.slice A5 (16 + d).toNat c5); exact (Kd.N_reads' hN6).2.2)
    have hG6 := blk_put hG5 0 (.slice A5 (16 + d).toNat c5) rfl
    clear hHeld hG5
    go_upto_region 31 with (fail)
    have HE := Aside0.mk (show FEnd w fb (w5.setCell ⟨gq, 0, none⟩ (.slice A5 (16 + d).toNat c5)) from ⟨5, 2, (some ⟨gq, 0, none⟩), 1, [List.replicate (16 + d).toNat z23], hF5, rc_ring hG6 (by rw [List.length_replicate]) hR5.2.1 HPc.out, bad6 (by omega), hB5⟩)
    generalize w5.setCell ⟨gq, 0, none⟩ (.slice A5 (16 + d).toNat c5) = W9 at HE ⊢
  rotate_left
  focus
    go_upto_region 24 with (fail)
    refine start_ (n := 12) (S := fun w' => Below V.heap.size V w') (ds := [11]) #[false, false, false, false, false, false, false, false, false, false, false, false] (by kernel_rfl) rfl rfl (below_drew (Below.refl _ _)) (fun hHeld => ?_)
    generalize V.drew = wd at hHeld ⊢
    refine pure_ (i := 0) (N := (some 92)) (v := ?_) (a' := ?_) #[true, false, false, false, false, false, false, false, false, false, false, false] rfl rfl (by kernel_rfl) (fun _ _ _ h => h) (Or.inl ⟨by rfl, ?_⟩) ?_ ?_
    rotate_left
    · intro w'
      go_simp
      all_goals with_reducible rfl
    rotate_left
    · simp only [Act.put, List.setIfInBounds_toArray, List.set_cons_zero, List.set_cons_succ]
      rfl
    refine take_ (i := 1) (N := (some 93)) (v := ?_) (a' := ?_) #[true, true, false, false, false, false, false, false, false, false, false, false] rfl rfl (by kernel_rfl) (fun _ _ _ h => h) (Or.inl ⟨by rfl, ?_⟩) hHeld ?_ ?_
    rotate_left
    · intro w' hS'
      (try dsimp only at hS')
      have q2 := pw_cell_below hS' f2
      go_simp
      all_goals with_reducible rfl
    rotate_left
    · simp only [Act.put, List.setIfInBounds_toArray, List.set_cons_zero, List.set_cons_succ]
      rfl
    refine pure_ (i := 2) (N := (some 94)) (v := ?_) (a' := ?_) #[true, true, true, false, false, false, false, false, false, false, false, false] rfl rfl (by kernel_rfl) (fun _ _ _ h => h) (Or.inl ⟨by rfl, ?_⟩) ?_ ?_
    rotate_left
    · intro w'
      go_simp
      all_goals with_reducible rfl
    rotate_left
    · simp only [Act.put, List.setIfInBounds_toArray, List.set_cons_zero, List.set_cons_succ]
      rfl
    refine take_ (i := 3) (N := (some 95)) (v := ?_) (a' := ?_) #[true, true, true, true, false, false, false, false, false, false, false, false] rfl rfl (by kernel_rfl) (fun _ _ _ h => h) (Or.inl ⟨by rfl, ?_⟩) hHeld ?_ ?_
    rotate_left
    · intro w' hS'
      (try dsimp only at hS')
      have q3 := pw_cell_below hS' g0
      go_simp
      all_goals with_reducible rfl
    rotate_left
    · simp only [Act.put, List.setIfInBounds_toArray, List.set_cons_zero, List.set_cons_succ]
      rfl
    refine pure_ (i := 4) (N := (some 96)) (v := ?_) (a' := ?_) #[true, true, true, true, true, false, false, false, false, false, false, false] rfl rfl (by kernel_rfl) (fun _ _ _ h => h) (Or.inl ⟨by rfl, ?_⟩) ?_ ?_
    rotate_left
    · intro w'
      go_simp
      all_goals with_reducible rfl
    rotate_left
    · simp only [Act.put, List.setIfInBounds_toArray, List.set_cons_zero, List.set_cons_succ]
      rfl
    refine take_ (i := 5) (N := (some 97)) (v := ?_) (a' := ?_) #[true, true, true, true, true, true, false, false, false, false, false, false] rfl rfl (by kernel_rfl) (fun _ _ _ h => h) (Or.inl ⟨by rfl, ?_⟩) hHeld ?_ ?_
    rotate_left
    · intro w' hS'
      (try dsimp only at hS')
      have q2 := pw_cell_below hS' f2
      go_simp
      all_goals with_reducible rfl
    rotate_left
    · simp only [Act.put, List.setIfInBounds_toArray, List.set_cons_zero, List.set_cons_succ]
      rfl
    refine pure_ (i := 6) (N := (some 98)) (v := ?_) (a' := ?_) #[true, true, true, true, true, true, true, false, false, false, false, false] rfl rfl (by kernel_rfl) (fun _ _ _ h => h) (Or.inl ⟨by rfl, ?_⟩) ?_ ?_
    rotate_left
    · intro w'
      go_simp
      all_goals with_reducible rfl
    rotate_left
    · simp only [Act.put, List.setIfInBounds_toArray, List.set_cons_zero, List.set_cons_succ]
      rfl
    refine take_ (i := 7) (N := (some 99)) (v := ?_) (a' := ?_) #[true, true, true, true, true, true, true, true, false, false, false, false] rfl rfl (by kernel_rfl) (fun _ _ _ h => h) (Or.inl ⟨by rfl, ?_⟩) hHeld ?_ ?_
    rotate_left
    · intro w' hS'
      (try dsimp only at hS')
      have q3 := pw_cell_below hS' g0
      go_simp
      all_goals with_reducible rfl
    rotate_left
    · simp only [Act.put, List.setIfInBounds_toArray, List.set_cons_zero, List.set_cons_succ]
      rfl
    refine pure_ (i := 8) (N := (some 100)) (v := ?_) (a' := ?_) #[true, true, true, true, true, true, true, true, true, false, false, false] rfl rfl (by kernel_rfl) (fun _ _ _ h => h) (Or.inl ⟨by rfl, ?_⟩) ?_ ?_
    rotate_left
    · intro w'
      go_simp
      all_goals with_reducible rfl
    rotate_left
    · simp only [Act.put, List.setIfInBounds_toArray, List.set_cons_zero, List.set_cons_succ]
      rfl
    refine take_ (i := 9) (N := (some 101)) (v := ?_) (a' := ?_) #[true, true, true, true, true, true, true, true, true, true, false, false] rfl rfl (by kernel_rfl) (fun _ _ _ h => h) (Or.inl ⟨by rfl, ?_⟩) hHeld ?_ ?_
    rotate_left
    · intro w' hS'
      (try dsimp only at hS')
      have q0 := pw_cell_below hS' h0
      have q1 := pw_cell_below hS' h1
      go_simp
      all_goals with_reducible rfl
    rotate_left
    · simp only [Act.put, List.setIfInBounds_toArray, List.set_cons_zero, List.set_cons_succ]
      rfl
    refine pure_ (i := 10) (N := (some 102)) (v := ?_) (a' := ?_) #[true, true, true, true, true, true, true, true, true, true, true, false] rfl rfl (by kernel_rfl) (fun _ _ _ h => h) (Or.inl ⟨by rfl, ?_⟩) ?_ ?_
    rotate_left
    · intro w'
      go_simp
      all_goals with_reducible rfl
    rotate_left
    · simp only [Act.put, List.setIfInBounds_toArray, List.set_cons_zero, List.set_cons_succ]
      rfl
    refine last_ (i := 11) (N := none) #[true, true, true, true, true, true, true, true, true, true, true, true] rfl rfl (by kernel_rfl) (by decide) (fun K hK => ?_)
    have hH5 := blk_below HH.out hHeld
    have s2 : wd.cell? ⟨hq, 2, none⟩ = some (.int .i64 9) := (blk_cell hH5 2).trans rfl
    have s3 : wd.cell? ⟨hq, 3, none⟩ = some (.int .i64 0) := (blk_cell hH5 3).trans rfl
    have sf := blk_frozen hH5
    have sl := blk_lt hH5
    refine skip_ (w1 := (wd.setCell ⟨hq, 2, none⟩ (.int .i64 0)).setCell ⟨hq, 3, none⟩ (.int .i64 0)) (by rfl) rfl ?_ ?_
    · first | (go_simp; done) | (go_simp; rfl)
    refine hK.out _ _ ?_
    clear hK K s2 s3 sf sl
    refine done_ (by kernel_rfl) ?_
    have hF5 := (blk_far (p := ⟨hq, 3, none⟩) (blk_far (p := ⟨hq, 2, none⟩) (blk_below HF.out hHeld) (Ne.symm hhf) (.int .i64 0)) (Ne.symm hhf) (.int .i64 0))
    have hG5 := (blk_far (p := ⟨hq, 3, none⟩) (blk_far (p := ⟨hq, 2, none⟩) (blk_below HG.out hHeld) hgh (.int .i64 0)) hgh (.int .i64 0))
    have hP5 := blk_put (blk_put hH5 2 (.int .i64 0) rfl) 3 (.int .i64 0) rfl
    have hB5 := ((below_then HB.out HB.out.size hHeld).setCell (p := ⟨hq, 2, none⟩) (show w.heap.size ≤ hq by omega) (.int .i64 0)).setCell (p := ⟨hq, 3, none⟩) (show w.heap.size ≤ hq by omega) (.int .i64 0)
    clear hHeld hH5
    go_upto_region 31 with (fail)
    have HE := Aside0.mk (show FEnd w fb ((wd.setCell ⟨hq, 2, none⟩ (.int .i64 0)).setCell ⟨hq, 3, none⟩ (.int .i64 0)) from ⟨5, 2, (some ⟨gq, 0, none⟩), 1, [[⟨0, 0⟩, ⟨0, 0⟩, ⟨9, 9⟩, ⟨0, 9⟩]], hF5, rc_ring hG5 rfl (Nat.le_refl _) (pc_four hP5), bad7, hB5⟩)
    generalize (wd.setCell ⟨hq, 2, none⟩ (.int .i64 0)).setCell ⟨hq, 3, none⟩ (.int .i64 0) = W9 at HE ⊢
  rotate_left
  focus
    go_upto_region 26 with (fail)
    refine start_ (n := 12) (S := fun w' => Below V.heap.size V w') (ds := [11]) #[false, false, false, false, false, false, false, false, false, false, false, false] (by kernel_rfl) rfl rfl (below_drew (Below.refl _ _)) (fun hHeld => ?_)
    generalize V.drew = wd at hHeld ⊢
    refine pure_ (i := 0) (N := (some 105)) (v := ?_) (a' := ?_) #[true, false, false, false, false, false, false, false, false, false, false, false] rfl rfl (by kernel_rfl) (fun _ _ _ h => h) (Or.inl ⟨by rfl, ?_⟩) ?_ ?_
    rotate_left
    · intro w'
      go_simp
      all_goals with_reducible rfl
    rotate_left
    · simp only [Act.put, List.setIfInBounds_toArray, List.set_cons_zero, List.set_cons_succ]
      rfl
    refine take_ (i := 1) (N := (some 106)) (v := ?_) (a' := ?_) #[true, true, false, false, false, false, false, false, false, false, false, false] rfl rfl (by kernel_rfl) (fun _ _ _ h => h) (Or.inl ⟨by rfl, ?_⟩) hHeld ?_ ?_
    rotate_left
    · intro w' hS'
      (try dsimp only at hS')
      have q2 := pw_cell_below hS' f2
      go_simp
      all_goals with_reducible rfl
    rotate_left
    · simp only [Act.put, List.setIfInBounds_toArray, List.set_cons_zero, List.set_cons_succ]
      rfl
    refine pure_ (i := 2) (N := (some 107)) (v := ?_) (a' := ?_) #[true, true, true, false, false, false, false, false, false, false, false, false] rfl rfl (by kernel_rfl) (fun _ _ _ h => h) (Or.inl ⟨by rfl, ?_⟩) ?_ ?_
    rotate_left
    · intro w'
      go_simp
      all_goals with_reducible rfl
    rotate_left
    · simp only [Act.put, List.setIfInBounds_toArray, List.set_cons_zero, List.set_cons_succ]
      rfl
    refine take_ (i := 3) (N := (some 108)) (v := ?_) (a' := ?_) #[true, true, true, true, false, false, false, false, false, false, false, false] rfl rfl (by kernel_rfl) (fun _ _ _ h => h) (Or.inl ⟨by rfl, ?_⟩) hHeld ?_ ?_
    rotate_left
    · intro w' hS'
      (try dsimp only at hS')
      have q3 := pw_cell_below hS' g0
      go_simp
      all_goals with_reducible rfl
    rotate_left
    · simp only [Act.put, List.setIfInBounds_toArray, List.set_cons_zero, List.set_cons_succ]
      rfl
    refine pure_ (i := 4) (N := (some 109)) (v := ?_) (a' := ?_) #[true, true, true, true, true, false, false, false, false, false, false, false] rfl rfl (by kernel_rfl) (fun _ _ _ h => h) (Or.inl ⟨by rfl, ?_⟩) ?_ ?_
    rotate_left
    · intro w'
      go_simp
      all_goals with_reducible rfl
    rotate_left
    · simp only [Act.put, List.setIfInBounds_toArray, List.set_cons_zero, List.set_cons_succ]
      rfl
    refine take_ (i := 5) (N := (some 110)) (v := ?_) (a' := ?_) #[true, true, true, true, true, true, false, false, false, false, false, false] rfl rfl (by kernel_rfl) (fun _ _ _ h => h) (Or.inl ⟨by rfl, ?_⟩) hHeld ?_ ?_
    rotate_left
    · intro w' hS'
      (try dsimp only at hS')
      have q2 := pw_cell_below hS' f2
      go_simp
      all_goals with_reducible rfl
    rotate_left
    · simp only [Act.put, List.setIfInBounds_toArray, List.set_cons_zero, List.set_cons_succ]
      rfl
    refine pure_ (i := 6) (N := (some 111)) (v := ?_) (a' := ?_) #[true, true, true, true, true, true, true, false, false, false, false, false] rfl rfl (by kernel_rfl) (fun _ _ _ h => h) (Or.inl ⟨by rfl, ?_⟩) ?_ ?_
    rotate_left
    · intro w'
      go_simp
      all_goals with_reducible rfl
    rotate_left
    · simp only [Act.put, List.setIfInBounds_toArray, List.set_cons_zero, List.set_cons_succ]
      rfl
    refine take_ (i := 7) (N := (some 112)) (v := ?_) (a' := ?_) #[true, true, true, true, true, true, true, true, false, false, false, false] rfl rfl (by kernel_rfl) (fun _ _ _ h => h) (Or.inl ⟨by rfl, ?_⟩) hHeld ?_ ?_
    rotate_left
    · intro w' hS'
      (try dsimp only at hS')
      have q3 := pw_cell_below hS' g0
      go_simp
      all_goals with_reducible rfl
    rotate_left
    · simp only [Act.put, List.setIfInBounds_toArray, List.set_cons_zero, List.set_cons_succ]
      rfl
    refine pure_ (i := 8) (N := (some 113)) (v := ?_) (a' := ?_) #[true, true, true, true, true, true, true, true, true, false, false, false] rfl rfl (by kernel_rfl) (fun _ _ _ h => h) (Or.inl ⟨by rfl, ?_⟩) ?_ ?_
    rotate_left
    · intro w'
      go_simp
      all_goals with_reducible rfl
    rotate_left
    · simp only [Act.put, List.setIfInBounds_toArray, List.set_cons_zero, List.set_cons_succ]
      rfl
    refine take_ (i := 9) (N := (some 114)) (v := ?_) (a' := ?_) #[true, true, true, true, true, true, true, true, true, true, false, false] rfl rfl (by kernel_rfl) (fun _ _ _ h => h) (Or.inl ⟨by rfl, ?_⟩) hHeld ?_ ?_
    rotate_left
    · intro w' hS'
      (try dsimp only at hS')
      have q0 := pw_cell_below hS' h0
      have q1 := pw_cell_below hS' h1
      go_simp
      all_goals with_reducible rfl
    rotate_left
    · simp only [Act.put, List.setIfInBounds_toArray, List.set_cons_zero, List.set_cons_succ]
      rfl
    refine pure_ (i := 10) (N := (some 115)) (v := ?_) (a' := ?_) #[true, true, true, true, true, true, true, true, true, true, true, false] rfl rfl (by kernel_rfl) (fun _ _ _ h => h) (Or.inl ⟨by rfl, ?_⟩) ?_ ?_
    rotate_left
    · intro w'
      go_simp
      all_goals with_reducible rfl
    rotate_left
    · simp only [Act.put, List.setIfInBounds_toArray, List.set_cons_zero, List.set_cons_succ]
      rfl
    refine last_ (i := 11) (N := none) #[true, true, true, true, true, true, true, true, true, true, true, true] rfl rfl (by kernel_rfl) (by decide) (fun K hK => ?_)
    have hH5 := blk_below HH.out hHeld
    have s2 : wd.cell? ⟨hq, 6, none⟩ = some (.int .i64 0) := (blk_cell hH5 6).trans rfl
    have s3 : wd.cell? ⟨hq, 7, none⟩ = some (.int .i64 9) := (blk_cell hH5 7).trans rfl
    have sf := blk_frozen hH5
    have sl := blk_lt hH5
    refine skip_ (w1 := (wd.setCell ⟨hq, 6, none⟩ (.int .i64 0)).setCell ⟨hq, 7, none⟩ (.int .i64 0)) (by rfl) rfl ?_ ?_
    · first | (go_simp; done) | (go_simp; rfl)
    refine hK.out _ _ ?_
    clear hK K s2 s3 sf sl
    refine done_ (by kernel_rfl) ?_
    have hF5 := (blk_far (p := ⟨hq, 7, none⟩) (blk_far (p := ⟨hq, 6, none⟩) (blk_below HF.out hHeld) (Ne.symm hhf) (.int .i64 0)) (Ne.symm hhf) (.int .i64 0))
    have hG5 := (blk_far (p := ⟨hq, 7, none⟩) (blk_far (p := ⟨hq, 6, none⟩) (blk_below HG.out hHeld) hgh (.int .i64 0)) hgh (.int .i64 0))
    have hP5 := blk_put (blk_put hH5 6 (.int .i64 0) rfl) 7 (.int .i64 0) rfl
    have hB5 := ((below_then HB.out HB.out.size hHeld).setCell (p := ⟨hq, 6, none⟩) (show w.heap.size ≤ hq by omega) (.int .i64 0)).setCell (p := ⟨hq, 7, none⟩) (show w.heap.size ≤ hq by omega) (.int .i64 0)
    clear hHeld hH5
    go_upto_region 31 with (fail)
    have HE := Aside0.mk (show FEnd w fb ((wd.setCell ⟨hq, 6, none⟩ (.int .i64 0)).setCell ⟨hq, 7, none⟩ (.int .i64 0)) from ⟨5, 2, (some ⟨gq, 0, none⟩), 1, [[⟨0, 0⟩, ⟨9, 0⟩, ⟨9, 9⟩, ⟨0, 0⟩]], hF5, rc_ring hG5 rfl (Nat.le_refl _) (pc_four hP5), bad8, hB5⟩)
    generalize (wd.setCell ⟨hq, 6, none⟩ (.int .i64 0)).setCell ⟨hq, 7, none⟩ (.int .i64 0) = W9 at HE ⊢
  rotate_left
  focus
    go_upto_region 28 with (fail)
    refine start_ (n := 9) (S := fun w' => Below V.heap.size V w') (ds := [8]) #[false, false, false, false, false, false, false, false, false] (by kernel_rfl) rfl rfl (below_drew (Below.refl _ _)) (fun hHeld => ?_)
    refine pure_ (i := 0) (N := (some 118)) (v := ?_) (a' := ?_) #[true, false, false, false, false, false, false, false, false] rfl rfl (by kernel_rfl) (fun _ _ _ h => h) (Or.inl ⟨by rfl, ?_⟩) ?_ ?_
    rotate_left
    · intro w'
      go_simp
      all_goals with_reducible rfl
    rotate_left
    · simp only [Act.put, List.setIfInBounds_toArray, List.set_cons_zero, List.set_cons_succ]
      rfl
    refine take_ (i := 1) (N := (some 119)) (v := ?_) (a' := ?_) #[true, true, false, false, false, false, false, false, false] rfl rfl (by kernel_rfl) (fun _ _ _ h => h) (Or.inl ⟨by rfl, ?_⟩) hHeld ?_ ?_
    rotate_left
    · intro w' hS'
      (try dsimp only at hS')
      have q2 := pw_cell_below hS' f2
      go_simp
      all_goals with_reducible rfl
    rotate_left
    · simp only [Act.put, List.setIfInBounds_toArray, List.set_cons_zero, List.set_cons_succ]
      rfl
    refine pure_ (i := 2) (N := (some 120)) (v := ?_) (a' := ?_) #[true, true, true, false, false, false, false, false, false] rfl rfl (by kernel_rfl) (fun _ _ _ h => h) (Or.inl ⟨by rfl, ?_⟩) ?_ ?_
    rotate_left
    · intro w'
      go_simp
      all_goals with_reducible rfl
    rotate_left
    · simp only [Act.put, List.setIfInBounds_toArray, List.set_cons_zero, List.set_cons_succ]
      rfl
    refine take_ (i := 3) (N := (some 121)) (v := ?_) (a' := ?_) #[true, true, true, true, false, false, false, false, false] rfl rfl (by kernel_rfl) (fun _ _ _ h => h) (Or.inl ⟨by rfl, ?_⟩) hHeld ?_ ?_
    rotate_left
    · intro w' hS'
      (try dsimp only at hS')
      have q2 := pw_cell_below hS' f2
      go_simp
      all_goals with_reducible rfl
    rotate_left
    · simp only [Act.put, List.setIfInBounds_toArray, List.set_cons_zero, List.set_cons_succ]
      rfl
    refine pure_ (i := 4) (N := (some 122)) (v := ?_) (a' := ?_) #[true, true, true, true, true, false, false, false, false] rfl rfl (by kernel_rfl) (fun _ _ _ h => h) (Or.inl ⟨by rfl, ?_⟩) ?_ ?_
    rotate_left
    · intro w'
      go_simp
      all_goals with_reducible rfl
    rotate_left
    · simp only [Act.put, List.setIfInBounds_toArray, List.set_cons_zero, List.set_cons_succ]
      rfl
    refine take_ (i := 5) (N := (some 123)) (v := ?_) (a' := ?_) #[true, true, true, true, true, true, false, false, false] rfl rfl (by kernel_rfl) (fun _ _ _ h => h) (Or.inl ⟨by rfl, ?_⟩) hHeld ?_ ?_
    rotate_left
    · intro w' hS'
      (try dsimp only at hS')
      have q3 := pw_cell_below hS' g0
      go_simp
      all_goals with_reducible rfl
    rotate_left
    · simp only [Act.put, List.setIfInBounds_toArray, List.set_cons_zero, List.set_cons_succ]
      rfl
    refine pure_ (i := 6) (N := (some 124)) (v := ?_) (a' := ?_) #[true, true, true, true, true, true, true, false, false] rfl rfl (by kernel_rfl) (fun _ _ _ h => h) (Or.inl ⟨by rfl, ?_⟩) ?_ ?_
    rotate_left
    · intro w'
      go_simp
      all_goals with_reducible rfl
    rotate_left
    · simp only [Act.put, List.setIfInBounds_toArray, List.set_cons_zero, List.set_cons_succ]
      rfl
    refine pure_ (i := 7) (N := (some 125)) (v := ?_) (a' := ?_) #[true, true, true, true, true, true, true, true, false] rfl rfl (by kernel_rfl) (fun _ _ _ h => h) (Or.inl ⟨by rfl, ?_⟩) ?_ ?_
    rotate_left
    · intro w'
      go_simp
      all_goals with_reducible rfl
    rotate_left
    · simp only [Act.put, List.setIfInBounds_toArray, List.set_cons_zero, List.set_cons_succ]
      rfl
    refine last_ (i := 8) (N := none) #[true, true, true, true, true, true, true, true, true] rfl rfl (by kernel_rfl) (by decide) (fun K hK => ?_)
    have hG5 := blk_below HG.out hHeld
    have s2 : V.drew.cell? ⟨gq, 0, none⟩ = some (.slice (some ⟨hq, 0, none⟩) 4 4) := (blk_cell hG5 0).trans rfl
    have sf := blk_frozen hG5 0
    have sl := blk_lt hG5
    refine skip_ (w1 := V.drew.setCell ⟨gq, 0, none⟩ (.slice (some ⟨hq, 0, none⟩) 2 4)) (by rfl) rfl ?_ ?_
    · first | (go_simp; done) | (go_simp; rfl)
    refine hK.out _ _ ?_
    clear hK K s2 sf sl
    refine done_ (by kernel_rfl) ?_
    have hF5 := blk_far (p := ⟨gq, 0, none⟩) (blk_below HF.out hHeld) (Ne.symm hgf) (.slice (some ⟨hq, 0, none⟩) 2 4)
    have hH5 := blk_far (p := ⟨gq, 0, none⟩) (blk_below HH.out hHeld) (Ne.symm hgh) (.slice (some ⟨hq, 0, none⟩) 2 4)
    have hG6 := blk_put hG5 0 (.slice (some ⟨hq, 0, none⟩) 2 4) rfl
    have hB5 := (below_then HB.out HB.out.size hHeld).setCell (p := ⟨gq, 0, none⟩) (show w.heap.size ≤ gq by omega) (.slice (some ⟨hq, 0, none⟩) 2 4)
    clear hHeld hG5
    go_upto_region 31 with (fail)
    have HE := Aside0.mk (show FEnd w fb (V.drew.setCell ⟨gq, 0, none⟩ (.slice (some ⟨hq, 0, none⟩) 2 4)) from ⟨5, 2, (some ⟨gq, 0, none⟩), 1, [[⟨0, 0⟩, ⟨9, 0⟩]], hF5, rc_ring hG6 rfl (by omega) (pc_two hH5), bad9, hB5⟩)
    generalize V.drew.setCell ⟨gq, 0, none⟩ (.slice (some ⟨hq, 0, none⟩) 2 4) = W9 at HE ⊢
  rotate_left
  focus
    have e1 : IntKind.i64.wrap (4294967295 + d) = 4294967295 + d := IntWalk.i64_in _ ⟨by omega, by omega⟩
    have e2 : wrap64 (4294967295 + d) = 4294967295 + d := by unfold wrap64; omega
    have s4 : V.cell? ⟨hq, 4, none⟩ = some (.int .i64 9) := (blk_cell HH.out 4).trans rfl
    have sf := blk_frozen HH.out
    have sl := blk_lt HH.out
    go_upto_region 31 with (fail)
    clear s4 sf sl
    have HE := Aside0.mk (show FEnd w fb (V.setCell ⟨hq, 4, none⟩ (.int .i64 (4294967295 + d))) from ⟨5, 2, (some ⟨gq, 0, none⟩), 1, [[⟨0, 0⟩, ⟨9, 0⟩, ⟨4294967295 + d, 9⟩, ⟨0, 9⟩]], (blk_far (p := ⟨hq, 4, none⟩) HF.out (Ne.symm hhf) _), rc_ring (blk_far (p := ⟨hq, 4, none⟩) HG.out hgh _) rfl (Nat.le_refl _) (pc_four (blk_put HH.out 4 (.int .i64 (4294967295 + d)) rfl)), bad10 bd.1, HB.out.setCell (p := ⟨hq, 4, none⟩) (show w.heap.size ≤ hq by omega) _⟩)
    generalize V.setCell ⟨hq, 4, none⟩ (.int .i64 (4294967295 + d)) = W9 at HE ⊢
  rotate_left
  focus
    go_upto_region 8 with (fail)
    have HF1 := Aside0.mk (blk_put HF.out 1 (.int .i64 1) rfl)
    have HG1 := Aside0.mk (blk_far (p := ⟨fb, 1, none⟩) HG.out hgf (.int .i64 1))
    have HH1 := Aside0.mk (blk_far (p := ⟨fb, 1, none⟩) HH.out hhf (.int .i64 1))
    have HB1 := Aside0.mk (HB.out.setCell (p := ⟨fb, 1, none⟩) HFl.out (.int .i64 1))
    have hls : w.heap.size ≤ gq ∧ w.heap.size ≤ hq := by omega
    clear HF HG HH HB f0 f1 f2 ff fl g0 h0 h1
    generalize V.setCell ⟨fb, 1, none⟩ (.int .i64 1) = V1 at *
    have HF := Aside0.mk (show V1.heap[fb]? = some (.cells #[.int .i64 5, .int .i64 1, .slice (some ⟨gq, 0, none⟩) 1 1] 27 (0, 0)) from HF1.out)
    have HG := Aside0.mk HG1.out
    have HH := Aside0.mk HH1.out
    have HB := Aside0.mk HB1.out
    clear HF1 HG1 HH1 HB1
    have f2 : V1.cell? ⟨fb, 2, none⟩ = some (.slice (some ⟨gq, 0, none⟩) 1 1) := (blk_cell HF.out 2).trans rfl
    have g0 : V1.cell? ⟨gq, 0, none⟩ = some (.slice (some ⟨hq, 0, none⟩) 4 4) := (blk_cell HG.out 0).trans rfl
    have fl := blk_lt HF.out
    have HV5 := Aside0.mk (below_drew (Below.refl V1.heap.size V1))
    have HFv := Aside0.mk (blk_below HF.out HV5.out)
    have HHv := Aside0.mk (blk_below HH.out HV5.out)
    have HFn := Aside0.mk (show ¬ some fb = (Value.slice (some ⟨gq, 0, none⟩) 1 1).ownBlock from fun e => by simp [Value.ownBlock] at e; omega)
    have HOw := Aside0.mk (Kd.N_drew (own_apart (base := w.heap.size) HF.out HG.out HH.out hls.1 hls.2 hgh (by omega) (by omega)))
    refine start_ (n := 10) (S := fun w' => Below V1.heap.size V1 w') (ds := [7, 9]) #[false, false, false, false, false, false, false, false, false, false] (by kernel_rfl) rfl rfl (below_drew (Below.refl _ _)) (fun hHeld => ?_)
    refine pure_ (i := 0) (N := (some 27)) (v := ?_) (a' := ?_) #[true, false, false, false, false, false, false, false, false, false] rfl rfl (by kernel_rfl) (fun _ _ _ h => h) (Or.inl ⟨by rfl, ?_⟩) ?_ ?_
    rotate_left
    · intro w'
      go_simp
      all_goals with_reducible rfl
    rotate_left
    · simp only [Act.put, List.setIfInBounds_toArray, List.set_cons_zero, List.set_cons_succ]
      rfl
    refine take_ (i := 1) (N := (some 28)) (v := ?_) (a' := ?_) #[true, true, false, false, false, false, false, false, false, false] rfl rfl (by kernel_rfl) (fun _ _ _ h => h) (Or.inl ⟨by rfl, ?_⟩) hHeld ?_ ?_
    rotate_left
    · intro w' hS'
      (try dsimp only at hS')
      have q2 := pw_cell_below hS' f2
      go_simp
      all_goals with_reducible rfl
    rotate_left
    · simp only [Act.put, List.setIfInBounds_toArray, List.set_cons_zero, List.set_cons_succ]
      rfl
    refine pure_ (i := 2) (N := (some 29)) (v := ?_) (a' := ?_) #[true, true, true, false, false, false, false, false, false, false] rfl rfl (by kernel_rfl) (fun _ _ _ h => h) (Or.inl ⟨by rfl, ?_⟩) ?_ ?_
    rotate_left
    · intro w'
      go_simp
      all_goals with_reducible rfl
    rotate_left
    · simp only [Act.put, List.setIfInBounds_toArray, List.set_cons_zero, List.set_cons_succ]
      rfl
    refine take_ (i := 3) (N := (some 30)) (v := ?_) (a' := ?_) #[true, true, true, true, false, false, false, false, false, false] rfl rfl (by kernel_rfl) (fun _ _ _ h => h) (Or.inl ⟨by rfl, ?_⟩) hHeld ?_ ?_
    rotate_left
    · intro w' hS'
      (try dsimp only at hS')
      have q2 := pw_cell_below hS' f2
      go_simp
      all_goals with_reducible rfl
    rotate_left
    · simp only [Act.put, List.setIfInBounds_toArray, List.set_cons_zero, List.set_cons_succ]
      rfl
    refine pure_ (i := 4) (N := (some 31)) (v := ?_) (a' := ?_) #[true, true, true, true, true, false, false, false, false, false] rfl rfl (by kernel_rfl) (fun _ _ _ h => h) (Or.inl ⟨by rfl, ?_⟩) ?_ ?_
    rotate_left
    · intro w'
      go_simp
      all_goals with_reducible rfl
    rotate_left
    · simp only [Act.put, List.setIfInBounds_toArray, List.set_cons_zero, List.set_cons_succ]
      rfl
    refine take_ (i := 5) (N := (some 32)) (v := ?_) (a' := ?_) #[true, true, true, true, true, true, false, false, false, false] rfl rfl (by kernel_rfl) (fun _ _ _ h => h) (Or.inl ⟨by rfl, ?_⟩) hHeld ?_ ?_
    rotate_left
    · intro w' hS'
      (try dsimp only at hS')
      have q3 := pw_cell_below hS' g0
      go_simp
      all_goals with_reducible rfl
    rotate_left
    · simp only [Act.put, List.setIfInBounds_toArray, List.set_cons_zero, List.set_cons_succ]
      rfl
    refine one_ (i := 6) (N := (some 33)) #[true, true, true, true, true, true, true, false, false, false] rfl rfl (by kernel_rfl) (by decide) (fun K hK => ?_)
    refine value_ (w1 := V1.drew.alloc (.cells #[.slice (some ⟨hq, 0, none⟩) 4 4] 31)) (v := .slice (some ⟨V1.drew.heap.size, 0, none⟩) 1 1) (by rfl) rfl (by first | (go_simp; done) | (go_simp; rfl)) ?_
    refine hK.out _ _ (below_alloc hHeld _) (fun hHeld => ?_)
    clear hK K
    refine norm_ (a' := ?_) ?_ ?_
    rotate_left
    · show Act.put _ (some 33) _ = _
      simp only [Act.put, List.setIfInBounds_toArray, List.set_cons_zero, List.set_cons_succ]
      rfl
    refine last_ (i := 7) (N := some 34) #[true, true, true, true, true, true, true, true, false, false] rfl rfl (by kernel_rfl) (by decide) (fun K hK => ?_)
    refine Kd.N_append_step (Kd.slice 23 k23) (w0 := w) w.heap.size (by rfl) (.tmp 28) (.tmp 33) 25 31 (.slice none 0 0) 24 rfl Try.underlying25 info31 rfl (by decide) (by omega) (.slice (some ⟨gq, 0, none⟩) 1 1) [sq9] sq9 [.slice (some ⟨hq, 0, none⟩) 4 4] (fun k => w.heap.size ≤ k ∧ k ≠ fb) (fun k => k = hq) rfl rfl (Kd.FK_slice_mk (Nat.le_refl 4) (ring_F HHv.out)) (fun k hk => ⟨⟨by omega, by omega⟩, by simp [Value.ownBlock]; omega⟩) (fun k hk => by have : V1.drew.heap.size = V1.heap.size := rfl; omega) HOw.out (below_drew HB.out) (by have : V1.drew.heap.size = V1.heap.size := rfl; omega) (by show (1 + 1) * 24 ≤ _; omega) ?_
    intro v5 w5 hN5 hb5 hg5 hat5
    obtain ⟨A5, c5, rfl⟩ := Kd.N_slice hN5
    have HN5 := Aside0.mk hN5
    have HB5 := Aside0.mk hb5
    have hF5 := blk_grown HFv.out hg5 (fun e => HFn.out e)
    clear hN5 hb5 hg5 hat5
    refine hK.out _ _ ?_
    clear hK K
    refine norm_ (a' := ?_) ?_ ?_
    rotate_left
    · show Act.put _ (some 34) _ = _
      simp only [Act.put, List.setIfInBounds_toArray, List.set_cons_zero, List.set_cons_succ]
      rfl
    refine pure_ (i := 8) (N := (some 35)) (v := ?_) (a' := ?_) #[true, true, true, true, true, true, true, true, true, false] rfl rfl (by kernel_rfl) (fun _ _ _ h => h) (Or.inl ⟨by rfl, ?_⟩) ?_ ?_
    rotate_left
    · intro w'
      go_simp
      all_goals with_reducible rfl
    rotate_left
    · simp only [Act.put, List.setIfInBounds_toArray, List.set_cons_zero, List.set_cons_succ]
      rfl
    refine last_ (i := 9) (N := none) #[true, true, true, true, true, true, true, true, true, true] rfl rfl (by kernel_rfl) (by decide) (fun K hK => ?_)
    have s2 : w5.cell? ⟨fb, 2, none⟩ = some (.slice (some ⟨gq, 0, none⟩) 1 1) := (blk_cell hF5 2).trans rfl
    have sf := blk_frozen hF5 2
    have sl := blk_lt hF5
    refine skip_ (w1 := w5.setCell ⟨fb, 2, none⟩ (.slice A5 2 c5)) (by rfl) rfl ?_ ?_
    · first | (go_simp; done) | (go_simp; rfl)
    refine hK.out _ _ ?_
    clear hK K s2 sf sl
    refine done_ (by kernel_rfl) ?_
    have HN6 := Aside0.mk (Kd.N_far (p := ⟨fb, 2, none⟩) HN5.out (fun _ hk => hk.2) (.slice A5 2 c5))
    clear hHeld
    go_upto_region 31 with (fail)
    have HE := Aside0.mk (show FEnd w fb (w5.setCell ⟨fb, 2, none⟩ (.slice A5 2 c5)) from ⟨5, 1, A5, c5, [sq9, sq9], blk_put hF5 2 (.slice A5 2 c5) rfl, (Own4.reads HN6.out).1, bad11, HB5.out.setCell (p := ⟨fb, 2, none⟩) HFl.out _⟩)
    generalize w5.setCell ⟨fb, 2, none⟩ (.slice A5 2 c5) = W9 at HE ⊢
  rotate_left
  all_goals
   (skip
    try clear f0
    try clear f1
    try clear f2
    try clear g0
    try clear h0
    try clear h1
    try clear ff
    try clear fl
    obtain ⟨id9, sh9, A9, c9, rs9, hF9, hC9, hBad9, hB9⟩ := HE.out
    have HF9 := Aside0.mk hF9
    have HC9 := Aside0.mk hC9
    have HBad9 := Aside0.mk hBad9
    have HB9 := Aside0.mk hB9
    clear hF9 hC9 hBad9 hB9 HE
    have f0 : W9.cell? ⟨fb, 0, none⟩ = some (.int .i64 id9) := (blk_cell HF9.out 0).trans rfl
    have f1 : W9.cell? ⟨fb, 1, none⟩ = some (.int .i64 sh9) := (blk_cell HF9.out 1).trans rfl
    have f2 : W9.cell? ⟨fb, 2, none⟩ = some (.slice A9 rs9.length c9) := (blk_cell HF9.out 2).trans rfl
    have fl := blk_lt HF9.out
    go_wp2_with fail
    clear f0 f1 f2 fl
    refine (Box_bad ⟨id9, sh9, rs9⟩ HBad9.out A9 c9 W9 HC9.out).mono ?_
    rintro e Wa ⟨rfl, hb⟩
    replace HF9 := Aside0.mk (blk_below HF9.out hb)
    replace HC9 := Aside0.mk (Kd.C_below HC9.out hb)
    replace HB9 := Aside0.mk (below_then HB9.out HB9.out.size hb)
    clear hb
    have f0 : Wa.cell? ⟨fb, 0, none⟩ = some (.int .i64 id9) := (blk_cell HF9.out 0).trans rfl
    have f1 : Wa.cell? ⟨fb, 1, none⟩ = some (.int .i64 sh9) := (blk_cell HF9.out 1).trans rfl
    have f2 : Wa.cell? ⟨fb, 2, none⟩ = some (.slice A9 rs9.length c9) := (blk_cell HF9.out 2).trans rfl
    have fl := blk_lt HF9.out
    go_wp2_with fail
    clear f0 f1 f2 fl
    replace HF9 := Aside0.mk (blk_alloc HF9.out (.cells #[.int .i64 0, .int .i64 0, .int .i64 0, .int .i64 0] 30))
    replace HC9 := Aside0.mk (Kd.C_below HC9.out (below_alloc (Below.refl _ _) (.cells #[.int .i64 0, .int .i64 0, .int .i64 0, .int .i64 0] 30)))
    replace HB9 := Aside0.mk (below_alloc HB9.out (.cells #[.int .i64 0, .int .i64 0, .int .i64 0, .int .i64 0] 30))
    generalize Wa.alloc (.cells #[.int .i64 0, .int .i64 0, .int .i64 0, .int .i64 0] 30) = Wb at *
    refine (Has_bad ⟨id9, sh9, rs9⟩ HBad9.out A9 c9 Wb HC9.out).mono ?_
    rintro e Wc ⟨rfl, hb⟩
    replace HF9 := Aside0.mk (blk_below HF9.out hb)
    replace HC9 := Aside0.mk (Kd.C_below HC9.out hb)
    replace HB9 := Aside0.mk (below_then HB9.out HB9.out.size hb)
    clear hb
    have f0 : Wc.cell? ⟨fb, 0, none⟩ = some (.int .i64 id9) := (blk_cell HF9.out 0).trans rfl
    have f1 : Wc.cell? ⟨fb, 1, none⟩ = some (.int .i64 sh9) := (blk_cell HF9.out 1).trans rfl
    have f2 : Wc.cell? ⟨fb, 2, none⟩ = some (.slice A9 rs9.length c9) := (blk_cell HF9.out 2).trans rfl
    have fl := blk_lt HF9.out
    go_wp2_with fail
    clear f0 f1 f2 fl
    refine (Meets_bad ⟨id9, sh9, rs9⟩ HBad9.out A9 c9 Wc HC9.out).mono ?_
    rintro e Wd ⟨rfl, hb⟩
    replace HF9 := Aside0.mk (blk_below HF9.out hb)
    replace HC9 := Aside0.mk (Kd.C_below HC9.out hb)
    replace HB9 := Aside0.mk (below_then HB9.out HB9.out.size hb)
    clear hb
    have f0 : Wd.cell? ⟨fb, 0, none⟩ = some (.int .i64 id9) := (blk_cell HF9.out 0).trans rfl
    have f1 : Wd.cell? ⟨fb, 1, none⟩ = some (.int .i64 sh9) := (blk_cell HF9.out 1).trans rfl
    have f2 : Wd.cell? ⟨fb, 2, none⟩ = some (.slice A9 rs9.length c9) := (blk_cell HF9.out 2).trans rfl
    have fl := blk_lt HF9.out
    go_wp2_with fail
    clear f0 f1 f2 fl
    refine (May_bad ⟨id9, sh9, rs9⟩ HBad9.out A9 c9 Wd HC9.out).mono ?_
    rintro e We ⟨rfl, hb⟩
    replace HF9 := Aside0.mk (blk_below HF9.out hb)
    replace HC9 := Aside0.mk (Kd.C_below HC9.out hb)
    replace HB9 := Aside0.mk (below_then HB9.out HB9.out.size hb)
    clear hb
    have f0 : We.cell? ⟨fb, 0, none⟩ = some (.int .i64 id9) := (blk_cell HF9.out 0).trans rfl
    have f1 : We.cell? ⟨fb, 1, none⟩ = some (.int .i64 sh9) := (blk_cell HF9.out 1).trans rfl
    have f2 : We.cell? ⟨fb, 2, none⟩ = some (.slice A9 rs9.length c9) := (blk_cell HF9.out 2).trans rfl
    have fl := blk_lt HF9.out
    go_wp2_with ((go_at_call 13; refine (num_any _ _).mono ?_; rintro e w' ⟨rfl, rfl⟩))
    go_ret
    exact ⟨rfl, HB9.out⟩)
end Go.Proofs.Ytmednnpmkhgfpaa.SH
