/- Who owns what: the plain law of the statement LockOnce. -/
import Derived.Test.YtmmamceijnnfdaaLkS
namespace Go.Proofs.Ytmmamceijnnfdaa.LK
open Go Go.RowKit Go.Maps Go.Proofs.YtmmamceijnnfdaaW.PrintWords Go.Proofs.Ytmmamceijnnfdaa.PLockActs
set_option linter.unusedVariables false

instance : DecidableEq S30 := fun a b => if h : eqTx a b = true then isTrue (eqTx_iff.1 h) else isFalse (fun e => h (eqTx_iff.2 e))
/-- who is named loses what it had -/
def gone (t u : S30) : S30 := if u = t then z30 else u
def OwnInv (own : Nat → S30) (L : List S55) : Prop := ∀ k, k < 8 → 0 < (own k).f1 → ∃ x ∈ L, x.f0 = own k ∧ hasId x.f1 k = true
def LoneInv (lone : S30) (L : List S55) : Prop := 0 < lone.f1 → ∃ x ∈ L, x.f0 = lone ∧ x.f2 = true
theorem mem_free {L : List S55} {t : S30} {x : S55} (h : x ∈ L) (hn : x.f0 ≠ t) : x ∈ freeL L t :=
  List.mem_filter.2 ⟨h, by simp [staysL, stays, eqTx_false.2 hn]⟩
theorem own_free {own : Nat → S30} {L : List S55} (h : OwnInv own L) (t : S30) : OwnInv (fun i => gone t (own i)) (freeL L t) := by
  intro k hk hp
  unfold gone at hp ⊢
  by_cases e : own k = t
  · simp [e, z30] at hp
  · simp only [e, if_false] at hp ⊢
    obtain ⟨x, hx, h1, h2⟩ := h k hk hp
    exact ⟨x, mem_free hx (by rw [h1]; exact e), h1, h2⟩
theorem lone_free {lone : S30} {L : List S55} (h : LoneInv lone L) (t : S30) : LoneInv (gone t lone) (freeL L t) := by
  intro hp
  unfold gone at hp ⊢
  by_cases e : lone = t
  · simp [e, z30] at hp
  · simp only [e, if_false] at hp ⊢
    obtain ⟨x, hx, h1, h2⟩ := h hp
    exact ⟨x, mem_free hx (by rw [h1]; exact e), h1, h2⟩
section
variable {L : List S55} {t : S30} {ids : List Int} {all : Bool}
theorem took_lone (ho : takeOkL L t ids all = true) {lone : S30} (h : LoneInv lone L) : ¬ 0 < lone.f1 := by
  intro hp
  obtain ⟨x, hx, _, h2⟩ := h hp
  have := (okL_iff.1 ho x hx).1.2.1
  rw [h2] at this
  cases this
theorem took_all (ho : takeOkL L t ids all = true) (ha : all = true) : L = [] := by
  cases L with
  | nil => rfl
  | cons x l =>
    have := (okL_iff.1 ho x (List.mem_cons_self ..)).1.2.2
    rw [ha] at this
    cases this
theorem took_is (ho : takeOkL L t ids all = true) : takenL L t ids all = L ++ [⟨t, ids, all⟩] := by
  unfold takenL
  rw [ho]
  rfl
theorem not_took (ho : takeOkL L t ids all = false) : takenL L t ids all = L := by
  unfold takenL
  rw [ho]
  rfl
theorem lone_taken (ho : takeOkL L t ids all = true) {lone : S30} (h : LoneInv lone L) : LoneInv (if all = true then t else lone) (takenL L t ids all) := by
  intro hp
  cases all with
  | true => exact ⟨⟨t, ids, true⟩, by rw [took_is ho]; simp, rfl, rfl⟩
  | false => exact absurd hp (took_lone ho h)
theorem own_taken (ho : takeOkL L t ids all = true) {own : Nat → S30} (h : OwnInv own L) : OwnInv own (takenL L t ids all) := by
  intro k hk hp
  obtain ⟨x, hx, r⟩ := h k hk hp
  exact ⟨x, by rw [took_is ho]; exact List.mem_append_left _ hx, r⟩
theorem own_mine (ho : takeOkL L t ids all = true) {own : Nat → S30} (h : OwnInv own (takenL L t ids all)) (k : Nat) (hk : k < 8) (hm : (k : Int) ∈ ids) (hp : 0 < (own k).f1) : own k = t := by
  obtain ⟨x, hx, h1, h2⟩ := h k hk hp
  rw [took_is ho] at hx
  rcases List.mem_append.1 hx with hx | hx
  · have := (okL_iff.1 ho x hx).2 k hm
    rw [h2] at this
    cases this
  · rw [List.mem_singleton] at hx
    subst hx
    exact h1.symm
theorem own_put (ho : takeOkL L t ids all = true) {own : Nat → S30} (h : OwnInv own (takenL L t ids all)) (k : Nat) (hm : (k : Int) ∈ ids) : OwnInv (fun i => if i = k then t else own i) (takenL L t ids all) := by
  intro j hj hp
  by_cases e : j = k
  · subst e
    simp only [if_true]
    exact ⟨⟨t, ids, all⟩, by rw [took_is ho]; simp, rfl, hasId_iff.2 hm⟩
  · simp only [e, if_false] at hp ⊢
    exact h j hj hp
end
def goneTo (own : Nat → S30) (t : S30) (m i : Nat) : S30 := if i < m then gone t (own i) else own i
theorem gone_here (own : Nat → S30) (t : S30) (m : Nat) : goneTo own t m m = own m := by simp [goneTo]
theorem gone_yes {own : Nat → S30} {t : S30} {m : Nat} (h : own m = t) : (fun i => if i = m then z30 else goneTo own t m i) = goneTo own t (m + 1) := by
  funext i
  unfold goneTo
  by_cases e : i = m
  · subst e
    simp [gone, h]
  · by_cases l : i < m
    · simp [e, l, Nat.lt_succ_of_lt l]
    · have : ¬ i < m + 1 := by omega
      simp [e, l, this]
theorem gone_no {own : Nat → S30} {t : S30} {m : Nat} (h : own m ≠ t) : goneTo own t m = goneTo own t (m + 1) := by
  funext i
  unfold goneTo
  by_cases e : i = m
  · subst e
    simp [gone, h]
  · by_cases l : i < m
    · simp [l, Nat.lt_succ_of_lt l]
    · have : ¬ i < m + 1 := by omega
      simp [l, this]
theorem gone_none (own : Nat → S30) (t : S30) : goneTo own t 0 = own := by funext i; simp [goneTo]
theorem own_gone {own : Nat → S30} {L : List S55} (h : OwnInv own L) (t : S30) : OwnInv (goneTo own t 8) (freeL L t) := by
  intro k hk hp
  have e : goneTo own t 8 k = gone t (own k) := by simp [goneTo, hk]
  rw [e] at hp ⊢
  exact own_free h t k hk hp
theorem gone_lone_no {t u : S30} (h : u ≠ t) : gone t u = u := by simp [gone, h]
theorem gone_lone_yes (t : S30) : gone t t = z30 := by simp [gone]
/-! ### the owners in memory -/
def OwnAt (w : World) (ob : Nat) (own : Nat → S30) : Prop :=
  ∃ cells : Array Value, w.heap[ob]? = some (.cells cells 46 (0, 0)) ∧ cells.size = 16 ∧ ∀ k, k < 8 → cells[k * 2]? = some (.int .i64 (own k).f0) ∧ cells[k * 2 + 1]? = some (.int .i64 (own k).f1)
theorem OwnAt.step {w w1 : World} {ob : Nat} {own : Nat → S30} (h : OwnAt w ob own) (hm : ob < w.heap.size → w1.heap[ob]? = w.heap[ob]?) : OwnAt w1 ob own := by
  obtain ⟨cells, h1, r⟩ := h
  exact ⟨cells, (hm (blk_lt h1)).trans h1, r⟩
theorem OwnAt.cell {w : World} {ob : Nat} {own : Nat → S30} (h : OwnAt w ob own) (k : Nat) (hk : k < 8) : w.cell? ⟨ob, k * 2, none⟩ = some (.int .i64 (own k).f0) ∧ w.cell? ⟨ob, k * 2 + 1, none⟩ = some (.int .i64 (own k).f1) := by
  obtain ⟨cells, h1, h2, h3⟩ := h
  exact ⟨(blk_cell h1 _).trans (h3 k hk).1, (blk_cell h1 _).trans (h3 k hk).2⟩
theorem OwnAt.frozen {w : World} {ob : Nat} {own : Nat → S30} (h : OwnAt w ob own) (j : Nat) : w.frozen? ⟨ob, j, none⟩ = false := by
  obtain ⟨cells, h1, _⟩ := h
  exact blk_frozen h1 j
theorem OwnAt.lt {w : World} {ob : Nat} {own : Nat → S30} (h : OwnAt w ob own) : ob < w.heap.size := by
  obtain ⟨cells, h1, _⟩ := h
  exact blk_lt h1
theorem OwnAt.put {w : World} {ob : Nat} {own : Nat → S30} (h : OwnAt w ob own) (k : Nat) (hk : k < 8) (t : S30) : OwnAt ((w.setCell ⟨ob, k * 2, none⟩ (.int .i64 t.f0)).setCell ⟨ob, k * 2 + 1, none⟩ (.int .i64 t.f1)) ob (fun i => if i = k then t else own i) := by
  obtain ⟨cells, h1, h2, h3⟩ := h
  refine ⟨_, blk_put (blk_put h1 _ _ rfl) _ _ rfl, by simp [h2], fun j hj => ?_⟩
  obtain ⟨a, b⟩ := h3 j hj
  have hs := h2
  by_cases e : j = k
  · subst e
    simp only [if_true]
    constructor
    · simp [Array.getElem?_setIfInBounds, h2]; omega
    · simp [Array.getElem?_setIfInBounds, h2]; omega
  · simp only [e, if_false]
    constructor
    · rw [Array.getElem?_setIfInBounds, Array.getElem?_setIfInBounds, if_neg (by omega), if_neg (by omega)]; exact a
    · rw [Array.getElem?_setIfInBounds, Array.getElem?_setIfInBounds, if_neg (by omega), if_neg (by omega)]; exact b
end Go.Proofs.Ytmmamceijnnfdaa.LK
