/- The table of locks is the document's own list, in plain words. -/
import Derived.Test.YtmmamceijnnfdaaLkH
namespace Go.Proofs.Ytmmamceijnnfdaa.LK
open Go Go.RowKit Go.Maps Go.Proofs.YtmmamceijnnfdaaW.PrintWords Go.Proofs.Ytmmamceijnnfdaa.PLockActs

/-- the table that holds what the list holds -/
def absS (L : List S55) : TabS := ⟨fun id => (L.find? fun x => hasId x.f1 id).map (·.f0), (L.find? (·.f2)).map (·.f0), txsL L⟩
/-- no two have one name or one id; who holds everything is alone -/
def Apart (x y : S55) : Prop := x.f0 ≠ y.f0 ∧ (∀ id, hasId x.f1 id = true → hasId y.f1 id = false) ∧ x.f2 = false ∧ y.f2 = false
def Inv (L : List S55) : Prop := L.Pairwise Apart
theorem inv_nil : Inv [] := List.Pairwise.nil
theorem abs_nil : absS [] = tab0 := rfl
theorem eqTx_comm (t u : S30) : eqTx t u = eqTx u t := by
  unfold eqTx
  rw [Bool.beq_comm, Bool.beq_comm (a := t.f1)]
theorem okL_iff {L : List S55} {t : S30} {ids : List Int} {all : Bool} : takeOkL L t ids all = true ↔ ∀ x ∈ L, (x.f0 ≠ t ∧ x.f2 = false ∧ all = false) ∧ ∀ id ∈ ids, hasId x.f1 id = false := by
  unfold takeOkL apartL
  rw [List.all_eq_true]
  simp [eqTx_false, and_assoc]
theorem find_none_iff {α : Type} {p : α → Bool} {l : List α} : (l.find? p).isNone = true ↔ ∀ x ∈ l, p x = false := by
  rw [Option.isNone_iff_eq_none, List.find?_eq_none]
  simp
theorem abs_takeOk (L : List S55) (t : S30) (ids : List Int) (all : Bool) : takeOk (absS L) t ids all = takeOkL L t ids all := by
  rw [Bool.eq_iff_iff, okL_iff]
  have h1 : barred (absS L) t all = false ↔ (∀ x ∈ L, x.f0 ≠ t) ∧ (∀ x ∈ L, x.f2 = false) ∧ (all = true → L = []) := by
    unfold barred absS hasTx txsL
    simp only [Bool.or_eq_false_iff, List.any_eq_false, Option.isSome_map]
    constructor
    · rintro ⟨a, b, c⟩
      refine ⟨fun x hx e => ?_, ?_, ?_⟩
      · exact a x.f0 (List.mem_map.2 ⟨x, hx, rfl⟩) (eqTx_iff.2 e.symm)
      · rw [← find_none_iff, Option.isNone_iff_eq_none, ← Option.not_isSome_iff_eq_none]
        simpa using b
      · intro ha
        rw [ha] at c
        cases L with
        | nil => rfl
        | cons x l => simp at c
    · rintro ⟨a, b, c⟩
      refine ⟨fun u hu e => ?_, ?_, ?_⟩
      · obtain ⟨x, hx, rfl⟩ := List.mem_map.1 hu
        exact a x hx (eqTx_iff.1 e).symm
      · rw [← find_none_iff, Option.isNone_iff_eq_none] at b
        simp [b]
      · cases all with
        | false => rfl
        | true => rw [c rfl]; rfl
  have h2 : freeIds (absS L) ids = true ↔ ∀ id ∈ ids, ∀ x ∈ L, hasId x.f1 id = false := by
    unfold freeIds absS
    rw [List.all_eq_true]
    constructor
    · intro h id hid
      have := h id hid
      rw [Option.isNone_map] at this
      exact find_none_iff.1 this
    · intro h id hid
      rw [Option.isNone_map]
      exact find_none_iff.2 (h id hid)
  unfold takeOk
  rw [Bool.and_eq_true, Bool.not_eq_true', h1, h2]
  constructor
  · rintro ⟨⟨a, b, c⟩, d⟩ x hx
    refine ⟨⟨a x hx, b x hx, ?_⟩, fun id hid => d id hid x hx⟩
    cases all with
    | false => rfl
    | true => rw [c rfl] at hx; cases hx
  · intro h
    refine ⟨⟨fun x hx => (h x hx).1.1, fun x hx => (h x hx).1.2.1, fun ha => ?_⟩, fun id hid x hx => (h x hx).2 id hid⟩
    cases L with
    | nil => rfl
    | cons x l =>
      have := (h x (List.mem_cons_self ..)).1.2.2
      rw [ha] at this
      cases this
theorem hasId_iff {l : List Int} {x : Int} : hasId l x = true ↔ x ∈ l := by
  unfold hasId
  simp
theorem inv_taken {L : List S55} (h : Inv L) (t : S30) (ids : List Int) (all : Bool) : Inv (takenL L t ids all) := by
  unfold takenL
  split
  · rename_i ho
    rw [okL_iff] at ho
    refine List.pairwise_append.2 ⟨h, List.pairwise_singleton _ _, fun x hx y hy => ?_⟩
    rw [List.mem_singleton] at hy
    subst hy
    obtain ⟨⟨a, b, c⟩, d⟩ := ho x hx
    refine ⟨a, fun id hid => ?_, b, c⟩
    rw [← Bool.not_eq_true]
    intro h2
    have := d id (hasId_iff.1 h2)
    rw [hid] at this
    cases this
  · exact h
theorem abs_taken (L : List S55) (t : S30) (ids : List Int) (all : Bool) : takenS (absS L) t ids all = absS (takenL L t ids all) := by
  unfold takenS takenL
  rw [abs_takeOk]
  split
  · rename_i ho
    rw [okL_iff] at ho
    unfold takeS absS txsL
    simp only [TabS.mk.injEq]
    refine ⟨?_, ?_, by simp⟩
    · funext id
      rw [List.find?_append]
      cases e : hasId ids id
      · simp [e]
      · have hn : L.find? (fun x => hasId x.f1 id) = none := by
          rw [List.find?_eq_none]
          intro x hx
          rw [(ho x hx).2 id (hasId_iff.1 e)]
          simp
        simp [e, hn]
    · rw [List.find?_append]
      have hn : L.find? (·.f2) = none := by
        rw [List.find?_eq_none]
        intro x hx
        rw [(ho x hx).1.2.1]
        simp
      rw [hn]
      cases all <;> simp
  · rfl
theorem find_free {p : S55 → Bool} (t : S30) : ∀ {L : List S55}, L.Pairwise (fun x y => p x = true → p y = false) → dropTx t ((L.find? p).map (·.f0)) = ((freeL L t).find? p).map (·.f0)
  | [], _ => rfl
  | x :: l, h => by
    obtain ⟨h1, h2⟩ := List.pairwise_cons.1 h
    have ih := find_free t h2
    unfold freeL at ih ⊢
    rw [List.filter_cons]
    cases e : p x
    · rw [List.find?_cons_of_neg (by simp [e]), ih]
      split
      · rw [List.find?_cons_of_neg (by simp [e])]
      · rfl
    · rw [List.find?_cons_of_pos e]
      cases e2 : eqTx x.f0 t
      · rw [if_pos (by simp [staysL, stays, e2]), List.find?_cons_of_pos e]
        simp [dropTx, e2]
      · rw [if_neg (by simp [staysL, stays, e2])]
        have hn : (l.filter (staysL t)).find? p = none := by
          rw [List.find?_eq_none]
          intro y hy
          rw [h1 y (List.mem_filter.1 hy).1 e]
          simp
        rw [hn]
        simp [dropTx, e2]
theorem abs_free {L : List S55} (h : Inv L) (t : S30) : freeS (absS L) t = absS (freeL L t) := by
  unfold freeS absS
  simp only [TabS.mk.injEq]
  refine ⟨?_, find_free t (h.imp (fun {x y} hxy hp => hxy.2.2.2)), ?_⟩
  · funext id
    exact find_free t (h.imp (fun {x y} hxy => hxy.2.1 id))
  · unfold txsL freeL
    rw [List.filter_map]
    rfl
theorem inv_free {L : List S55} (h : Inv L) (t : S30) : Inv (freeL L t) := h.filter _
theorem abs_holder {L : List S55} (h : Inv L) (id : Int) : holderOf (absS L) id = holderL L id := by
  have gen : ∀ l : List S55, (∀ x ∈ l, x.f2 = false) → holderL l id = match (l.find? fun x => hasId x.f1 id).map (·.f0) with | some t => (t, true) | none => (z30, false) := by
    intro l
    induction l with
    | nil => intro _; rfl
    | cons x l ih =>
      intro hl
      have hx := hl x (List.mem_cons_self ..)
      unfold holderL meets
      rw [hx, Bool.false_or]
      cases e : hasId x.f1 id
      · rw [List.find?_cons_of_neg (by simp [e]), ← ih (fun y hy => hl y (List.mem_cons_of_mem _ hy))]
        rfl
      · rw [List.find?_cons_of_pos (p := fun x : S55 => hasId x.f1 id) e]
        rfl
  unfold holderOf absS
  cases hw : L.find? (·.f2) with
  | none =>
    rw [List.find?_eq_none] at hw
    rw [gen L (fun x hx => by simpa using hw x hx)]
    rfl
  | some u =>
    cases L with
    | nil => cases hw
    | cons x l =>
      cases l with
      | nil =>
        cases e : x.f2
        · rw [List.find?_cons_of_neg (by simp [e])] at hw
          cases hw
        · rw [List.find?_cons_of_pos e] at hw
          cases hw
          simp [holderL, meets, e]
      | cons y l =>
        exfalso
        obtain ⟨h1, h2⟩ := List.pairwise_cons.1 h
        have hm := List.mem_of_find?_eq_some hw
        have hp := List.find?_some hw
        rcases List.mem_cons.1 hm with rfl | hm'
        · have := (h1 y (List.mem_cons_self ..)).2.2.1
          simp [this] at hp
        · have := (h1 u hm').2.2.2
          simp [this] at hp
end Go.Proofs.Ytmmamceijnnfdaa.LK
