/- What the small functions on slices answer, in plain words. -/
import Derived.Test.YtmmamceijnnfdaaLkA
namespace Go.Proofs.Ytmmamceijnnfdaa.LK
open Go Go.RowKit Go.Maps Go.Proofs.YtmmamceijnnfdaaW.PrintWords Go.Proofs.Ytmmamceijnnfdaa.PLockActs

def eqTx (t u : S30) : Bool := t.f0 == u.f0 && t.f1 == u.f1
theorem eqTx_iff {t u : S30} : eqTx t u = true ↔ t = u := by
  cases t; cases u; simp [eqTx]
theorem eqTx_false {t u : S30} : eqTx t u = false ↔ t ≠ u := by
  rw [← Bool.not_eq_true, eqTx_iff]
def hasTx (l : List S30) (t : S30) : Bool := l.any (eqTx t)
theorem wrap_next {i n : Int} (h0 : 0 ≤ i) (h1 : i < n) (hn : n ≤ 9223372036854775807) : wrap64 (i + 1) = i + 1 := by unfold wrap64; omega
theorem drop_rd {α : Type} (l : List α) (z : α) (i : Int) (h0 : 0 ≤ i) (h1 : i < l.length) : l.drop i.toNat = l.getD i.toNat z :: l.drop (i + 1).toNat := by
  have hi : i.toNat < l.length := by omega
  rw [List.drop_eq_getElem_cons hi, show (i + 1).toNat = i.toNat + 1 by omega]
  simp [hi]
theorem index_from (l : List S30) (t : S30) (hl : (l.length : Int) ≤ 9223372036854775807) : ∀ (d : Nat) (i : Int), 0 ≤ i → l.length - i.toNat = d → ∀ k, d < k → ∃ r, api_Tx_28.l0 k l l.length i t.f0 t.f1 = some r ∧ decide (r ≥ 0) = (l.drop i.toNat).any (eqTx t) := by
  intro d
  induction d with
  | zero =>
    intro i h0 hd k hk
    obtain ⟨k, rfl⟩ : ∃ m, k = m + 1 := ⟨k - 1, by omega⟩
    refine ⟨-1, by simp only [api_Tx_28.l0]; rw [if_neg (by omega)], ?_⟩
    rw [List.drop_eq_nil_of_le (by omega)]
    rfl
  | succ d ih =>
    intro i h0 hd k hk
    obtain ⟨k, rfl⟩ : ∃ m, k = m + 1 := ⟨k - 1, by omega⟩
    have h1 : i < l.length := by omega
    simp only [api_Tx_28.l0]
    rw [if_pos h1, if_pos h0, if_pos h1, drop_rd l z30 i h0 h1, List.any_cons]
    by_cases e : (t.f0 == (rd_T30 l i).f0 && t.f1 == (rd_T30 l i).f1) = true
    · rw [if_pos e]
      refine ⟨i, rfl, ?_⟩
      have e' : eqTx t (l.getD i.toNat z30) = true := e
      rw [e', Bool.true_or]
      simpa using h0
    · rw [if_neg e, wrap_next h0 h1 hl]
      obtain ⟨r, h2, h3⟩ := ih (i + 1) (by omega) (by omega) k (by omega)
      refine ⟨r, h2, ?_⟩
      have e' : eqTx t (l.getD i.toNat z30) = false := eq_false_of_ne_true e
      rw [e', Bool.false_or, h3]
theorem contains_is (l : List S30) (t : S30) (hl : (l.length : Int) ≤ 9223372036854775807) : api_Tx_22.f (l.length + 1) l t.f0 t.f1 = some (hasTx l t) := by
  obtain ⟨r, h1, h2⟩ := index_from l t hl l.length 0 (by omega) (by omega) (l.length + 1) (by omega)
  unfold api_Tx_22.f api_Tx_28.f
  rw [h1, Option.bind_some, h2]
  rfl
theorem has_from (l : List Int) (x : Int) (hl : (l.length : Int) ≤ 9223372036854775807) : ∀ (d : Nat) (i : Int), 0 ≤ i → l.length - i.toNat = d → ∀ k, d < k → furlongref12_has.l0 k l x i = some ((l.drop i.toNat).any (· == x)) := by
  intro d
  induction d with
  | zero =>
    intro i h0 hd k hk
    obtain ⟨k, rfl⟩ : ∃ m, k = m + 1 := ⟨k - 1, by omega⟩
    simp only [furlongref12_has.l0]
    rw [if_neg (by omega), List.drop_eq_nil_of_le (by omega)]
    rfl
  | succ d ih =>
    intro i h0 hd k hk
    obtain ⟨k, rfl⟩ : ∃ m, k = m + 1 := ⟨k - 1, by omega⟩
    have h1 : i < l.length := by omega
    simp only [furlongref12_has.l0]
    rw [if_pos h1, if_pos h0, drop_rd l 0 i h0 h1, List.any_cons]
    by_cases e : rd l i = x
    · have e' : (l.getD i.toNat 0 == x) = true := by simpa [rd] using e
      rw [if_pos e, e', Bool.true_or]
    · have e' : (l.getD i.toNat 0 == x) = false := by simpa [rd] using e
      rw [if_neg e, wrap_next h0 h1 hl, ih (i + 1) (by omega) (by omega) k (by omega), e', Bool.false_or]
def hasId (l : List Int) (x : Int) : Bool := l.any (· == x)
theorem has_is (l : List Int) (x : Int) (hl : (l.length : Int) ≤ 9223372036854775807) : furlongref12_has.f (l.length + 1) l x = some (hasId l x) :=
  has_from l x hl l.length 0 (by omega) (by omega) (l.length + 1) (by omega)
theorem sameInts_from (l m : List Int) (hlm : l.length = m.length) (hl : (l.length : Int) ≤ 9223372036854775807) : ∀ (d : Nat) (i : Int), 0 ≤ i → l.length - i.toNat = d → ∀ k, d < k → furlonglaw0_SameInts.l0 k l m i = some (l.drop i.toNat == m.drop i.toNat) := by
  intro d
  induction d with
  | zero =>
    intro i h0 hd k hk
    obtain ⟨k, rfl⟩ : ∃ m, k = m + 1 := ⟨k - 1, by omega⟩
    simp only [furlonglaw0_SameInts.l0]
    rw [if_neg (by omega), List.drop_eq_nil_of_le (by omega), List.drop_eq_nil_of_le (by omega)]
    rfl
  | succ d ih =>
    intro i h0 hd k hk
    obtain ⟨k, rfl⟩ : ∃ m, k = m + 1 := ⟨k - 1, by omega⟩
    have h1 : i < l.length := by omega
    simp only [furlonglaw0_SameInts.l0]
    rw [if_pos h1, if_pos h0, if_pos (by omega), drop_rd l 0 i h0 h1, drop_rd m 0 i h0 (by omega)]
    by_cases e : rd l i = rd m i
    · have e' : (l.getD i.toNat 0 == m.getD i.toNat 0) = true := by simpa [rd] using e
      rw [if_pos e, wrap_next h0 h1 hl, ih (i + 1) (by omega) (by omega) k (by omega), List.cons_beq_cons, e', Bool.true_and]
    · have e' : (l.getD i.toNat 0 == m.getD i.toNat 0) = false := by simpa [rd] using e
      rw [if_neg e, List.cons_beq_cons, e', Bool.false_and]
theorem sameInts_is (l m : List Int) (hl : (l.length : Int) ≤ 9223372036854775807) : furlonglaw0_SameInts.f (l.length + 1) l m = some (l == m) := by
  unfold furlonglaw0_SameInts.f
  by_cases e : (l.length : Int) = m.length
  · rw [if_pos e, sameInts_from l m (by omega) hl l.length 0 (by omega) (by omega) _ (by omega)]
    rfl
  · rw [if_neg e]
    have : (l == m) = false := by
      rw [beq_eq_false_iff_ne]
      intro h
      exact e (by rw [h])
    rw [this]
def sameL : List S30 → List S30 → Bool
  | [], [] => true
  | x :: l, y :: m => eqTx x y && sameL l m
  | _, _ => false
theorem sameL_iff : ∀ {l m : List S30}, sameL l m = true ↔ l = m
  | [], [] => by simp [sameL]
  | [], y :: m => by simp [sameL]
  | x :: l, [] => by simp [sameL]
  | x :: l, y :: m => by simp [sameL, eqTx_iff, sameL_iff (l := l) (m := m)]
theorem sameTxs_from (l m : List S30) (hlm : l.length = m.length) (hl : (l.length : Int) ≤ 9223372036854775807) : ∀ (d : Nat) (i : Int), 0 ≤ i → l.length - i.toNat = d → ∀ k, d < k → furlonglaw0_SameTxs.l0 k l m i = some (sameL (l.drop i.toNat) (m.drop i.toNat)) := by
  intro d
  induction d with
  | zero =>
    intro i h0 hd k hk
    obtain ⟨k, rfl⟩ : ∃ m, k = m + 1 := ⟨k - 1, by omega⟩
    simp only [furlonglaw0_SameTxs.l0]
    rw [if_neg (by omega), List.drop_eq_nil_of_le (by omega), List.drop_eq_nil_of_le (by omega)]
    rfl
  | succ d ih =>
    intro i h0 hd k hk
    obtain ⟨k, rfl⟩ : ∃ m, k = m + 1 := ⟨k - 1, by omega⟩
    have h1 : i < l.length := by omega
    simp only [furlonglaw0_SameTxs.l0]
    rw [if_pos h1, if_pos h0, if_pos (by omega), drop_rd l z30 i h0 h1, drop_rd m z30 i h0 (by omega), sameL]
    by_cases e : eqTx (rd_T30 l i) (rd_T30 m i) = true
    · have e1 := e
      simp only [eqTx, Bool.and_eq_true] at e1
      have e' : eqTx (l.getD i.toNat z30) (m.getD i.toNat z30) = true := e
      rw [if_neg (by rw [e1.1, e1.2]; decide), wrap_next h0 h1 hl, ih (i + 1) (by omega) (by omega) k (by omega), e', Bool.true_and]
    · have e' : eqTx (l.getD i.toNat z30) (m.getD i.toNat z30) = false := eq_false_of_ne_true e
      have e2 : (!((rd_T30 l i).f0 == (rd_T30 m i).f0) || !((rd_T30 l i).f1 == (rd_T30 m i).f1)) = true := by
        rw [← Bool.not_and]
        have e3 : eqTx (rd_T30 l i) (rd_T30 m i) = false := eq_false_of_ne_true e
        unfold eqTx at e3
        rw [e3]
        rfl
      rw [if_pos e2, e', Bool.false_and]
theorem sameTxs_is (l m : List S30) (hl : (l.length : Int) ≤ 9223372036854775807) : furlonglaw0_SameTxs.f (l.length + 1) l m = some (sameL l m) := by
  unfold furlonglaw0_SameTxs.f
  by_cases e : (l.length : Int) = m.length
  · rw [if_pos e, sameTxs_from l m (by omega) hl l.length 0 (by omega) (by omega) _ (by omega)]
    rfl
  · rw [if_neg e]
    have : sameL l m = false := by
      rw [← Bool.not_eq_true, sameL_iff]
      intro h
      exact e (by rw [h])
    rw [this]
theorem spoil_from : ∀ (d : Nat) (l : List Int) (i : Int), (l.length : Int) ≤ 9223372036854775807 → 0 ≤ i → l.length - i.toNat = d → ∀ k, d < k → ∃ r, furlonglaw0_SpoilInts.l0 k l i = some r := by
  intro d
  induction d with
  | zero =>
    intro l i hl h0 hd k hk
    obtain ⟨k, rfl⟩ : ∃ m, k = m + 1 := ⟨k - 1, by omega⟩
    exact ⟨l, by simp only [furlonglaw0_SpoilInts.l0]; rw [if_neg (by omega)]⟩
  | succ d ih =>
    intro l i hl h0 hd k hk
    obtain ⟨k, rfl⟩ : ∃ m, k = m + 1 := ⟨k - 1, by omega⟩
    have h1 : i < l.length := by omega
    simp only [furlonglaw0_SpoilInts.l0]
    rw [if_pos h1, if_pos h0, wrap_next h0 h1 hl]
    exact ih _ (i + 1) (by simpa using hl) (by omega) (by simp; omega) k (by omega)
theorem spoil_is (l : List Int) (hl : (l.length : Int) ≤ 9223372036854775807) : ∃ r, furlonglaw0_SpoilInts.f (l.length + 1) l = some r :=
  spoil_from l.length l 0 hl (by omega) (by omega) _ (by omega)
theorem copy_is (l : List Int) (hl : l.length < 17592186044416) : furlonglaw0_CopyInts.f l = some l := by
  unfold furlonglaw0_CopyInts.f
  rw [Option.bind_some, if_pos (by simpa using hl)]
  rfl
theorem num_is (x : Int) : furlonglaw0_Num.f x = some x := rfl
theorem C_max {α : Type} {d : Kd α} {w : World} {A : Option Addr} {n : Nat} {xs : List α} (h : d.C w A n xs) : (n : Int) ≤ 9223372036854775807 := by have := h.2.1; omega
/-! ### the calls -/
theorem containsTx_any (A : Option Addr) (c : Nat) (l : List S30) (t : S30) (w : World) (h : Kd.C k30 w A l.length l) (hc : l.length ≤ c) :
    Calls Try.prog 22 #[.slice A l.length c, .agg #[.int .i64 t.f0, .int .i64 t.f1]] w fun e w' => e = .returned (.bool (hasTx l t)) ∧ Below w.heap.size w w' :=
  api_Tx_22.calls _ A c l t.f0 t.f1 _ w h hc (contains_is l t (C_max h))
theorem hasId_any (A : Option Addr) (c : Nat) (l : List Int) (x : Int) (w : World) (h : Kd.C (Kd.int .i64) w A l.length l) (hc : l.length ≤ c) :
    Calls Try.prog 23 #[.slice A l.length c, .int .i64 x] w fun e w' => e = .returned (.bool (hasId l x)) ∧ Drawn0 w w' :=
  furlongref12_has.calls _ A c l x _ w h hc (has_is l x (C_max h))
theorem sameInts_any (A : Option Addr) (c : Nat) (l : List Int) (A1 : Option Addr) (c1 : Nat) (m : List Int) (w : World) (h : Kd.C (Kd.int .i64) w A l.length l) (hc : l.length ≤ c) (h1 : Kd.C (Kd.int .i64) w A1 m.length m) (hc1 : m.length ≤ c1) :
    Calls Try.prog 24 #[.slice A l.length c, .slice A1 m.length c1] w fun e w' => e = .returned (.bool (l == m)) ∧ Drawn0 w w' :=
  furlonglaw0_SameInts.calls _ A c l A1 c1 m _ w h hc h1 hc1 (sameInts_is l m (C_max h))
theorem sameTxs_any (A : Option Addr) (c : Nat) (l : List S30) (A1 : Option Addr) (c1 : Nat) (m : List S30) (w : World) (h : Kd.C k30 w A l.length l) (hc : l.length ≤ c) (h1 : Kd.C k30 w A1 m.length m) (hc1 : m.length ≤ c1) :
    Calls Try.prog 16 #[.slice A l.length c, .slice A1 m.length c1] w fun e w' => e = .returned (.bool (sameL l m)) ∧ Drawn0 w w' :=
  furlonglaw0_SameTxs.calls _ A c l A1 c1 m _ w h hc h1 hc1 (sameTxs_is l m (C_max h))
theorem num_any (x : Int) (w : World) : Calls Try.prog 20 #[.int .i64 x] w fun e w' => e = .returned (.int .i64 x) ∧ Drawn0 w w' :=
  furlonglaw0_Num.calls x x w (num_is x)
end Go.Proofs.Ytmmamceijnnfdaa.LK
