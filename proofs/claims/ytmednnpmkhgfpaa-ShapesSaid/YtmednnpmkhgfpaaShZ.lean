/- What slices.Equal, slices.EqualFunc and shape.Same answer: are two features alike? -/
import Derived.Test.YtmednnpmkhgfpaaShKA
import Derived.BigQuiet
namespace Go.Proofs.Ytmednnpmkhgfpaa.SH
open Go Go.RowKit Go.Proofs.YtmednnpmkhgfpaaW.PrintWords Go.Proofs.Ytmednnpmkhgfpaa.PShapes Go.Proofs.Ytmednnpmkhgfpaa.Geo
set_option linter.unusedVariables false
set_option linter.unusedSimpArgs false
attribute [local go_sem high] eqA23

/-- are two rings alike -/
def eqR (l m : List S23) : Bool := decide (l.length = m.length) && (List.range l.length).all fun k => eqP (rdP l k) (rdP m k)
def eqRs (l m : List (List S23)) : Bool := decide (l.length = m.length) && (List.range l.length).all fun k => eqR (rdR l k) (rdR m k)
def sameB (f g : Ft) : Bool := f.id == g.id && f.shape == g.shape && eqRs f.rings g.rings
theorem all_upto {F : Nat → Bool} {n k : Nat} (h : ∀ j, j < k → F j = true) (hk : k < n) (hf : F k = false) : (List.range n).all F = false := List.all_eq_false.2 ⟨k, List.mem_range.2 hk, by simp [hf]⟩
theorem all_done {F : Nat → Bool} {n : Nat} (h : ∀ j, j < n → F j = true) : (List.range n).all F = true := List.all_eq_true.2 fun k hk => h k (List.mem_range.1 hk)
set_option maxHeartbeats 4000000 in
set_option maxRecDepth 100000 in
theorem eqR_any (A : Option Addr) (c : Nat) (l : List S23) (B : Option Addr) (d : Nat) (m : List S23) (w : World) (h : PC w A l) (h' : PC w B m) :
    Calls Try.prog 52 #[.slice A l.length c, .slice B m.length d] w fun e w' => e = .returned (.bool (eqR l m)) ∧ Below w.heap.size w w' := by
  have HR := Aside0.mk h
  have HR' := Aside0.mk h'
  have hm : (l.length : Int) ≤ 9223372036854775807 := by have := h.2.1; omega
  clear h h'
  have HE := Aside0.mk (show eqR l m = (decide (l.length = m.length) && (List.range l.length).all fun k => eqP (rdP l k) (rdP m k)) from rfl)
  by_cases hl : (l.length : Int) = m.length
  · have hl' : ((l.length : Int) != m.length) = false := by simp [hl]
    have hln : l.length = m.length := by omega
    have HV := Aside0.mk (show eqR l m = (List.range l.length).all fun k => eqP (rdP l k) (rdP m k) by rw [HE.out, decide_eq_true hln]; rfl)
    go_enter Try.func52, Try.ntmps52
    go_wp2
    go_loopw [13] (fun i wr => ∃ k : Nat, k ≤ l.length ∧ i = .int .i64 k ∧ Aside0 (∀ j, j < k → eqP (rdP l j) (rdP m j) = true) ∧ Aside0 (Below w.heap.size w wr)) (fun i _ => l.length - (intOf i).toNat)
    case atStart => exact ⟨0, Nat.zero_le _, rfl, ⟨fun j hj => absurd hj (by omega)⟩, ⟨Below.refl _ _⟩⟩
    case round =>
      obtain ⟨k, hk, rfl, HI, HB⟩ := hrel
      by_cases hlt : k < l.length
      · obtain ⟨ad, e1, p0, p1⟩ := at_p (Kd.C_below HR.out HB.out) k hlt
        obtain ⟨ad', e2, q0, q1⟩ := at_p (Kd.C_below HR'.out HB.out) k (by omega)
        subst e1
        subst e2
        have hltm : (k : Int) < m.length := by omega
        have HN := Aside0.mk (fun (hf : eqP (rdP l k) (rdP m k) = false) => all_upto (F := fun k => eqP (rdP l k) (rdP m k)) HI.out hlt hf)
        have HS := Aside0.mk (fun (ht : eqP (rdP l k) (rdP m k) = true) j (hj : j < k + 1) => show eqP (rdP l j) (rdP m j) = true by
          rcases Nat.lt_succ_iff_lt_or_eq.1 hj with h | rfl
          · exact HI.out j h
          · exact ht)
        generalize rdP l k = p at *
        generalize rdP m k = q at *
        cases he : eqP p q
        · have hev : (p.f0 == q.f0 && p.f1 == q.f1) = false := he
          have HNv := Aside0.mk (HN.out he)
          clear he
          go_wp2
          go_quiet (fail)
          go_wp2
          go_ret
          exact ⟨by rw [HV.out, HNv.out]; first | done | rfl, pw_below_drewN HB.out _⟩
        · have hev : (p.f0 == q.f0 && p.f1 == q.f1) = true := he
          have HSv := Aside0.mk (HS.out he)
          clear he
          go_wp2
          go_quiet (fail)
          go_wp2
          go_roundw
          case rel => exact ⟨k + 1, by omega, by go_num, HSv, ⟨pw_below_drewN HB.out _⟩⟩
          case measure => simp [intOf]; omega
      · obtain rfl : k = l.length := by omega
        have HD := Aside0.mk (all_done HI.out)
        go_wp2
        go_ret
        exact ⟨by rw [HV.out, HD.out]; first | done | rfl, HB.out⟩
  · have hl' : ((l.length : Int) != m.length) = true := by simp [hl]
    have HV := Aside0.mk (show eqR l m = false by rw [HE.out, decide_eq_false (by omega)]; rfl)
    go_enter Try.func52, Try.ntmps52
    go_wp2
    go_ret
    exact ⟨by rw [HV.out]; first | done | rfl, Below.refl _ _⟩
set_option maxHeartbeats 4000000 in
set_option maxRecDepth 100000 in
theorem eqRs_any (A : Option Addr) (c : Nat) (l : List (List S23)) (B : Option Addr) (d : Nat) (m : List (List S23)) (w : World) (h : RC w A l) (h' : RC w B m) :
    Calls Try.prog 51 #[.slice A l.length c, .slice B m.length d, .func (.func 52) #[] #[]] w fun e w' => e = .returned (.bool (eqRs l m)) ∧ Below w.heap.size w w' := by
  have HR := Aside0.mk h
  have HR' := Aside0.mk h'
  have hm : (l.length : Int) ≤ 9223372036854775807 := by have := h.2.1; omega
  clear h h'
  have HE := Aside0.mk (show eqRs l m = (decide (l.length = m.length) && (List.range l.length).all fun k => eqR (rdR l k) (rdR m k)) from rfl)
  by_cases hl : (l.length : Int) = m.length
  · have hl' : ((l.length : Int) != m.length) = false := by simp [hl]
    have hln : l.length = m.length := by omega
    have HV := Aside0.mk (show eqRs l m = (List.range l.length).all fun k => eqR (rdR l k) (rdR m k) by rw [HE.out, decide_eq_true hln]; rfl)
    have HLn := Aside0.mk hln
    clear hl hln
    go_enter Try.func51, Try.ntmps51
    go_wp2
    go_loopw [17] (fun i wr => ∃ k : Nat, k ≤ l.length ∧ i = .int .i64 k ∧ Aside0 (∀ j, j < k → eqR (rdR l j) (rdR m j) = true) ∧ Aside0 (Below w.heap.size w wr)) (fun i _ => l.length - (intOf i).toNat)
    case atStart => exact ⟨0, Nat.zero_le _, rfl, ⟨fun j hj => absurd hj (by omega)⟩, ⟨Below.refl _ _⟩⟩
    case round =>
      obtain ⟨k, hk, rfl, HI, HB⟩ := hrel
      by_cases hlt : k < l.length
      · obtain ⟨ad, A0, c0, e1, hx, hc, hp⟩ := at_r (Kd.C_below HR.out HB.out) k hlt
        obtain ⟨ad', A1, c1, e2, hy, hc', hq⟩ := at_r (Kd.C_below HR'.out HB.out) k (by have := HLn.out; omega)
        subst e1
        subst e2
        have hltm : (k : Int) < m.length := by have := HLn.out; omega
        have HN := Aside0.mk (fun (hf : eqR (rdR l k) (rdR m k) = false) => all_upto (F := fun k => eqR (rdR l k) (rdR m k)) HI.out hlt hf)
        have HS := Aside0.mk (fun (ht : eqR (rdR l k) (rdR m k) = true) j (hj : j < k + 1) => show eqR (rdR l j) (rdR m j) = true by
          rcases Nat.lt_succ_iff_lt_or_eq.1 hj with h | rfl
          · exact HI.out j h
          · exact ht)
        have HP := Aside0.mk hp
        have HQ := Aside0.mk hq
        clear hp hq
        generalize rdR l k = p at *
        generalize rdR m k = q at *
        go_wp2_with fail
        refine (eqR_any A0 c0 p A1 c1 q _ HP.out HQ.out).mono ?_
        rintro e w1 ⟨rfl, hb⟩
        have HB1 := Aside0.mk (below_then HB.out HB.out.size hb)
        clear hb
        cases he : eqR p q
        · have HNv := Aside0.mk (HN.out he)
          go_wp2_with fail
          go_ret
          exact ⟨by rw [HV.out, HNv.out]; first | done | rfl, HB1.out⟩
        · have HSv := Aside0.mk (HS.out he)
          go_wp2_with fail
          go_roundw
          case rel => exact ⟨k + 1, by omega, by go_num, HSv, HB1⟩
          case measure => simp [intOf]; omega
      · obtain rfl : k = l.length := by omega
        have HD := Aside0.mk (all_done HI.out)
        go_wp2
        go_ret
        exact ⟨by rw [HV.out, HD.out]; first | done | rfl, HB.out⟩
  · have hl' : ((l.length : Int) != m.length) = true := by simp [hl]
    have HV := Aside0.mk (show eqRs l m = false by rw [HE.out, decide_eq_false (by omega)]; rfl)
    go_enter Try.func51, Try.ntmps51
    go_wp2
    go_ret
    exact ⟨by rw [HV.out]; first | done | rfl, Below.refl _ _⟩
set_option maxHeartbeats 8000000 in
set_option maxRecDepth 100000 in
theorem Same_any (f : Ft) (A : Option Addr) (c : Nat) (g : Ft) (B : Option Addr) (d : Nat) (w : World) (h : RC w A f.rings) (h' : RC w B g.rings) :
    Calls Try.prog 22 #[.agg #[.int .i64 f.id, .int .i64 f.shape, .slice A f.rings.length c], .agg #[.int .i64 g.id, .int .i64 g.shape, .slice B g.rings.length d]] w fun e w' => e = .returned (.bool (sameB f g)) ∧ Below w.heap.size w w' := by
  have HR := Aside0.mk h
  have HR' := Aside0.mk h'
  clear h h'
  have HE := Aside0.mk (show sameB f g = (f.id == g.id && f.shape == g.shape && eqRs f.rings g.rings) from rfl)
  have HB := Aside0.mk (below_alloc (below_alloc (Below.refl w.heap.size w) (.cells #[.int .i64 f.id, .int .i64 f.shape, .slice A f.rings.length c] 27)) (.cells #[.int .i64 g.id, .int .i64 g.shape, .slice B g.rings.length d] 27))
  by_cases h1 : f.id = g.id
  · have h1' : (f.id == g.id) = true := by simp [h1]
    have HE1 := Aside0.mk (show sameB f g = (f.shape == g.shape && eqRs f.rings g.rings) by rw [HE.out, h1']; rfl)
    clear h1
    by_cases h2 : f.shape = g.shape
    · have h2' : (f.shape == g.shape) = true := by simp [h2]
      have HE2 := Aside0.mk (show sameB f g = eqRs f.rings g.rings by rw [HE1.out, h2']; rfl)
      clear h2
      go_enter Try.func22, Try.ntmps22
      go_wp2_with fail
      refine (eqRs_any A c f.rings B d g.rings _ (Kd.C_below HR.out HB.out) (Kd.C_below HR'.out HB.out)).mono ?_
      rintro e w1 ⟨rfl, hb⟩
      have HB1 := Aside0.mk (below_then HB.out HB.out.size hb)
      clear hb
      go_wp2_with fail
      go_ret
      exact ⟨by rw [HE2.out]; first | done | rfl, HB1.out⟩
    · have h2' : (f.shape == g.shape) = false := by simp [h2]
      have HE2 := Aside0.mk (show sameB f g = false by rw [HE1.out, h2']; rfl)
      go_enter Try.func22, Try.ntmps22
      go_wp2_with fail
      go_ret
      exact ⟨by rw [HE2.out]; first | done | rfl, HB.out⟩
  · have h1' : (f.id == g.id) = false := by simp [h1]
    have HE1 := Aside0.mk (show sameB f g = false by rw [HE.out, h1']; rfl)
    go_enter Try.func22, Try.ntmps22
    go_wp2_with fail
    go_ret
    exact ⟨by rw [HE1.out]; first | done | rfl, HB.out⟩
end Go.Proofs.Ytmednnpmkhgfpaa.SH
