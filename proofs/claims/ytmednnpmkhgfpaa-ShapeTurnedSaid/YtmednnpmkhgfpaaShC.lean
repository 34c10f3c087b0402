/- What shape.May answers: may a feature be. -/
import Derived.Test.YtmednnpmkhgfpaaShB
namespace Go.Proofs.Ytmednnpmkhgfpaa.SH
open Go Go.RowKit Go.Proofs.YtmednnpmkhgfpaaW.PrintWords Go.Proofs.YtmednnpmkhgfpaaW.PrintLast Go.Proofs.YtmednnpmkhgfpaaW.PrintMore Go.Proofs.Ytmednnpmkhgfpaa.PShapes Go.Proofs.Ytmednnpmkhgfpaa.Geo
open Go.Proofs.Ytmednnpmkhgfpaa.GW (pointMay_any)
set_option linter.unusedVariables false
set_option linter.unusedSimpArgs false
attribute [local go_sem high] eqA23

def badR (ps : List S23) : Bool := !ringB ps 3 true
theorem may1_any (A : Option Addr) (c : Nat) (ps : List S23) (w : World) (h : PC w A ps) :
    Calls Try.prog 33 #[.slice A ps.length c] w fun e w' => e = .returned (.bool (badR ps)) ∧ Below w.heap.size w w' := by
  have HR := Aside0.mk h
  clear h
  go_enter Try.func33, Try.ntmps33
  go_wp2_with fail
  refine (ring_any A c ps 3 true _ HR.out).mono ?_
  rintro e w1 ⟨rfl, hb⟩
  have HB := Aside0.mk hb
  clear hb
  go_wp2_with fail
  go_ret
  exact ⟨rfl, HB.out⟩
def idxBad : List (List S23) → Int → Int
  | [], _ => -1
  | x :: l, i => if badR x then i else idxBad l (i + 1)
theorem idxBad_at (l : List (List S23)) (k : Nat) (hk : k < l.length) : idxBad (l.drop k) k = if badR (rdR l k) then (k : Int) else idxBad (l.drop (k + 1)) ((k : Int) + 1) := by
  have e : l.drop k = rdR l k :: l.drop (k + 1) := by
    rw [List.drop_eq_getElem_cons hk]
    unfold rdR
    simp [hk]
  rw [e, idxBad]
theorem idxBad_neg : ∀ (l : List (List S23)) (i : Int), 0 ≤ i → decide (0 ≤ idxBad l i) = l.any badR
  | [], _, _ => rfl
  | x :: l, i, h => by
    unfold idxBad
    rw [List.any_cons]
    cases badR x
    · simpa using idxBad_neg l (i + 1) (by omega)
    · simpa using h
set_option maxHeartbeats 4000000 in
set_option maxRecDepth 100000 in
theorem indexBad_any (A : Option Addr) (c : Nat) (rs : List (List S23)) (w : World) (h : RC w A rs) :
    Calls Try.prog 56 #[.slice A rs.length c, .func (.func 33) #[] #[]] w fun e w' => e = .returned (.int .i64 (idxBad rs 0)) ∧ Below w.heap.size w w' := by
  have HR := Aside0.mk h
  have hm : (rs.length : Int) ≤ 9223372036854775807 := by have := h.2.1; omega
  clear h
  go_enter Try.func56, Try.ntmps56
  go_wp2
  go_loopw [8] (fun i wr => ∃ k : Nat, k ≤ rs.length ∧ i = .int .i64 k ∧ Aside0 (idxBad (rs.drop k) k = idxBad rs 0) ∧ Aside0 (Below w.heap.size w wr)) (fun i _ => rs.length - (intOf i).toNat)
  case atStart => exact ⟨0, Nat.zero_le _, rfl, ⟨rfl⟩, ⟨Below.refl _ _⟩⟩
  case round =>
    obtain ⟨k, hk, rfl, HI, HB⟩ := hrel
    by_cases hlt : k < rs.length
    · have HX := Aside0.mk (idxBad_at rs k hlt)
      obtain ⟨ad, A0, c0, e1, hx, hc, hp⟩ := at_r (Kd.C_below HR.out HB.out) k hlt
      subst e1
      generalize rdR rs k = ps at *
      have HP := Aside0.mk hp
      clear hp
      go_wp2_with fail
      refine (may1_any A0 c0 ps _ HP.out).mono ?_
      rintro e w1 ⟨rfl, hb⟩
      have HB1 := Aside0.mk (below_then HB.out HB.out.size hb)
      clear hb
      cases hbad : badR ps
      · rw [hbad] at HX
        go_wp2_with fail
        go_roundw
        case rel => exact ⟨k + 1, by omega, by go_num, ⟨by rw [← HI.out, HX.out]; rfl⟩, HB1⟩
        case measure => simp [intOf]; omega
      · rw [hbad] at HX
        go_wp2_with fail
        go_ret
        refine ⟨?_, HB1.out⟩
        rw [← HI.out, HX.out]
        rfl
    · go_wp2
      go_ret
      refine ⟨?_, HB.out⟩
      rw [← HI.out, List.drop_eq_nil_of_le (by omega)]
      rfl
theorem anyBad_any (A : Option Addr) (c : Nat) (rs : List (List S23)) (w : World) (h : RC w A rs) :
    Calls Try.prog 32 #[.slice A rs.length c, .func (.func 33) #[] #[]] w fun e w' => e = .returned (.bool (rs.any badR)) ∧ Below w.heap.size w w' := by
  have HR := Aside0.mk h
  clear h
  have HE := Aside0.mk (idxBad_neg rs 0 (Int.le_refl _))
  go_enter Try.func32, Try.ntmps32
  go_wp2_with fail
  refine (indexBad_any A c rs _ HR.out).mono ?_
  rintro e w1 ⟨rfl, hb⟩
  have HB := Aside0.mk hb
  clear hb
  go_wp2_with fail
  go_ret
  exact ⟨by rw [← HE.out]; rfl, HB.out⟩
def ftV (f : Ft) (A : Option Addr) (c : Nat) : Value := .agg #[.int .i64 f.id, .int .i64 f.shape, .slice A f.rings.length c]
theorem not_any_bad (rs : List (List S23)) : (!(rs.any badR)) = rs.all fun ps => ringB ps 3 true := by
  induction rs with
  | nil => rfl
  | cons x l ih => rw [List.any_cons, List.all_cons, Bool.not_or, ih, badR, Bool.not_not]
set_option maxHeartbeats 8000000 in
set_option maxRecDepth 100000 in
theorem may_any (f : Ft) (A : Option Addr) (c : Nat) (w : World) (h : RC w A f.rings) :
    Calls Try.prog 14 #[.agg #[.int .i64 f.id, .int .i64 f.shape, .slice A f.rings.length c]] w fun e w' => e = .returned (.bool (mayB f)) ∧ Below w.heap.size w w' := by
  obtain ⟨id, shape, rs⟩ := f
  have HR := Aside0.mk h
  clear h
  dsimp only at HR ⊢
  obtain ⟨v, hv0⟩ : ∃ v, mayB ⟨id, shape, rs⟩ = v := ⟨_, rfl⟩
  rw [hv0]
  unfold mayB at hv0
  dsimp only at hv0
  have HE := Aside0.mk hv0.symm
  clear hv0
  have HB := Aside0.mk (below_alloc (Below.refl w.heap.size w) (.cells #[.int .i64 id, .int .i64 shape, .slice A rs.length c] 27))
  by_cases h1 : id < 1
  · have hv : v = false := by rw [HE.out, decide_eq_false (by omega : ¬ 1 ≤ id)]; rfl
    subst hv
    go_enter Try.func14, Try.ntmps14
    go_wp2_with fail
    go_ret
    exact ⟨rfl, HB.out⟩
  by_cases h2 : 65535 < id
  · have hv : v = false := by rw [HE.out, decide_eq_false (by omega : ¬ id ≤ 65535)]; simp
    subst hv
    go_enter Try.func14, Try.ntmps14
    go_wp2_with fail
    go_ret
    exact ⟨rfl, HB.out⟩
  by_cases h3 : (rs.length : Int) < 1
  · have hv : v = false := by rw [HE.out, decide_eq_false (by omega : ¬ 1 ≤ rs.length)]; simp
    subst hv
    go_enter Try.func14, Try.ntmps14
    go_wp2_with fail
    go_ret
    exact ⟨rfl, HB.out⟩
  by_cases h4 : 4 < (rs.length : Int)
  · have hv : v = false := by rw [HE.out, decide_eq_false (by omega : ¬ rs.length ≤ 4)]; simp
    subst hv
    go_enter Try.func14, Try.ntmps14
    go_wp2_with fail
    go_ret
    exact ⟨rfl, HB.out⟩
  have hv : v = (if shape = 0 then decide (rs.length = 1) && decide ((rdR rs 0).length = 1) && ptP (rdP (rdR rs 0) 0)
     else if shape = 1 then decide (rs.length = 1) && ringB (rdR rs 0) 2 false
     else if shape = 2 then rs.all fun ps => ringB ps 3 true else false) := by
    rw [HE.out, decide_eq_true (by omega : 1 ≤ id), decide_eq_true (by omega : id ≤ 65535), decide_eq_true (by omega : 1 ≤ rs.length), decide_eq_true (by omega : rs.length ≤ 4)]
    rfl
  clear HE
  by_cases s0 : shape = 0
  · subst s0
    rw [if_pos rfl] at hv
    go_enter Try.func14, Try.ntmps14
    go_upto_region 1 with (fail)
    have HX := Aside0.mk (blk_new w (.cells #[.int .i64 id, .int .i64 0, .slice A rs.length c] 27))
    have HRb := Aside0.mk (Kd.C_below HR.out (below_alloc (Below.refl _ w) (.cells #[.int .i64 id, .int .i64 0, .slice A rs.length c] 27)))
    generalize w.alloc (.cells #[.int .i64 id, .int .i64 0, .slice A rs.length c] 27) = W at *
    generalize w.heap.size = b at HX ⊢
    have b0 : W.cell? ⟨b, 0, none⟩ = some (.int .i64 id) := (blk_cell HX.out 0).trans rfl
    have b1 : W.cell? ⟨b, 1, none⟩ = some (.int .i64 0) := (blk_cell HX.out 1).trans rfl
    have b2 : W.cell? ⟨b, 2, none⟩ = some (.slice A rs.length c) := (blk_cell HX.out 2).trans rfl
    by_cases l1 : (rs.length : Int) = 1
    · rw [decide_eq_true (by omega : rs.length = 1), Bool.true_and] at hv
      obtain ⟨ad, A0, c0, e1, hx, hc, hp⟩ := at_r HRb.out 0 (by omega)
      subst e1
      rw [show ad.add 0 = ad from rfl] at hx
      generalize rdR rs 0 = ps at *
      by_cases m1 : (ps.length : Int) = 1
      · rw [decide_eq_true (by omega : ps.length = 1), Bool.true_and] at hv
        obtain ⟨ad1, e2, p0, p1⟩ := at_p hp 0 (by omega)
        subst e2
        rw [show ad1.add (0 * 2) = ad1 from rfl] at p0 p1
        generalize rdP ps 0 = p at *
        have HV := Aside0.mk hv
        clear hv hp
        go_wp2_with fail
        refine (pointMay_any p.f0 p.f1 _).mono ?_
        rintro e w1 ⟨rfl, hb⟩
        have HB1 := Aside0.mk (below_then HB.out HB.out.size hb)
        clear hb
        go_wp2_with fail
        go_ret
        exact ⟨by rw [HV.out]; rfl, HB1.out⟩
      · rw [decide_eq_false (by omega : ¬ ps.length = 1), Bool.false_and] at hv
        subst hv
        have m2 : ((ps.length : Int) == 1) = false := by simp [m1]
        go_wp2_with fail
        go_ret
        exact ⟨rfl, HB.out⟩
    · rw [decide_eq_false (by omega : ¬ rs.length = 1), Bool.false_and, Bool.false_and] at hv
      subst hv
      have l2 : ((rs.length : Int) == 1) = false := by simp [l1]
      go_wp2_with fail
      go_ret
      exact ⟨rfl, HB.out⟩
  by_cases s1 : shape = 1
  · subst s1
    rw [if_neg (by decide), if_pos rfl] at hv
    go_enter Try.func14, Try.ntmps14
    go_upto_region 1 with (fail)
    have HX := Aside0.mk (blk_new w (.cells #[.int .i64 id, .int .i64 1, .slice A rs.length c] 27))
    have HRb := Aside0.mk (Kd.C_below HR.out (below_alloc (Below.refl _ w) (.cells #[.int .i64 id, .int .i64 1, .slice A rs.length c] 27)))
    generalize w.alloc (.cells #[.int .i64 id, .int .i64 1, .slice A rs.length c] 27) = W at *
    generalize w.heap.size = b at HX ⊢
    have b0 : W.cell? ⟨b, 0, none⟩ = some (.int .i64 id) := (blk_cell HX.out 0).trans rfl
    have b1 : W.cell? ⟨b, 1, none⟩ = some (.int .i64 1) := (blk_cell HX.out 1).trans rfl
    have b2 : W.cell? ⟨b, 2, none⟩ = some (.slice A rs.length c) := (blk_cell HX.out 2).trans rfl
    by_cases l1 : (rs.length : Int) = 1
    · rw [decide_eq_true (by omega : rs.length = 1), Bool.true_and] at hv
      obtain ⟨ad, A0, c0, e1, hx, hc, hp⟩ := at_r HRb.out 0 (by omega)
      subst e1
      rw [show ad.add 0 = ad from rfl] at hx
      generalize rdR rs 0 = ps at *
      have HV := Aside0.mk hv
      have HP := Aside0.mk hp
      clear hv hp
      go_wp2_with fail
      refine (ring_any A0 c0 ps 2 false _ HP.out).mono ?_
      rintro e w1 ⟨rfl, hb⟩
      have HB1 := Aside0.mk (below_then HB.out HB.out.size hb)
      clear hb
      go_wp2_with fail
      go_ret
      exact ⟨by rw [HV.out]; rfl, HB1.out⟩
    · rw [decide_eq_false (by omega : ¬ rs.length = 1), Bool.false_and] at hv
      subst hv
      have l2 : ((rs.length : Int) == 1) = false := by simp [l1]
      go_wp2_with fail
      go_ret
      exact ⟨rfl, HB.out⟩
  by_cases s2 : shape = 2
  · subst s2
    rw [if_neg (by decide), if_neg (by decide), if_pos rfl, ← not_any_bad] at hv
    subst hv
    go_enter Try.func14, Try.ntmps14
    go_wp2_with fail
    refine (anyBad_any A c rs _ (Kd.C_below HR.out (below_alloc (Below.refl _ w) _))).mono ?_
    rintro e w1 ⟨rfl, hb⟩
    have HB1 := Aside0.mk (below_then HB.out HB.out.size hb)
    clear hb
    go_wp2_with fail
    go_ret
    exact ⟨rfl, HB1.out⟩
  rw [if_neg s0, if_neg s1, if_neg s2] at hv
  subst hv
  have t0 : (shape == 0) = false := by simp [s0]
  have t1 : (shape == 1) = false := by simp [s1]
  have t2 : (shape == 2) = false := by simp [s2]
  go_enter Try.func14, Try.ntmps14
  go_wp2_with fail
  go_ret
  exact ⟨rfl, HB.out⟩
end Go.Proofs.Ytmednnpmkhgfpaa.SH
