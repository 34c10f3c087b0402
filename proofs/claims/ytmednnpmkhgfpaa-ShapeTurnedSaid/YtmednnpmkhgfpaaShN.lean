/- Has a feature one of a row of places? -/
import Derived.Test.YtmednnpmkhgfpaaShM
namespace Go.Proofs.Ytmednnpmkhgfpaa.SH
open Go Go.RowKit Go.Proofs.YtmednnpmkhgfpaaW.PrintWords Go.Proofs.Ytmednnpmkhgfpaa.PShapes Go.Proofs.Ytmednnpmkhgfpaa.Geo
set_option linter.unusedVariables false
set_option linter.unusedSimpArgs false
attribute [local go_sem high] eqA23

theorem own_any (fb : Nat) (f : Ft) (A : Option Addr) (c : Nat) (p : S23) (w : World) (hf : Feat w fb f A c) (hm : mayB f = true) (hp : ptP p = true) :
    Calls Try.prog 40 #[.agg #[.int .i64 p.f0, .int .i64 p.f1], .pointer (some ⟨fb, 0, none⟩)] w fun e w' => e = .returned (.bool (hasB f p)) ∧ Below w.heap.size w w' := by
  have HF := Aside0.mk (hf.below (below_alloc (Below.refl _ _) (.cells #[.int .i64 p.f0, .int .i64 p.f1] 23)))
  have HM := Aside0.mk hm
  have HP := Aside0.mk hp
  clear hf hm hp
  go_enter Try.func40, Try.ntmps40
  go_wp2_with fail
  refine (has_any fb f A c p _ HF.out.id HF.out.shape HF.out.rings HF.out.row (may_pts HM.out) HP.out (may_ne HM.out) (may_zero HM.out)).mono ?_
  rintro e w1 ⟨rfl, hb⟩
  have HB := Aside0.mk (below_then (below_alloc (Below.refl w.heap.size w) (.cells #[.int .i64 p.f0, .int .i64 p.f1] 23)) (below_alloc (Below.refl w.heap.size w) (.cells #[.int .i64 p.f0, .int .i64 p.f1] 23)).size hb)
  clear hb
  go_wp2_with fail
  go_ret
  exact ⟨rfl, HB.out⟩
def idxHas (f : Ft) : List S23 → Int → Int
  | [], _ => -1
  | x :: l, i => if hasB f x then i else idxHas f l (i + 1)
theorem idxHas_at (f : Ft) (l : List S23) (k : Nat) (hk : k < l.length) : idxHas f (l.drop k) k = if hasB f (rdP l k) then (k : Int) else idxHas f (l.drop (k + 1)) ((k : Int) + 1) := by
  have e : l.drop k = rdP l k :: l.drop (k + 1) := by
    rw [List.drop_eq_getElem_cons hk]
    unfold rdP
    simp [hk]
  rw [e, idxHas]
theorem idxHas_neg (f : Ft) : ∀ (l : List S23) (i : Int), 0 ≤ i → decide (0 ≤ idxHas f l i) = l.any (hasB f)
  | [], _, _ => rfl
  | x :: l, i, h => by
    unfold idxHas
    rw [List.any_cons]
    cases hasB f x
    · simpa using idxHas_neg f l (i + 1) (by omega)
    · simpa using h
set_option maxHeartbeats 4000000 in
set_option maxRecDepth 100000 in
theorem indexHas_any (fb : Nat) (f : Ft) (A0 : Option Addr) (c0 : Nat) (A : Option Addr) (c : Nat) (ps : List S23) (w : World) (hf : Feat w fb f A0 c0) (hm : mayB f = true) (h : PC w A ps) (hps : ∀ p ∈ ps, ptP p = true) :
    Calls Try.prog 60 #[.slice A ps.length c, .func (.func 40) #[] #[.pointer (some ⟨fb, 0, none⟩)]] w fun e w' => e = .returned (.int .i64 (idxHas f ps 0)) ∧ Below w.heap.size w w' := by
  have HR := Aside0.mk h
  have HF := Aside0.mk hf
  have HM := Aside0.mk hm
  have HPs := Aside0.mk hps
  have hmax : (ps.length : Int) ≤ 9223372036854775807 := by have := h.2.1; omega
  clear h hf hm hps
  go_enter Try.func60, Try.ntmps60
  go_wp2
  go_loopw [8] (fun i wr => ∃ k : Nat, k ≤ ps.length ∧ i = .int .i64 k ∧ Aside0 (idxHas f (ps.drop k) k = idxHas f ps 0) ∧ Aside0 (Below w.heap.size w wr)) (fun i _ => ps.length - (intOf i).toNat)
  case atStart => exact ⟨0, Nat.zero_le _, rfl, ⟨rfl⟩, ⟨Below.refl _ _⟩⟩
  case round =>
    obtain ⟨k, hk, rfl, HI, HB⟩ := hrel
    by_cases hlt : k < ps.length
    · have HX := Aside0.mk (idxHas_at f ps k hlt)
      obtain ⟨ad, e1, p0, p1⟩ := at_p (Kd.C_below HR.out HB.out) k hlt
      subst e1
      have HPt := Aside0.mk (HPs.out _ (rdP_mem hlt))
      generalize rdP ps k = p at *
      go_wp2_with fail
      refine (own_any fb f A0 c0 p _ (HF.out.below HB.out) HM.out HPt.out).mono ?_
      rintro e w1 ⟨rfl, hb⟩
      have HB1 := Aside0.mk (below_then HB.out HB.out.size hb)
      clear hb
      cases hh : hasB f p
      · rw [hh] at HX
        go_wp2_with fail
        go_roundw
        case rel => exact ⟨k + 1, by omega, by go_num, ⟨by rw [← HI.out, HX.out]; rfl⟩, HB1⟩
        case measure => simp [intOf]; omega
      · rw [hh] at HX
        go_wp2_with fail
        go_ret
        refine ⟨?_, HB1.out⟩
        rw [← HI.out, HX.out]
        rfl
    · go_wp2
      go_ret
      refine ⟨?_, HB.out⟩
      rw [← HI.out, List.drop_eq_nil_of_le (by omega)]
      rfl
theorem anyHas_any (fb : Nat) (f : Ft) (A0 : Option Addr) (c0 : Nat) (A : Option Addr) (c : Nat) (ps : List S23) (w : World) (hf : Feat w fb f A0 c0) (hm : mayB f = true) (h : PC w A ps) (hps : ∀ p ∈ ps, ptP p = true) :
    Calls Try.prog 41 #[.slice A ps.length c, .func (.func 40) #[] #[.pointer (some ⟨fb, 0, none⟩)]] w fun e w' => e = .returned (.bool (ps.any (hasB f))) ∧ Below w.heap.size w w' := by
  have HC := Aside0.mk (indexHas_any fb f A0 c0 A c ps w hf hm h hps)
  clear h hf hps
  have HE := Aside0.mk (idxHas_neg f ps 0 (Int.le_refl _))
  go_enter Try.func41, Try.ntmps41
  go_wp2_with fail
  refine HC.out.mono ?_
  rintro e w1 ⟨rfl, hb⟩
  have HB := Aside0.mk hb
  clear hb
  go_wp2_with fail
  go_ret
  exact ⟨by rw [← HE.out]; rfl, HB.out⟩
end Go.Proofs.Ytmednnpmkhgfpaa.SH
