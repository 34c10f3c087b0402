/- Whether a ray goes over a stretch; what shape.has answers. -/
import Derived.Test.YtmednnpmkhgfpaaShJ
import Derived.Test.YtmednnpmkhgfpaaGeoW3
namespace Go.Proofs.Ytmednnpmkhgfpaa.SH
open Go Go.RowKit Go.Shelf Go.Proofs.YtmednnpmkhgfpaaW.PrintWords Go.Proofs.YtmednnpmkhgfpaaW.PrintLast Go.Proofs.YtmednnpmkhgfpaaW.PrintMore Go.Proofs.Ytmednnpmkhgfpaa.PShapes Go.Proofs.Ytmednnpmkhgfpaa.Geo
open Go.Proofs.Ytmednnpmkhgfpaa.GW (Turn_any on_any turnA turnE may3)
set_option linter.unusedVariables false
set_option linter.unusedSimpArgs false
attribute [local go_sem high] eqA23

theorem stretches_any (fb : Nat) (w : World) : Calls Try.prog 38 #[.pointer (some ⟨fb, 0, none⟩)] w fun e w' => e = .returned (.func (.func 58) #[] #[.pointer (some ⟨w.heap.size, 0, none⟩)]) ∧ w' = w.alloc (.cells #[.pointer (some ⟨fb, 0, none⟩)] 60) := by
  go_enter Try.func38, Try.ntmps38
  go_wp2
  go_ret
  exact ⟨rfl, rfl⟩
theorem stretches_stops (n : Nat) (hn : 1 ≤ n) (Bs fb : Nat) (f : Ft) (A : Option Addr) (c : Nat) (w W0 : World) (hw : Feat w fb f A c) (hk : KB w Bs fb W0) (hpts : MayPts f.rings) (hne : f.shape = 2 → ∀ ps ∈ f.rings, 0 < ps.length) :
    SeqStopsK Fence.wide n Try.prog 58 #[.pointer (some ⟨Bs, 0, none⟩)] stEnc (Kp0 w Bs fb) (fun ys => vals ys = stsOf f.shape f.rings) (fun pre => vals pre <+: stsOf f.shape f.rings) (stsOf f.shape f.rings).length W0 :=
  fun l J Jx W hW hJ _ hY h0 => stretches1_in n hn l Bs fb f A c w hw hpts hne J Jx W (hk.below hW) hJ hY h0
/-- does a ray toward greater X go over a stretch? -/
def overP (p a b : S23) : Bool :=
  if (decide (p.f1 < a.f1) == decide (p.f1 < b.f1)) = true then false
  else if b.f1 < a.f1 then decide (0 < turnZ b.f0 b.f1 a.f0 a.f1 p.f0 p.f1) else decide (0 < turnZ a.f0 a.f1 b.f0 b.f1 p.f0 p.f1)
theorem turnA_is {a b p : S23} (ha : ptP a = true) (hb : ptP b = true) (hp : ptP p = true) : turnA a.f0 a.f1 b.f0 b.f1 p.f0 p.f1 = turnZ a.f0 a.f1 b.f0 b.f1 p.f0 p.f1 := by
  unfold turnA may3
  unfold ptP at ha hb hp
  rw [ha, hb, hp]
  rfl
set_option maxHeartbeats 4000000 in
set_option maxRecDepth 100000 in
theorem over_any (p a b : S23) (w : World) (hp : ptP p = true) (ha : ptP a = true) (hb : ptP b = true) :
    Calls Try.prog 55 #[.agg #[.int .i64 p.f0, .int .i64 p.f1], .agg #[.int .i64 a.f0, .int .i64 a.f1], .agg #[.int .i64 b.f0, .int .i64 b.f1]] w fun e w' => e = .returned (.bool (overP p a b)) ∧ Below w.heap.size w w' := by
  obtain ⟨v, hv⟩ : ∃ v, overP p a b = v := ⟨_, rfl⟩
  rw [hv]
  unfold overP at hv
  have HT1 := Aside0.mk (turnA_is ha hb hp)
  have HT2 := Aside0.mk (turnA_is hb ha hp)
  clear hp ha hb
  by_cases h1 : p.f1 < a.f1
  · by_cases h2 : p.f1 < b.f1
    · rw [decide_eq_true h1, decide_eq_true h2, if_pos (by decide)] at hv
      subst hv
      go_enter Try.func55, Try.ntmps55
      go_wp2_with fail
      go_ret
      exact ⟨rfl, below_alloc (below_alloc (below_alloc (Below.refl _ _) _) _) _⟩
    · have h3 : b.f1 < a.f1 := by omega
      rw [decide_eq_true h1, decide_eq_false h2, if_neg (by decide), if_pos h3] at hv
      have HV := Aside0.mk hv
      clear hv
      go_enter Try.func55, Try.ntmps55
      go_wp2_with fail
      refine (Turn_any b.f0 b.f1 a.f0 a.f1 p.f0 p.f1 _).mono ?_
      rintro e w1 ⟨rfl, hb⟩
      rw [HT2.out]
      have HB := Aside0.mk hb
      clear hb
      go_wp2_with fail
      go_ret
      exact ⟨by rw [← HV.out]; rfl, below_then (below_alloc (below_alloc (below_alloc (Below.refl _ _) _) _) _) (below_alloc (below_alloc (below_alloc (Below.refl w.heap.size w) _) _) _).size HB.out⟩
  · by_cases h2 : p.f1 < b.f1
    · have h3 : ¬ b.f1 < a.f1 := by omega
      rw [decide_eq_false h1, decide_eq_true h2, if_neg (by decide), if_neg h3] at hv
      have HV := Aside0.mk hv
      clear hv
      go_enter Try.func55, Try.ntmps55
      go_wp2_with fail
      refine (Turn_any a.f0 a.f1 b.f0 b.f1 p.f0 p.f1 _).mono ?_
      rintro e w1 ⟨rfl, hb⟩
      rw [HT1.out]
      have HB := Aside0.mk hb
      clear hb
      go_wp2_with fail
      go_ret
      exact ⟨by rw [← HV.out]; rfl, below_then (below_alloc (below_alloc (below_alloc (Below.refl _ _) _) _) _) (below_alloc (below_alloc (below_alloc (Below.refl w.heap.size w) _) _) _).size HB.out⟩
    · rw [decide_eq_false h1, decide_eq_false h2, if_pos (by decide)] at hv
      subst hv
      go_enter Try.func55, Try.ntmps55
      go_wp2_with fail
      go_ret
      exact ⟨rfl, below_alloc (below_alloc (below_alloc (Below.refl _ _) _) _) _⟩
end Go.Proofs.Ytmednnpmkhgfpaa.SH
