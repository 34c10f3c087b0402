/- Whether a ray goes over a stretch; what shape.has answers. -/
import Derived.Test.YtmednnpmkhgfpaaShJ
import Derived.Test.YtmednnpmkhgfpaaGeoWA
section
namespace Go.Proofs.Ytmednnpmkhgfpaa.SH
open Go Go.RowKit Go.Shelf Go.Proofs.YtmednnpmkhgfpaaW.PrintWords Go.Proofs.YtmednnpmkhgfpaaW.PrintLast Go.Proofs.YtmednnpmkhgfpaaW.PrintMore Go.Proofs.Ytmednnpmkhgfpaa.PShapes Go.Proofs.Ytmednnpmkhgfpaa.Geo
open Go.Proofs.Ytmednnpmkhgfpaa.GW (Turn_any on_any turnA turnE may3)
set_option linter.unusedVariables false
set_option linter.unusedSimpArgs false
attribute [local go_sem high] eqA23

theorem stretches_any (fb : Nat) (w : World) : Calls Try.prog 38 #[.pointer (some ⟨fb, 0, none⟩)] w fun e w' => e = .returned (.func (.func 58) #[] #[.pointer (some ⟨w.heap.size, 0, none⟩)]) ∧ w' = w.alloc (.cells #[.pointer (some ⟨fb, 0, none⟩)] 60) := by
  go_enter Try.func38, Try.ntmps38
  go_wp2
  go_ret
  exact ⟨rfl, rfl⟩
theorem stretches_stops (n : Nat) (hn : 1 ≤ n) (Bs fb : Nat) (f : Ft) (A : Option Addr) (c : Nat) (w W0 : World) (hw : Feat w fb f A c) (hk : KB w Bs fb W0) (hpts : MayPts f.rings) (hne : f.shape = 2 → ∀ ps ∈ f.rings, 0 < ps.length) :
    SeqStopsK Fence.wide n Try.prog 58 #[.pointer (some ⟨Bs, 0, none⟩)] stEnc (Kp0 w Bs fb) (fun ys => vals ys = stsOf f.shape f.rings) (fun pre => vals pre <+: stsOf f.shape f.rings) (stsOf f.shape f.rings).length W0 :=
  fun l J Jx W hW hJ _ hY h0 => stretches1_in n hn l Bs fb f A c w hw hpts hne J Jx W (hk.below hW) hJ hY h0
/-- does a ray toward greater X go over a stretch? -/
def overP (p a b : S23) : Bool :=
  if (decide (p.f1 < a.f1) == decide (p.f1 < b.f1)) = true then false
  else if b.f1 < a.f1 then decide (0 < turnZ b.f0 b.f1 a.f0 a.f1 p.f0 p.f1) else decide (0 < turnZ a.f0 a.f1 b.f0 b.f1 p.f0 p.f1)
theorem turnA_is {a b p : S23} (ha : ptP a = true) (hb : ptP b = true) (hp : ptP p = true) : turnA a.f0 a.f1 b.f0 b.f1 p.f0 p.f1 = turnZ a.f0 a.f1 b.f0 b.f1 p.f0 p.f1 := by
  unfold turnA may3
  unfold ptP at ha hb hp
  rw [ha, hb, hp]
  rfl
set_option maxHeartbeats 4000000 in
set_option maxRecDepth 100000 in
theorem over_any (p a b : S23) (w : World) (hp : ptP p = true) (ha : ptP a = true) (hb : ptP b = true) :
    Calls Try.prog 55 #[.agg #[.int .i64 p.f0, .int .i64 p.f1], .agg #[.int .i64 a.f0, .int .i64 a.f1], .agg #[.int .i64 b.f0, .int .i64 b.f1]] w fun e w' => e = .returned (.bool (overP p a b)) ∧ Below w.heap.size w w' := by
  obtain ⟨v, hv⟩ : ∃ v, overP p a b = v := ⟨_, rfl⟩
  rw [hv]
  unfold overP at hv
  have HT1 := Aside0.mk (turnA_is ha hb hp)
  have HT2 := Aside0.mk (turnA_is hb ha hp)
  clear hp ha hb
  by_cases h1 : p.f1 < a.f1
  · by_cases h2 : p.f1 < b.f1
    · rw [decide_eq_true h1, decide_eq_true h2, if_pos (by decide)] at hv
      subst hv
      go_enter Try.func55, Try.ntmps55
      go_wp2_with fail
      go_ret
      exact ⟨rfl, below_alloc (below_alloc (below_alloc (Below.refl _ _) _) _) _⟩
    · have h3 : b.f1 < a.f1 := by omega
      rw [decide_eq_true h1, decide_eq_false h2, if_neg (by decide), if_pos h3] at hv
      have HV := Aside0.mk hv
      clear hv
      go_enter Try.func55, Try.ntmps55
      go_wp2_with fail
      refine (Turn_any b.f0 b.f1 a.f0 a.f1 p.f0 p.f1 _).mono ?_
      rintro e w1 ⟨rfl, hb⟩
      rw [HT2.out]
      have HB := Aside0.mk hb
      clear hb
      go_wp2_with fail
      go_ret
      exact ⟨by rw [← HV.out]; rfl, below_then (below_alloc (below_alloc (below_alloc (Below.refl _ _) _) _) _) (below_alloc (below_alloc (below_alloc (Below.refl w.heap.size w) _) _) _).size HB.out⟩
  · by_cases h2 : p.f1 < b.f1
    · have h3 : ¬ b.f1 < a.f1 := by omega
      rw [decide_eq_false h1, decide_eq_true h2, if_neg (by decide), if_neg h3] at hv
      have HV := Aside0.mk hv
      clear hv
      go_enter Try.func55, Try.ntmps55
      go_wp2_with fail
      refine (Turn_any a.f0 a.f1 b.f0 b.f1 p.f0 p.f1 _).mono ?_
      rintro e w1 ⟨rfl, hb⟩
      rw [HT1.out]
      have HB := Aside0.mk hb
      clear hb
      go_wp2_with fail
      go_ret
      exact ⟨by rw [← HV.out]; rfl, below_then (below_alloc (below_alloc (below_alloc (Below.refl _ _) _) _) _) (below_alloc (below_alloc (below_alloc (Below.refl w.heap.size w) _) _) _).size HB.out⟩
    · rw [decide_eq_false h1, decide_eq_false h2, if_pos (by decide)] at hv
      subst hv
      go_enter Try.func55, Try.ntmps55
      go_wp2_with fail
      go_ret
      exact ⟨rfl, below_alloc (below_alloc (below_alloc (Below.refl _ _) _) _) _⟩
end Go.Proofs.Ytmednnpmkhgfpaa.SH
end
section
/- What shape.has answers: has a feature a place? -/
namespace Go.Proofs.Ytmednnpmkhgfpaa.SH
open Go Go.RowKit Go.Shelf Go.Proofs.YtmednnpmkhgfpaaW.PrintWords Go.Proofs.YtmednnpmkhgfpaaW.PrintLast Go.Proofs.YtmednnpmkhgfpaaW.PrintMore Go.Proofs.Ytmednnpmkhgfpaa.PShapes Go.Proofs.Ytmednnpmkhgfpaa.Geo
open Go.Proofs.Ytmednnpmkhgfpaa.GW (on_any)
set_option linter.unusedVariables false
set_option linter.unusedSimpArgs false
attribute [local go_sem high] eqA23
attribute [local go_sem] Oper.semAt_some

def onP (p a b : S23) : Bool := onB p.f0 p.f1 a.f0 a.f1 b.f0 b.f1
/-- over how many of the stretches a ray goes: odd or not -/
def oddOf (p : S23) (l : List Pair) : Bool := l.foldl (fun o s => o != overP p s.1 s.2) false
theorem oddOf_add (p : S23) (l : List Pair) (s : Pair) : oddOf p (l ++ [s]) = (oddOf p l != overP p s.1 s.2) := by simp [oddOf]
def onAny (p : S23) (l : List Pair) : Bool := l.any fun s => onP p s.1 s.2
def hasB (f : Ft) (p : S23) : Bool :=
  if f.shape = 0 then eqP (rdP (rdR f.rings 0) 0) p
  else onAny p (stsOf f.shape f.rings) || (oddOf p (stsOf f.shape f.rings) && f.shape == 2)
theorem rowOwn {β : Type} (B : Nat) (t : TypeId) (f : β → Array Value) : Own (fun s W => W.heap[B]? = some (.cells (f s) t (0, 0))) := fun s X Y row hs hg hrow =>
  (hg.block B (blk_lt hs) (fun e' => by obtain ⟨o, ho, hc⟩ := hrow B e'.symm; rw [hs] at ho; cases ho; cases hc)).trans hs
theorem ownFrom_size {β : Type} (B k : Nat) : OwnFrom B (fun (_ : β) W => k ≤ W.heap.size) := fun _ X Y row hs hg hr => Nat.le_trans hs hg.size
theorem kp0_put {w W0 W : World} {Bs fb l : Nat} {o o' : Obj} (h : w.heap.size ≤ W0.heap.size) (hB : Bs < W0.heap.size) (hl : W0.heap.size ≤ l) (ho : W.heap[l]? = some o) : Kp0 w Bs fb W (W.putObj l o') :=
  ⟨⟨rfl, rfl, rfl, by simp, fun k hk => World.putObj_heap_other (by omega)⟩, fun hc => (World.cell?_of_block (World.putObj_heap_other (by show Bs ≠ l; omega))).trans hc⟩
theorem kp0_alloc {w W : World} {Bs fb : Nat} (h : w.heap.size ≤ W.heap.size) (o : Obj) : Kp0 w Bs fb W (W.alloc o) :=
  ⟨(Below.refl _ W).alloc h o, fun hc => pw_cell_below (below_alloc (Below.refl _ W) o) hc⟩
theorem kp0_below {w W W1 : World} {Bs fb : Nat} (h : w.heap.size ≤ W.heap.size) (hb : Below W.heap.size W W1) : Kp0 w Bs fb W W1 := ⟨hb.mono h, fun hc => pw_cell_below hb hc⟩
theorem kp0_set {w W : World} {Bs fb g j : Nat} (h : w.heap.size ≤ g) (hne : Bs ≠ g) (u : Value) : Kp0 w Bs fb W (W.setCell ⟨g, j, none⟩ u) :=
  ⟨(Below.refl _ W).setCell (p := ⟨g, j, none⟩) h u, fun hc => (World.cell?_of_block (Below.heap_setCell W ⟨g, j, none⟩ u Bs hne)).trans hc⟩
/-- between two rounds -/
def HasI (w : World) (p : S23) (pre : List St) (W : World) : Prop :=
  W.heap[w.heap.size]? = some (.cells #[.int .i64 p.f0, .int .i64 p.f1] 23 (0, 0)) ∧ W.heap[w.heap.size + 1]? = some (.cells #[.bool false] 4 (0, 0)) ∧ W.heap[w.heap.size + 1 + 1]? = some (.cells #[.bool (oddOf p (vals pre))] 4 (0, 0)) ∧ onAny p (vals pre) = false ∧ Below w.heap.size w W ∧ w.heap.size + 4 ≤ W.heap.size
/-- a round has left: the place lies on a stretch -/
def HasX (w : World) (p : S23) (c : Code) (pre : List St) (W : World) : Prop :=
  c = .ret ∧ W.heap[w.heap.size + 1]? = some (.cells #[.bool true] 4 (0, 0)) ∧ onAny p (vals pre) = true ∧ Below w.heap.size w W
theorem hasI_own (w : World) (p : S23) (W0 : World) (h : w.heap.size ≤ W0.heap.size) : OwnFrom W0.heap.size (HasI w p) :=
  OwnFrom.and ((rowOwn _ _ (fun _ => #[.int .i64 p.f0, .int .i64 p.f1])).from _) (OwnFrom.and ((rowOwn _ _ (fun _ => #[.bool false])).from _) (OwnFrom.and ((rowOwn _ _ (fun pre => #[.bool (oddOf p (vals pre))])).from _) (OwnFrom.and (ownFrom_pure _ _) (OwnFrom.and (ownFrom_below (Nat.le_refl _) h) (ownFrom_size _ _)))))
theorem hasX_own (w : World) (p : S23) (W0 : World) (h : w.heap.size ≤ W0.heap.size) (c : Code) : OwnFrom W0.heap.size (HasX w p c) :=
  OwnFrom.and (ownFrom_pure _ (fun _ => c = .ret)) (OwnFrom.and ((rowOwn _ _ (fun _ => #[.bool true])).from _) (OwnFrom.and (ownFrom_pure _ _) (ownFrom_below (Nat.le_refl _) h)))
set_option maxHeartbeats 8000000 in
set_option maxRecDepth 100000 in
theorem has_any (fb : Nat) (f : Ft) (A : Option Addr) (c : Nat) (p : S23) (w : World) (hid : w.cell? ⟨fb, 0, none⟩ = some (.int .i64 f.id)) (hsh : w.cell? ⟨fb, 1, none⟩ = some (.int .i64 f.shape)) (hrs : w.cell? ⟨fb, 2, none⟩ = some (.slice A f.rings.length c)) (hrow : RC w A f.rings)
    (hpts : MayPts f.rings) (hp : ptP p = true) (hne : f.shape = 2 → ∀ ps ∈ f.rings, 0 < ps.length) (h0 : f.shape = 0 → 0 < f.rings.length ∧ 0 < (rdR f.rings 0).length) :
    Calls Try.prog 30 #[.pointer (some ⟨fb, 0, none⟩), .agg #[.int .i64 p.f0, .int .i64 p.f1]] w fun e w' => e = .returned (.bool (hasB f p)) ∧ Below w.heap.size w w' := by
  have hlt := World.block_lt_of_cell? w _ hid
  have HHid := Aside0.mk hid
  have HHsh := Aside0.mk hsh
  have HHrs := Aside0.mk hrs
  have HRow := Aside0.mk hrow
  have HPt := Aside0.mk hpts
  have HP := Aside0.mk hp
  have HNe := Aside0.mk hne
  have HZ := Aside0.mk h0
  clear hid hrs hrow hpts hp hne h0
  by_cases s0 : f.shape = 0
  · have s0' : (f.shape == 0) = true := by simp [s0]
    obtain ⟨z1, z2⟩ := HZ.out s0
    have b0 := blk_alloc (blk_new w (.cells #[.int .i64 p.f0, .int .i64 p.f1] 23)) (.cells #[.bool false] 4)
    have b1 := blk_new (w.alloc (.cells #[.int .i64 p.f0, .int .i64 p.f1] 23)) (.cells #[.bool false] 4)
    have hB0 := below_alloc (below_alloc (Below.refl w.heap.size w) (.cells #[.int .i64 p.f0, .int .i64 p.f1] 23)) (.cells #[.bool false] 4)
    simp only [World.size_alloc] at b1
    have HV := Aside0.mk (show hasB f p = eqP (rdP (rdR f.rings 0) 0) p by unfold hasB; rw [if_pos s0])
    go_enter Try.func30, Try.ntmps30
    go_upto_region 2 with (fail)
    obtain ⟨W0, hW0⟩ : ∃ W0, (w.alloc (.cells #[.int .i64 p.f0, .int .i64 p.f1] 23)).alloc (.cells #[.bool false] 4) = W0 := ⟨_, rfl⟩
    rw [hW0] at b0 b1 hB0 ⊢
    clear hW0
    have g2 := pw_cell_below hB0 HHrs.out
    obtain ⟨ad, A0, ca, e1, hx, hc, hp⟩ := at_r (Kd.C_below HRow.out hB0) 0 z1
    subst e1
    rw [show ad.add 0 = ad from rfl] at hx
    obtain ⟨ad1, e2, p0, p1⟩ := at_p hp 0 z2
    subst e2
    rw [show ad1.add (0 * 2) = ad1 from rfl] at p0 p1
    generalize rdR f.rings 0 = ps at *
    generalize rdP ps 0 = q at *
    have q0 : W0.cell? ⟨w.heap.size, 0, none⟩ = some (.int .i64 p.f0) := (blk_cell b0 0).trans rfl
    have q1 : W0.cell? ⟨w.heap.size, 1, none⟩ = some (.int .i64 p.f1) := (blk_cell b0 1).trans rfl
    have r0 : W0.cell? ⟨w.heap.size + 1, 0, none⟩ = some (.bool false) := (blk_cell b1 0).trans rfl
    have rf := blk_frozen b1 0
    have rl := blk_lt b1
    have HB0 := Aside0.mk hB0
    clear b0 b1 hB0 hp
    go_region_with (fail)
    all_goals go_wp2
    all_goals refine bodyPost_ret (v := .bool (q.f0 == p.f0 && (q.f1 == p.f1))) ?_ rfl ⟨by rw [HV.out]; rfl, (below_drew HB0.out).setCell (p := ⟨w.heap.size + 1, 0, none⟩) (by show w.heap.size ≤ w.heap.size + 1; omega) _⟩
    all_goals have hr1 : (W0.drew.setCell ⟨w.heap.size + 1, 0, none⟩ (.bool (q.f0 == p.f0 && (q.f1 == p.f1)))).cell? ⟨w.heap.size + 1, 0, none⟩ = some (.bool (q.f0 == p.f0 && (q.f1 == p.f1))) := World.cell?_setCell_same' _ _ _ (by show (W0.cell? _).isSome = true; rw [r0]; rfl)
    all_goals simp [*, results, Try.f30, go_sem]
  · have s0' : (f.shape == 0) = false := by simp [s0]
    have HS0 := Aside0.mk s0
    clear s0
    refine (callsIn_wide (n := 6)).1 ?_
    refine callsIn_of_wp_marks Try.func30 rfl trivial ?_ rfl
    simp only [Try.ntmps30, List.size_toArray, List.length_cons, List.length_nil, Nat.reduceAdd, Nat.reduceSub, Array.replicate_succ, Array.replicate_zero, List.push_toArray, List.append_toArray, List.nil_append, List.cons_append]
    gi_wp2
    refine ⟨trivial, callsIn_wide.2 ((stretches_any fb _).mono ?_)⟩
    rintro e w' ⟨rfl, rfl⟩
    gi_wp2
    have b0 := blk_alloc (blk_alloc (blk_alloc (blk_new w (.cells #[.int .i64 p.f0, .int .i64 p.f1] 23)) (.cells #[.bool false] 4)) (.cells #[.bool false] 4)) (.cells #[.pointer (some ⟨fb, 0, none⟩)] 60)
    have b1 := blk_alloc (blk_alloc (blk_new (w.alloc (.cells #[.int .i64 p.f0, .int .i64 p.f1] 23)) (.cells #[.bool false] 4)) (.cells #[.bool false] 4)) (.cells #[.pointer (some ⟨fb, 0, none⟩)] 60)
    have b2 := blk_alloc (blk_new ((w.alloc (.cells #[.int .i64 p.f0, .int .i64 p.f1] 23)).alloc (.cells #[.bool false] 4)) (.cells #[.bool false] 4)) (.cells #[.pointer (some ⟨fb, 0, none⟩)] 60)
    have b3 := blk_new (((w.alloc (.cells #[.int .i64 p.f0, .int .i64 p.f1] 23)).alloc (.cells #[.bool false] 4)).alloc (.cells #[.bool false] 4)) (.cells #[.pointer (some ⟨fb, 0, none⟩)] 60)
    have hB0 := below_alloc (below_alloc (below_alloc (below_alloc (Below.refl w.heap.size w) (.cells #[.int .i64 p.f0, .int .i64 p.f1] 23)) (.cells #[.bool false] 4)) (.cells #[.bool false] 4)) (.cells #[.pointer (some ⟨fb, 0, none⟩)] 60)
    simp only [World.size_alloc] at b1 b2 b3
    have hsz : ((((w.alloc (.cells #[.int .i64 p.f0, .int .i64 p.f1] 23)).alloc (.cells #[.bool false] 4)).alloc (.cells #[.bool false] 4)).alloc (.cells #[.pointer (some ⟨fb, 0, none⟩)] 60)).heap.size = w.heap.size + 4 := by simp
    obtain ⟨W0, hW0⟩ : ∃ W0, (((w.alloc (.cells #[.int .i64 p.f0, .int .i64 p.f1] 23)).alloc (.cells #[.bool false] 4)).alloc (.cells #[.bool false] 4)).alloc (.cells #[.pointer (some ⟨fb, 0, none⟩)] 60) = W0 := ⟨_, rfl⟩
    rw [hW0] at b0 b1 b2 b3 hB0 hsz ⊢
    clear hW0
    have hft : Feat w fb f A c := ⟨HHid.out, HHsh.out, HHrs.out, HRow.out⟩
    have hkb : KB w (w.heap.size + 1 + 1 + 1) fb W0 := ⟨hB0, (blk_cell b3 0).trans rfl⟩
    refine wpIn_rangeFunc_ownH (F := Fence.wide) rfl (by decide) (gf := 58) (lb := #[.pointer (some ⟨w.heap.size + 1 + 1 + 1, 0, none⟩)]) rfl trivial (enters_of Try.func58 (by kernel_rfl) rfl)
      (stretches_stops 5 (by decide) (w.heap.size + 1 + 1 + 1) fb f A c w W0 hft hkb HPt.out HNe.out) Kp0.trans (fun W l o o' hl ho _ _ => kp0_put hB0.size (by omega) hl ho) (Below.refl _ _) (fun _ => rfl)
      (HasI w p) (HasX w p) (hasI_own w p W0 hB0.size) (hasX_own w p W0 hB0.size)
      ⟨b0, b1, b2, rfl, hB0, by omega⟩
      (fun x a' W => ∃ Ba Bb, w.heap.size + 1 + 1 < Ba ∧ w.heap.size + 1 + 1 < Bb ∧ W.heap[Ba]? = some (.cells #[.int .i64 x.1.1.f0, .int .i64 x.1.1.f1] 23 (0, 0)) ∧ W.heap[Bb]? = some (.cells #[.int .i64 x.1.2.f0, .int .i64 x.1.2.f1] 23 (0, 0)) ∧
        a' = { tmps := #[.pointer (some ⟨fb, 0, none⟩), .agg #[.int .i64 p.f0, .int .i64 p.f1], undef, .pointer (some ⟨w.heap.size, 0, none⟩), .pointer (some ⟨w.heap.size + 1, 0, none⟩), .pointer (some ⟨w.heap.size + 1 + 1, 0, none⟩), .pointer (some ⟨Ba, 0, none⟩), .pointer (some ⟨Bb, 0, none⟩),
          .pointer (some ⟨fb, 0, none⟩), .pointer (some ⟨fb, 0, none⟩), .pointer (some ⟨fb, 1, none⟩), .int .i64 f.shape, .bool false, undef, undef, undef, undef, undef, undef, undef, undef, undef, undef, .pointer (some ⟨fb, 0, none⟩),
          .func (.func 58) #[] #[.pointer (some ⟨w.heap.size + 1 + 1 + 1, 0, none⟩)], .agg #[.int .i64 x.1.1.f0, .int .i64 x.1.1.f1], .agg #[.int .i64 x.1.2.f0, .int .i64 x.1.2.f1], undef, undef, undef, undef, undef, undef, undef, undef, undef, undef, undef, undef, undef, undef, undef, undef, undef, undef], defers := [] })
      (fun x a' _ X Y row hs hg hr => by
        obtain ⟨Ba, Bb, h1, h2, h3, h4, h5⟩ := hs
        exact ⟨Ba, Bb, h1, h2, rowOwn Ba 23 (fun (_ : Unit) => #[.int .i64 x.1.1.f0, .int .i64 x.1.1.f1]) () X Y row h3 hg (fun r e => (hr r e).2), rowOwn Bb 23 (fun (_ : Unit) => #[.int .i64 x.1.2.f0, .int .i64 x.1.2.f1]) () X Y row h4 hg (fun r e => (hr r e).2), h5⟩)
      ?assign ?body ?done ?stop
    case assign =>
      rintro l pre x W K ⟨i0, i1, i2, i3, i4, i5⟩ hK
      unfold stEnc
      gi_wp2
      exact hK _ _ (((KeepsOthers.alloc _ _).trans (KeepsOthers.alloc _ _)).from _) ((kp0_alloc i4.size _).trans (kp0_alloc (by rw [World.size_alloc]; exact Nat.le_succ_of_le i4.size) _))
        ⟨blk_alloc (blk_alloc i0 _) _, blk_alloc (blk_alloc i1 _) _, blk_alloc (blk_alloc i2 _) _, i3, below_alloc (below_alloc i4 _) _, by simp; omega⟩
        ⟨W.heap.size, W.heap.size + 1, by omega, by omega, blk_alloc (blk_new W _) _, by have := blk_new (W.alloc (.cells #[.int .i64 x.1.1.f0, .int .i64 x.1.1.f1] 23)) (.cells #[.int .i64 x.1.2.f0, .int .i64 x.1.2.f1] 23); rwa [World.size_alloc] at this, rfl⟩
    case body =>
      rintro l pre x a' W hl ⟨r, hr⟩ ⟨i0, i1, i2, i3, i4, i5⟩ ⟨Ba, Bb, hBa, hBb, hA, hB, rfl⟩ hlen
      have p0 := (blk_cell i0 0).trans rfl
      have p1 := (blk_cell i0 1).trans rfl
      have a0 := (blk_cell hA 0).trans rfl
      have a1 := (blk_cell hA 1).trans rfl
      have c0 := (blk_cell hB 0).trans rfl
      have c1 := (blk_cell hB 1).trans rfl
      gi_wp2
      refine ⟨trivial, CallsIn.inRound l (callsIn_wide.2 ((on_any p.f0 p.f1 x.1.1.f0 x.1.1.f1 x.1.2.f0 x.1.2.f1 W HP.out x.2.1 x.2.2).mono ?_))⟩
      rintro e W1 ⟨rfl, hb⟩
      clear p0 p1 a0 a1 c0 c1
      have hWs := i4.size
      have i5' : w.heap.size + 4 ≤ W1.heap.size := Nat.le_trans i5 hb.size
      replace i0 := blk_below i0 hb
      replace i1 := blk_below i1 hb
      replace i2 := blk_below i2 hb
      replace hA := blk_below hA hb
      replace hB := blk_below hB hb
      replace i4 := below_then i4 i4.size hb
      have HKs := Aside0.mk (show KeepsFrom W0.heap.size W W1 from ⟨hb.size, fun k o _ hk _ => (hb.block k (Array.getElem?_eq_some_iff.1 hk).1).trans hk⟩)
      have HBb := Aside0.mk hb
      have I0 := Aside0.mk i0
      have I1 := Aside0.mk i1
      have I2 := Aside0.mk i2
      have I4 := Aside0.mk i4
      have I3 := Aside0.mk i3
      clear hb i0 i4 i3
      cases ho : onB p.f0 p.f1 x.1.1.f0 x.1.1.f1 x.1.2.f0 x.1.2.f1
      · have p0 : W1.cell? ⟨w.heap.size, 0, none⟩ = some (.int .i64 p.f0) := (blk_cell I0.out 0).trans rfl
        have p1 : W1.cell? ⟨w.heap.size, 1, none⟩ = some (.int .i64 p.f1) := (blk_cell I0.out 1).trans rfl
        have a0 : W1.cell? ⟨Ba, 0, none⟩ = some (.int .i64 x.1.1.f0) := (blk_cell hA 0).trans rfl
        have a1 : W1.cell? ⟨Ba, 1, none⟩ = some (.int .i64 x.1.1.f1) := (blk_cell hA 1).trans rfl
        have c0 : W1.cell? ⟨Bb, 0, none⟩ = some (.int .i64 x.1.2.f0) := (blk_cell hB 0).trans rfl
        have c1 : W1.cell? ⟨Bb, 1, none⟩ = some (.int .i64 x.1.2.f1) := (blk_cell hB 1).trans rfl
        have HO := Aside0.mk ho
        clear ho hA hB i1 i2
        gi_wp2
        refine ⟨trivial, CallsIn.inRound l (callsIn_wide.2 ((over_any p x.1.1 x.1.2 W1 HP.out x.2.1 x.2.2).mono ?_))⟩
        rintro e W2 ⟨rfl, hb2⟩
        clear p0 p1 a0 a1 c0 c1
        have J0 := Aside0.mk (blk_below I0.out hb2)
        have J1 := Aside0.mk (blk_below I1.out hb2)
        have J2 := Aside0.mk (blk_below I2.out hb2)
        have J4 := Aside0.mk (below_then I4.out I4.out.size hb2)
        have J5 := Aside0.mk (Nat.le_trans i5' hb2.size)
        have HKs2 := Aside0.mk (HKs.out.trans (⟨hb2.size, fun k o _ hk _ => (hb2.block k (Array.getElem?_eq_some_iff.1 hk).1).trans hk⟩ : KeepsFrom W0.heap.size W1 W2))
        have HKp := Aside0.mk (kp0_below (Bs := w.heap.size + 1 + 1 + 1) (fb := fb) hWs (below_then HBb.out HBb.out.size hb2))
        clear hb2
        cases hov : overP p x.1.1 x.1.2
        · have HOv := Aside0.mk hov
          clear hov
          gi_wp2
          exact ⟨HKs2.out, HKp.out, J0.out, J1.out, by rw [vals_add, oddOf_add, HOv.out, Bool.bne_false]; exact J2.out, by rw [vals_add]; have := I3.out; simp only [onAny, List.any_append, List.any_cons, List.any_nil, onP] at this ⊢; rw [this, HO.out]; rfl, J4.out, J5.out⟩
        · have HOv := Aside0.mk hov
          clear hov
          have o0 : W2.cell? ⟨w.heap.size + 1 + 1, 0, none⟩ = some (.bool (oddOf p (vals pre))) := (blk_cell J2.out 0).trans rfl
          have of := blk_frozen J2.out 0
          have ol := blk_lt J2.out
          gi_wp2
          exact ⟨HKs2.out.trans ((KeepsOthers.setCell _ _ _).from _), HKp.out.trans (kp0_set (by omega) (by omega) _), blk_far J0.out (by show w.heap.size ≠ w.heap.size + 1 + 1; omega) _, blk_far J1.out (by show w.heap.size + 1 ≠ w.heap.size + 1 + 1; omega) _, by rw [vals_add, oddOf_add, HOv.out, Bool.bne_true]; exact blk_put J2.out 0 _ rfl, by rw [vals_add]; have := I3.out; simp only [onAny, List.any_append, List.any_cons, List.any_nil, onP] at this ⊢; rw [this, HO.out]; rfl, J4.out.setCell (p := ⟨w.heap.size + 1 + 1, 0, none⟩) (by show w.heap.size ≤ w.heap.size + 1 + 1; omega) _, by have := J5.out; simpa [World.setCell] using this⟩
      · have r0 : W1.cell? ⟨w.heap.size + 1, 0, none⟩ = some (.bool false) := (blk_cell I1.out 0).trans rfl
        have rf := blk_frozen I1.out 0
        have rl := blk_lt I1.out
        have HO := Aside0.mk ho
        clear ho hA hB i1 i2
        gi_wp2
        exact ⟨HKs.out.trans ((KeepsOthers.setCell _ _ _).from _), rfl, blk_put I1.out 0 _ rfl, by rw [vals_add]; simp only [onAny, List.any_append, List.any_cons, List.any_nil, onP]; rw [HO.out]; simp, I4.out.setCell (p := ⟨w.heap.size + 1, 0, none⟩) (by show w.heap.size ≤ w.heap.size + 1; omega) _⟩
    case done =>
      rintro D ys W hD hS ⟨i0, i1, i2, i3, i4, i5⟩ hK
      rw [hS] at i2 i3
      have o0 : W.cell? ⟨w.heap.size + 1 + 1, 0, none⟩ = some (.bool (oddOf p (stsOf f.shape f.rings))) := (blk_cell i2 0).trans rfl
      have g1 := pw_cell_below i4 HHsh.out
      have r0 : W.cell? ⟨w.heap.size + 1, 0, none⟩ = some (.bool false) := (blk_cell i1 0).trans rfl
      have rf := blk_frozen i1 0
      have rl := blk_lt i1
      have HI4 := Aside0.mk i4
      have HI3 := Aside0.mk i3
      clear i0 i2 i4 i3
      have HV := Aside0.mk (show hasB f p = (onAny p (stsOf f.shape f.rings) || (oddOf p (stsOf f.shape f.rings) && f.shape == 2)) by unfold hasB; rw [if_neg HS0.out])
      cases hod : oddOf p (stsOf f.shape f.rings)
      · rw [hod] at o0
        gi_wp2
        have hr1 : (W.setCell ⟨w.heap.size + 1, 0, none⟩ (.bool false)).cell? ⟨w.heap.size + 1, 0, none⟩ = some (.bool false) := World.cell?_setCell_same' _ _ _ (by rw [r0]; rfl)
        have hK2 := (KeepsOthers.setCell W ⟨w.heap.size + 1, 0, none⟩ (.bool false)).same D _ hK rfl
        have HB2 := Aside0.mk (HI4.out.setCell (p := ⟨w.heap.size + 1, 0, none⟩) (by show w.heap.size ≤ w.heap.size + 1; omega) (.bool false))
        refine ⟨by simp, .inl ⟨_, _, rfl, run_takeDeferred hK2, ?_⟩⟩
        have hc : ((W.setCell ⟨w.heap.size + 1, 0, none⟩ (.bool false)).putObj D (.deferred none)).cell? ⟨w.heap.size + 1, 0, none⟩ = some (.bool false) := (World.cell?_of_block (World.putObj_heap_other (by show w.heap.size + 1 ≠ D; omega))).trans hr1
        refine ⟨.bool false, by simp [*, results, Try.f30, go_sem], by rw [HV.out, HI3.out, hod]; rfl, HB2.out.trans ⟨rfl, rfl, rfl, by simp, fun k hk => World.putObj_heap_other (by omega)⟩⟩
      · rw [hod] at o0
        gi_wp2
        have hr1 : (W.setCell ⟨w.heap.size + 1, 0, none⟩ (.bool (f.shape == 2))).cell? ⟨w.heap.size + 1, 0, none⟩ = some (.bool (f.shape == 2)) := World.cell?_setCell_same' _ _ _ (by rw [r0]; rfl)
        have hK2 := (KeepsOthers.setCell W ⟨w.heap.size + 1, 0, none⟩ (.bool (f.shape == 2))).same D _ hK rfl
        have HB2 := Aside0.mk (HI4.out.setCell (p := ⟨w.heap.size + 1, 0, none⟩) (by show w.heap.size ≤ w.heap.size + 1; omega) (.bool (f.shape == 2)))
        refine ⟨by simp, .inl ⟨_, _, rfl, run_takeDeferred hK2, ?_⟩⟩
        have hc : ((W.setCell ⟨w.heap.size + 1, 0, none⟩ (.bool (f.shape == 2))).putObj D (.deferred none)).cell? ⟨w.heap.size + 1, 0, none⟩ = some (.bool (f.shape == 2)) := (World.cell?_of_block (World.putObj_heap_other (by show w.heap.size + 1 ≠ D; omega))).trans hr1
        refine ⟨.bool (f.shape == 2), by simp [*, results, Try.f30, go_sem], by rw [HV.out, HI3.out, hod]; rfl, HB2.out.trans ⟨rfl, rfl, rfl, by simp, fun k hk => World.putObj_heap_other (by omega)⟩⟩
    case stop =>
      rintro D c' pre W hD hSp ⟨rfl, i1, i3, i4⟩ hK
      have r0 : W.cell? ⟨w.heap.size + 1, 0, none⟩ = some (.bool true) := (blk_cell i1 0).trans rfl
      have HV := Aside0.mk (show hasB f p = (onAny p (stsOf f.shape f.rings) || (oddOf p (stsOf f.shape f.rings) && f.shape == 2)) by unfold hasB; rw [if_neg HS0.out])
      have HA := Aside0.mk (show onAny p (stsOf f.shape f.rings) = true by obtain ⟨t, ht⟩ := hSp; rw [← ht]; unfold onAny at i3 ⊢; rw [List.any_append, i3]; rfl)
      have HI4 := Aside0.mk i4
      have HI1 := Aside0.mk i1
      clear i1 i3 i4 hSp
      gi_wp2
      have hr1 := r0
      refine ⟨by simp, .inl ⟨_, _, rfl, run_takeDeferred hK, ?_⟩⟩
      have hc : (W.putObj D (.deferred none)).cell? ⟨w.heap.size + 1, 0, none⟩ = some (.bool true) := (World.cell?_of_block (World.putObj_heap_other (by show w.heap.size + 1 ≠ D; omega))).trans hr1
      refine ⟨.bool true, by simp [*, results, Try.f30, go_sem], by rw [HV.out, HA.out]; rfl, HI4.out.trans ⟨rfl, rfl, rfl, by simp, fun k hk => World.putObj_heap_other (by omega)⟩⟩
end Go.Proofs.Ytmednnpmkhgfpaa.SH
end
section
/- What shape.Has answers. -/
namespace Go.Proofs.Ytmednnpmkhgfpaa.SH
open Go Go.RowKit Go.Proofs.YtmednnpmkhgfpaaW.PrintWords Go.Proofs.Ytmednnpmkhgfpaa.PShapes Go.Proofs.Ytmednnpmkhgfpaa.Geo
open Go.Proofs.Ytmednnpmkhgfpaa.GW (pointMay_any)
set_option linter.unusedVariables false
set_option linter.unusedSimpArgs false
attribute [local go_sem high] eqA23

theorem ring_pts {ps : List S23} {least : Int} {closed : Bool} (h : ringB ps least closed = true) : ∀ p ∈ ps, ptP p = true := by
  intro p hp
  obtain ⟨k, hk, rfl⟩ := List.mem_iff_getElem.1 hp
  have := (ring_iff.1 h).2.2 k hk
  unfold okAt at this
  rw [Bool.and_eq_true] at this
  have h1 := this.1
  unfold rdP at h1
  simpa [hk] using h1
theorem may_iff {f : Ft} : mayB f = true ↔ 1 ≤ f.id ∧ f.id ≤ 65535 ∧ 1 ≤ f.rings.length ∧ f.rings.length ≤ 4 ∧
    ((f.shape = 0 ∧ f.rings.length = 1 ∧ (rdR f.rings 0).length = 1 ∧ ptP (rdP (rdR f.rings 0) 0) = true) ∨ (f.shape = 1 ∧ f.rings.length = 1 ∧ ringB (rdR f.rings 0) 2 false = true) ∨ (f.shape = 2 ∧ ∀ ps ∈ f.rings, ringB ps 3 true = true)) := by
  unfold mayB
  simp only [Bool.and_eq_true, decide_eq_true_eq, and_assoc]
  by_cases h0 : f.shape = 0
  · simp [h0, and_assoc]
  · by_cases h1 : f.shape = 1
    · simp [h1]
    · by_cases h2 : f.shape = 2
      · simp [h2]
      · simp [h0, h1, h2]
theorem one_ring {rs : List (List S23)} (h : rs.length = 1) {ps : List S23} (hp : ps ∈ rs) : ps = rdR rs 0 := by
  match rs, h with
  | [x], _ => rw [List.mem_singleton] at hp; exact hp
theorem may_pts {f : Ft} (h : mayB f = true) : MayPts f.rings := by
  obtain ⟨_, _, _, _, ⟨_, hl, h1, hp⟩ | ⟨_, hl, hr⟩ | ⟨_, hr⟩⟩ := may_iff.1 h
  · intro ps hps p hpp
    rw [one_ring hl hps] at hpp
    obtain ⟨k, hk, rfl⟩ := List.mem_iff_getElem.1 hpp
    have : k = 0 := by omega
    subst this
    unfold rdP at hp
    simpa [hk] using hp
  · intro ps hps p hpp
    rw [one_ring hl hps] at hpp
    exact ring_pts hr p hpp
  · intro ps hps p hpp
    exact ring_pts (hr ps hps) p hpp
theorem may_ne {f : Ft} (h : mayB f = true) (h2 : f.shape = 2) : ∀ ps ∈ f.rings, 0 < ps.length := by
  obtain ⟨_, _, _, _, ⟨h0, _⟩ | ⟨h1, _⟩ | ⟨_, hr⟩⟩ := may_iff.1 h
  · omega
  · omega
  · intro ps hps
    have := (ring_iff.1 (hr ps hps)).1
    omega
theorem may_zero {f : Ft} (h : mayB f = true) (h0 : f.shape = 0) : 0 < f.rings.length ∧ 0 < (rdR f.rings 0).length := by
  obtain ⟨_, _, hl, _, ⟨_, _, h1, _⟩ | ⟨h1, _⟩ | ⟨h1, _⟩⟩ := may_iff.1 h
  · omega
  · omega
  · omega
def okE (b : Bool) : Int := if b = true then 0 else 400
def hasV (f : Ft) (p : S23) : Bool := mayB f && ptP p && hasB f p
set_option maxHeartbeats 8000000 in
set_option maxRecDepth 100000 in
theorem Has_any (f : Ft) (A : Option Addr) (c : Nat) (p : S23) (w : World) (h : RC w A f.rings) :
    Calls Try.prog 12 #[.agg #[.int .i64 f.id, .int .i64 f.shape, .slice A f.rings.length c], .agg #[.int .i64 p.f0, .int .i64 p.f1]] w fun e w' => e = .returned (.tuple #[.bool (hasV f p), .int .i64 (okE (mayB f && ptP p))]) ∧ Below w.heap.size w w' := by
  have HR := Aside0.mk h
  clear h
  have b0 := blk_alloc (blk_new w (.cells #[.int .i64 f.id, .int .i64 f.shape, .slice A f.rings.length c] 27)) (.cells #[.int .i64 p.f0, .int .i64 p.f1] 23)
  have b1 := blk_new (w.alloc (.cells #[.int .i64 f.id, .int .i64 f.shape, .slice A f.rings.length c] 27)) (.cells #[.int .i64 p.f0, .int .i64 p.f1] 23)
  simp only [World.size_alloc] at b1
  have hB := below_alloc (below_alloc (Below.refl w.heap.size w) (.cells #[.int .i64 f.id, .int .i64 f.shape, .slice A f.rings.length c] 27)) (.cells #[.int .i64 p.f0, .int .i64 p.f1] 23)
  have HE := Aside0.mk (show hasV f p = (mayB f && ptP p && hasB f p) from rfl)
  have HM := Aside0.mk (fun h => may_pts (f := f) h)
  have HN := Aside0.mk (fun h => may_ne (f := f) h)
  have HZ := Aside0.mk (fun h => may_zero (f := f) h)
  go_enter Try.func12, Try.ntmps12
  go_upto_region 1 with (fail)
  obtain ⟨W, hW⟩ : ∃ W, (w.alloc (.cells #[.int .i64 f.id, .int .i64 f.shape, .slice A f.rings.length c] 27)).alloc (.cells #[.int .i64 p.f0, .int .i64 p.f1] 23) = W := ⟨_, rfl⟩
  rw [hW] at b0 b1 hB ⊢
  clear hW
  have HB := Aside0.mk hB
  have B0 := Aside0.mk b0
  have B1 := Aside0.mk b1
  clear hB
  have f0 : W.cell? ⟨w.heap.size, 0, none⟩ = some (.int .i64 f.id) := (blk_cell b0 0).trans rfl
  have f1 : W.cell? ⟨w.heap.size, 1, none⟩ = some (.int .i64 f.shape) := (blk_cell b0 1).trans rfl
  have f2 : W.cell? ⟨w.heap.size, 2, none⟩ = some (.slice A f.rings.length c) := (blk_cell b0 2).trans rfl
  clear b0 b1
  go_wp2_with fail
  refine (may_any f A c W (Kd.C_below HR.out HB.out)).mono ?_
  rintro e W1 ⟨rfl, hb⟩
  have B2 := Aside0.mk (blk_below B0.out hb)
  have B3 := Aside0.mk (blk_below B1.out hb)
  have HB1 := Aside0.mk (below_then HB.out HB.out.size hb)
  clear hb f0 f1 f2
  cases hm : mayB f
  · have HMf := Aside0.mk hm
    clear hm
    go_wp2_with fail
    go_ret2
    exact ⟨by rw [HE.out, HMf.out]; rfl, HB1.out⟩
  · have HMf := Aside0.mk hm
    clear hm
    have p0 : W1.cell? ⟨w.heap.size + 1, 0, none⟩ = some (.int .i64 p.f0) := (blk_cell B3.out 0).trans rfl
    have p1 : W1.cell? ⟨w.heap.size + 1, 1, none⟩ = some (.int .i64 p.f1) := (blk_cell B3.out 1).trans rfl
    go_wp2_with fail
    refine (pointMay_any p.f0 p.f1 W1).mono ?_
    rintro e W2 ⟨rfl, hb⟩
    have B4 := Aside0.mk (blk_below B2.out hb)
    have B5 := Aside0.mk (blk_below B3.out hb)
    have HB2 := Aside0.mk (below_then HB1.out HB1.out.size hb)
    clear hb p0 p1
    cases hp : ptB p.f0 p.f1
    · have HPf := Aside0.mk (show ptP p = false from hp)
      clear hp
      go_wp2_with fail
      go_ret2
      exact ⟨by rw [HE.out, HMf.out, HPf.out]; rfl, HB2.out⟩
    · have HPf := Aside0.mk (show ptP p = true from hp)
      clear hp
      have p0 : W2.cell? ⟨w.heap.size + 1, 0, none⟩ = some (.int .i64 p.f0) := (blk_cell B5.out 0).trans rfl
      have p1 : W2.cell? ⟨w.heap.size + 1, 1, none⟩ = some (.int .i64 p.f1) := (blk_cell B5.out 1).trans rfl
      go_wp2_with fail
      refine (has_any w.heap.size f A c p W2 ((blk_cell B4.out 0).trans rfl) ((blk_cell B4.out 1).trans rfl) ((blk_cell B4.out 2).trans rfl) (Kd.C_below HR.out HB2.out) (HM.out HMf.out) HPf.out (HN.out HMf.out) (HZ.out HMf.out)).mono ?_
      rintro e W3 ⟨rfl, hb⟩
      have HB3 := Aside0.mk (below_then HB2.out HB2.out.size hb)
      clear hb p0 p1
      go_wp2_with fail
      go_ret2
      exact ⟨by rw [HE.out, HMf.out, HPf.out]; rfl, HB3.out⟩
end Go.Proofs.Ytmednnpmkhgfpaa.SH
end
