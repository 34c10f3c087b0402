/- A region that draws its order, inside a round of a loop over a function: what the plain walk shows of it holds there too. -/
import Derived.Test.YtmednnpmkhgfpaaShKA
section
namespace Go.Proofs.Ytmednnpmkhgfpaa.SH
open Go Go.RowKit Go.Proofs.YtmednnpmkhgfpaaW.PrintWords Go.Proofs.YtmednnpmkhgfpaaW.PrintLast
set_option linter.unusedVariables false
set_option linter.unusedSimpArgs false

theorem noPanic {P : Program} {c : Code} {K : Act → World → Prop} {Q : Exit → Act → World → Prop} {a : Act} {w : World} (h : c.wp P (Exit.then K (fun _ _ _ => False)) a w) : c.wp P (Exit.then K Q) a w :=
  (wpIn_wide (n := 1)).1 (wpIn_mono ((wpIn_wide (n := 1)).2 h) (fun e a w h => by cases e <;> first | exact h | exact False.elim h))
def noDefers (ops : Array Oper) : Bool := ops.all fun o => match o.op with | .defer _ => false | _ => true
theorem noDefers_at {ops : Array Oper} (h : noDefers ops = true) {i : Nat} {o : Oper} (ho : ops[i]? = some o) : ∀ c, o.op ≠ .defer c := by
  intro c e
  obtain ⟨hlt, he⟩ := Array.getElem?_eq_some_iff.1 ho
  have := Array.all_eq_true.1 h i hlt
  rw [he, e] at this
  cases this
section
variable {l n : Nat} {P : Program} {Q : Exit → Act → World → Prop} {md : Region.Mode} {ops : Array Oper}
theorem upon_in {o : Oper} {a : Act} {K : Act → World → Prop} {r : Result Next} (h : o.upon P a K Q r) : o.uponIn (Fence.wide.inRound l) n P a K Q r := by
  cases r with
  | ok x w' =>
    cases x with
    | value v => exact h
    | skip => exact h
    | defer d => exact h
    | enter f args => exact ⟨fun h => (by cases h), CallsIn.inRound l (callsIn_wide.2 h)⟩
    | row row args => exact ⟨fun h => (by cases h), fun c cs _ => let ⟨v, w', r, s⟩ := h c cs; ⟨v, w', r, stepsIn_wide.2 s⟩⟩
    | _ => exact False.elim h
  | halt x w' => cases x <;> first | exact h | exact False.elim h
theorem opIn (hd : noDefers ops = true) (hl : ¬ LetsOut Q) {i : Nat} {K : Act → World → Prop} {a : Act} {w : World} (h : wpOp P ops Q i K a w) : wpOpIn (Fence.wide.inRound l) n P ops Q i K a w := by
  unfold wpOp at h
  unfold wpOpIn
  cases ho : ops[i]? with
  | none => rw [ho] at h; exact h
  | some o =>
    rw [ho] at h
    dsimp only at h ⊢
    split
    · rename_i hw
      rw [if_pos hw] at h
      rcases h with h | h
      · refine ⟨fun _ _ => trivial, ?_⟩
        rw [Oper.semAt_eq _ _ _ (noDefers_at hd ho)]
        exact upon_in h
      · exact absurd h.2 hl
    · rename_i hw
      rw [if_neg hw] at h
      exact ⟨fun _ _ => trivial, h⟩
theorem anyIn (hd : noDefers ops = true) (hl : ¬ LetsOut Q) : ∀ (fuel : Nat) (listed : Array Bool) (a : Act) (w : World), wpAny P md ops Q fuel listed a w → wpAnyIn (Fence.wide.inRound l) n P md ops Q fuel listed a w
  | 0, _, _, _, h => h
  | fuel + 1, _, _, _, h => ⟨h.1, fun i hi => opIn hd hl (wpOp_mono (fun a' w' h' => anyIn hd hl fuel _ a' w' h') (h.2 i hi))⟩
end
theorem noLet {K : Act → World → Prop} : ¬ LetsOut (Exit.then K (fun _ _ _ => False)) := by
  rintro ⟨a, w, h⟩
  exact h
/-- 'start_' inside a round -/
theorem startIn_ {l n m : Nat} {P : Program} {ops : Array Oper} {Q : Exit → Act → World → Prop} {S : World → Prop} {ds : List Nat} {id : Nat} {a : Act} {w : World} (hd : noDefers ops = true) (bs : Array Bool) (hm : P.follows .mixedOrders = true) (hn : ops.size = m) (hb : Array.replicate m false = bs) (hS : S w.drew)
    (h : S w.drew → wpAnyLast P .any ops (Exit.then (fun a w => Q .normal a w) (fun _ _ _ => False)) S ds m bs a w.drew) : (Code.region id ops true).wpIn (Fence.wide.inRound l) n P Q a w := by
  subst hn
  subst hb
  exact wpIn_mono (wpIn_region_any hm (anyIn hd noLet _ _ _ _ (wpAny_of_last _ _ _ _ (h hS)))) (fun e a w h => by cases e <;> first | exact h | exact False.elim h)
end Go.Proofs.Ytmednnpmkhgfpaa.SH
end
section
/- The least box of a feature's points: what shape.Box answers. -/
namespace Go.Proofs.Ytmednnpmkhgfpaa.SH
open Go Go.RowKit Go.Shelf Go.Proofs.YtmednnpmkhgfpaaW.PrintWords Go.Proofs.YtmednnpmkhgfpaaW.PrintLast Go.Proofs.YtmednnpmkhgfpaaW.PrintMore Go.Proofs.Ytmednnpmkhgfpaa.PShapes Go.Proofs.Ytmednnpmkhgfpaa.Geo
open Go.Proofs.Ytmednnpmkhgfpaa.GW (between_any join_any joinIs orZero orErr)
set_option linter.unusedVariables false
set_option linter.unusedSimpArgs false
attribute [local go_sem high] eqA23
attribute [local go_sem] Oper.semAt_some

structure Bx where
  x0 : Int
  y0 : Int
  x1 : Int
  y1 : Int
def zB : Bx := ⟨0, 0, 0, 0⟩
def bxMay (b : Bx) : Bool := boxB b.x0 b.y0 b.x1 b.y1
def atB (p : S23) : Bx := ⟨p.f0, p.f1, p.f0, p.f1⟩
def joinP (b : Bx) (p : S23) : Bx := ⟨min b.x0 p.f0, min b.y0 p.f1, max b.x1 p.f0, max b.y1 p.f1⟩
def boxL (p : S23) (ps : List S23) : Bx := ps.foldl joinP (atB p)
def boxV (f : Ft) : Bx := if mayB f = true then boxL (rdP (rdR f.rings 0) 0) f.rings.flatten else zB
theorem boxL_add (p : S23) (ps : List S23) (q : S23) : boxL p (ps ++ [q]) = joinP (boxL p ps) q := by simp [boxL]
theorem join_may {b : Bx} {p : S23} (hb : bxMay b = true) (hp : ptP p = true) : bxMay (joinP b p) = true := by
  unfold bxMay joinP at *
  unfold ptP at hp
  rw [boxB_iff] at hb ⊢
  rw [ptB_iff] at hp
  simp only
  omega
theorem at_may {p : S23} (hp : ptP p = true) : bxMay (atB p) = true := by
  unfold bxMay atB
  unfold ptP at hp
  rw [ptB_iff] at hp
  rw [boxB_iff]
  simp only
  omega
theorem boxL_may {p : S23} (hp : ptP p = true) : ∀ (ps : List S23), (∀ q ∈ ps, ptP q = true) → ∀ b, bxMay b = true → bxMay (ps.foldl joinP b) = true
  | [], _, b, hb => hb
  | q :: ps, h, b, hb => boxL_may hp ps (fun r hr => h r (List.mem_cons_of_mem _ hr)) _ (join_may hb (h q (List.mem_cons_self ..)))
/-- what geom.Join leaves, whatever the point -/
def joinV (b : Bx) (p : S23) : Bx :=
  ⟨orZero (joinIs b.x0 b.y0 b.x1 b.y1 p.f0 p.f1 p.f0 p.f1) (min b.x0 p.f0), orZero (joinIs b.x0 b.y0 b.x1 b.y1 p.f0 p.f1 p.f0 p.f1) (min b.y0 p.f1), orZero (joinIs b.x0 b.y0 b.x1 b.y1 p.f0 p.f1 p.f0 p.f1) (max b.x1 p.f0), orZero (joinIs b.x0 b.y0 b.x1 b.y1 p.f0 p.f1 p.f0 p.f1) (max b.y1 p.f1)⟩
theorem joinV_is {b : Bx} {p : S23} (hb : bxMay b = true) (hp : ptP p = true) : joinV b p = joinP b p := by
  have h : joinIs b.x0 b.y0 b.x1 b.y1 p.f0 p.f1 p.f0 p.f1 = true := by
    have h2 := at_may hp
    unfold bxMay at hb h2
    unfold joinIs
    unfold atB at h2
    rw [hb, h2]
    rfl
  unfold joinV joinP orZero
  rw [h]
  rfl
def boxW (p : S23) (ps : List S23) : Bx := ps.foldl joinV (atB p)
theorem boxW_add (p : S23) (ps : List S23) (q : S23) : boxW p (ps ++ [q]) = joinV (boxW p ps) q := by simp [boxW]
theorem boxW_is {p : S23} (hp : ptP p = true) {ps : List S23} (h : ∀ q ∈ ps, ptP q = true) : boxW p ps = boxL p ps := by
  have gen : ∀ (ps : List S23), (∀ q ∈ ps, ptP q = true) → ∀ b, bxMay b = true → ps.foldl joinV b = ps.foldl joinP b := by
    intro ps
    induction ps with
    | nil => intro _ b _; rfl
    | cons q ps ih =>
      intro h b hb
      rw [List.foldl_cons, List.foldl_cons, joinV_is hb (h q (List.mem_cons_self ..))]
      exact ih (fun r hr => h r (List.mem_cons_of_mem _ hr)) _ (join_may hb (h q (List.mem_cons_self ..)))
  exact gen ps h _ (at_may hp)
theorem rowOwn' {β : Type} (B : Nat) (t : TypeId) (f : β → Array Value) : Own (fun s W => W.heap[B]? = some (.cells (f s) t (0, 0))) := fun s X Y row hs hg hrow =>
  (hg.block B (blk_lt hs) (fun e' => by obtain ⟨o, ho, hc⟩ := hrow B e'.symm; rw [hs] at ho; cases ho; cases hc)).trans hs
def bxA (b : Bx) : Array Value := #[.int .i64 b.x0, .int .i64 b.y0, .int .i64 b.x1, .int .i64 b.y1]
/-- between two rounds: rb holds the (empty) result, ob the box so far -/
def BoxI (w : World) (p : S23) (rb ob n : Nat) (pre : List S23) (W : World) : Prop :=
  W.heap[rb]? = some (.cells (bxA zB) 30 (0, 0)) ∧ W.heap[ob]? = some (.cells (bxA (boxW p pre)) 30 (0, 0)) ∧ Below w.heap.size w W ∧ n ≤ W.heap.size
theorem boxI_own (w : World) (p : S23) (rb ob n : Nat) (W0 : World) (h : w.heap.size ≤ W0.heap.size) : OwnFrom W0.heap.size (BoxI w p rb ob n) :=
  OwnFrom.and ((rowOwn' _ _ (fun _ => bxA zB)).from _) (OwnFrom.and ((rowOwn' _ _ (fun pre => bxA (boxW p pre))).from _) (OwnFrom.and (ownFrom_below (Nat.le_refl _) h) (ownFrom_size _ _)))
theorem between_pt (x y : Int) (w : World) : Calls Try.prog 42 #[.agg #[.int .i64 x, .int .i64 y], .agg #[.int .i64 x, .int .i64 y]] w fun e w' => e = .returned (.agg #[.int .i64 x, .int .i64 y, .int .i64 x, .int .i64 y]) ∧ Below w.heap.size w w' := by
  have h := between_any x y x y w
  rwa [Int.min_self, Int.min_self, Int.max_self, Int.max_self] at h
theorem join_pt (b : Bx) (q : S23) (w : World) : Calls Try.prog 43 #[.agg #[.int .i64 b.x0, .int .i64 b.y0, .int .i64 b.x1, .int .i64 b.y1], .agg #[.int .i64 q.f0, .int .i64 q.f1, .int .i64 q.f0, .int .i64 q.f1]] w fun e w' => e = .returned (.tuple #[.agg #[.int .i64 (joinV b q).x0, .int .i64 (joinV b q).y0, .int .i64 (joinV b q).x1, .int .i64 (joinV b q).y1], .int .i64 (orErr (joinIs b.x0 b.y0 b.x1 b.y1 q.f0 q.f1 q.f0 q.f1) 300)]) ∧ Below w.heap.size w w' :=
  join_any b.x0 b.y0 b.x1 b.y1 q.f0 q.f1 q.f0 q.f1 w
/-- a box is written over -/
def set4 (W : World) (g : Nat) (b : Bx) : World := (((W.setCell ⟨g, 0, none⟩ (.int .i64 b.x0)).setCell ⟨g, 1, none⟩ (.int .i64 b.y0)).setCell ⟨g, 2, none⟩ (.int .i64 b.x1)).setCell ⟨g, 3, none⟩ (.int .i64 b.y1)
theorem set4_blk {W : World} {g : Nat} {b0 : Bx} (h : W.heap[g]? = some (.cells (bxA b0) 30 (0, 0))) (b : Bx) : (set4 W g b).heap[g]? = some (.cells (bxA b) 30 (0, 0)) :=
  blk_put (blk_put (blk_put (blk_put h 0 _ rfl) 1 _ rfl) 2 _ rfl) 3 _ rfl
theorem set4_far {W : World} {g k : Nat} {cs : Array Value} {t : TypeId} (h : W.heap[k]? = some (.cells cs t (0, 0))) (hne : k ≠ g) (b : Bx) : (set4 W g b).heap[k]? = some (.cells cs t (0, 0)) :=
  blk_far (blk_far (blk_far (blk_far h hne _) hne _) hne _) hne _
theorem set4_below {w W : World} {g : Nat} (h : Below w.heap.size w W) (hg : w.heap.size ≤ g) (b : Bx) : Below w.heap.size w (set4 W g b) :=
  (((h.setCell (p := ⟨g, 0, none⟩) hg _).setCell (p := ⟨g, 1, none⟩) hg _).setCell (p := ⟨g, 2, none⟩) hg _).setCell (p := ⟨g, 3, none⟩) hg _
theorem set4_ko (W : World) (g : Nat) (b : Bx) : KeepsOthers W (set4 W g b) :=
  (((KeepsOthers.setCell _ _ _).trans (KeepsOthers.setCell _ _ _)).trans (KeepsOthers.setCell _ _ _)).trans (KeepsOthers.setCell _ _ _)
theorem set4_keeps (n : Nat) (W : World) (g : Nat) (b : Bx) : KeepsFrom n W (set4 W g b) :=
  (((((KeepsOthers.setCell _ _ _).trans (KeepsOthers.setCell _ _ _)).trans (KeepsOthers.setCell _ _ _)).trans (KeepsOthers.setCell _ _ _)).from _)
theorem set4_kp {w W : World} {Bs fb g : Nat} (h : w.heap.size ≤ g) (hne : Bs ≠ g) (b : Bx) : Kp0 w Bs fb W (set4 W g b) :=
  ((kp0_set h hne _).trans (kp0_set h hne _)).trans ((kp0_set h hne _).trans (kp0_set h hne _))
theorem set4_size (W : World) (g : Nat) (b : Bx) : (set4 W g b).heap.size = W.heap.size := by unfold set4; simp [World.setCell]
theorem keepsFrom_below {n : Nat} {W W1 : World} (hb : Below W.heap.size W W1) : KeepsFrom n W W1 := ⟨hb.size, fun k o _ hk _ => (hb.block k (Array.getElem?_eq_some_iff.1 hk).1).trans hk⟩
set_option maxHeartbeats 8000000 in
set_option maxRecDepth 100000 in
theorem Box_any (f : Ft) (A : Option Addr) (c : Nat) (w : World) (h : RC w A f.rings) :
    Calls Try.prog 17 #[.agg #[.int .i64 f.id, .int .i64 f.shape, .slice A f.rings.length c]] w fun e w' => e = .returned (.tuple #[.agg (bxA (boxV f)), .int .i64 (okE (mayB f))]) ∧ Below w.heap.size w w' := by
  have HR := Aside0.mk h
  clear h
  have b0 := blk_alloc (blk_new w (.cells #[.int .i64 f.id, .int .i64 f.shape, .slice A f.rings.length c] 27)) (.cells #[.int .i64 0, .int .i64 0, .int .i64 0, .int .i64 0] 30)
  have b1 := blk_new (w.alloc (.cells #[.int .i64 f.id, .int .i64 f.shape, .slice A f.rings.length c] 27)) (.cells #[.int .i64 0, .int .i64 0, .int .i64 0, .int .i64 0] 30)
  simp only [World.size_alloc] at b1
  have hB := below_alloc (below_alloc (Below.refl w.heap.size w) (.cells #[.int .i64 f.id, .int .i64 f.shape, .slice A f.rings.length c] 27)) (.cells #[.int .i64 0, .int .i64 0, .int .i64 0, .int .i64 0] 30)
  cases hm : mayB f
  · have HV := Aside0.mk (show boxV f = zB by unfold boxV; rw [hm]; rfl)
    have HMf := Aside0.mk hm
    clear hm
    go_enter Try.func17, Try.ntmps17
    go_upto_region 1 with (fail)
    obtain ⟨W, hW⟩ : ∃ W, (w.alloc (.cells #[.int .i64 f.id, .int .i64 f.shape, .slice A f.rings.length c] 27)).alloc (.cells #[.int .i64 0, .int .i64 0, .int .i64 0, .int .i64 0] 30) = W := ⟨_, rfl⟩
    rw [hW] at b0 b1 hB ⊢
    clear hW
    have f0 : W.cell? ⟨w.heap.size, 0, none⟩ = some (.int .i64 f.id) := (blk_cell b0 0).trans rfl
    have f1 : W.cell? ⟨w.heap.size, 1, none⟩ = some (.int .i64 f.shape) := (blk_cell b0 1).trans rfl
    have f2 : W.cell? ⟨w.heap.size, 2, none⟩ = some (.slice A f.rings.length c) := (blk_cell b0 2).trans rfl
    have HB := Aside0.mk hB
    have B1 := Aside0.mk b1
    clear hB b0 b1
    go_wp2_with fail
    refine (may_any f A c W (Kd.C_below HR.out HB.out)).mono ?_
    rintro e W1 ⟨rfl, hb⟩
    rw [HMf.out]
    have B2 := Aside0.mk (blk_below B1.out hb)
    have HB1 := Aside0.mk (below_then HB.out HB.out.size hb)
    clear hb f0 f1 f2
    have r0 : W1.cell? ⟨w.heap.size + 1, 0, none⟩ = some (.int .i64 0) := (blk_cell B2.out 0).trans rfl
    have r1 : W1.cell? ⟨w.heap.size + 1, 1, none⟩ = some (.int .i64 0) := (blk_cell B2.out 1).trans rfl
    have r2 : W1.cell? ⟨w.heap.size + 1, 2, none⟩ = some (.int .i64 0) := (blk_cell B2.out 2).trans rfl
    have r3 : W1.cell? ⟨w.heap.size + 1, 3, none⟩ = some (.int .i64 0) := (blk_cell B2.out 3).trans rfl
    have rf := blk_frozen B2.out
    have rl := blk_lt B2.out
    go_wp2_with fail
    have hs := set4_blk (b0 := zB) B2.out zB
    have hBz := set4_below HB1.out (g := w.heap.size + 1) (by omega) zB
    clear r0 r1 r2 r3 rf rl
    show bodyPost _ _ _ _ _ (set4 W1 (w.heap.size + 1) zB)
    generalize set4 W1 (w.heap.size + 1) zB = W2 at *
    have r0 : W2.cell? ⟨w.heap.size + 1, 0, none⟩ = some (.int .i64 0) := (blk_cell hs 0).trans rfl
    have r1 : W2.cell? ⟨w.heap.size + 1, 1, none⟩ = some (.int .i64 0) := (blk_cell hs 1).trans rfl
    have r2 : W2.cell? ⟨w.heap.size + 1, 2, none⟩ = some (.int .i64 0) := (blk_cell hs 2).trans rfl
    have r3 : W2.cell? ⟨w.heap.size + 1, 3, none⟩ = some (.int .i64 0) := (blk_cell hs 3).trans rfl
    refine bodyPost_ret (v := .tuple #[.agg #[.int .i64 0, .int .i64 0, .int .i64 0, .int .i64 0], .int .i64 400]) (by simp [r0, r1, r2, r3, results, Try.f17, go_sem]) rfl ⟨by rw [HV.out]; rfl, hBz⟩
  · have HM := Aside0.mk hm
    have HP0 := Aside0.mk (show ptP (rdP (rdR f.rings 0) 0) = true from by
      obtain ⟨_, _, hl, _, h⟩ := may_iff.1 hm
      refine may_pts hm _ (rdR_mem (k := 0) (by omega)) _ (rdP_mem ?_)
      rcases h with ⟨_, _, h1, _⟩ | ⟨_, _, hr⟩ | ⟨_, hr⟩
      · omega
      · have := (ring_iff.1 hr).1; omega
      · have := (ring_iff.1 (hr (rdR f.rings 0) (rdR_mem (by omega)))).1; omega)
    have hlen : 0 < f.rings.length ∧ 0 < (rdR f.rings 0).length := by
      obtain ⟨_, _, hl, _, h⟩ := may_iff.1 hm
      refine ⟨by omega, ?_⟩
      rcases h with ⟨_, _, h1, _⟩ | ⟨_, _, hr⟩ | ⟨_, hr⟩
      · omega
      · have := (ring_iff.1 hr).1; omega
      · have := (ring_iff.1 (hr (rdR f.rings 0) (rdR_mem (by omega)))).1; omega
    have HFl := Aside0.mk (show ∀ q ∈ f.rings.flatten, ptP q = true from fun q hq => by
      obtain ⟨ps, hps, hq⟩ := List.mem_flatten.1 hq
      exact may_pts hm ps hps q hq)
    clear hm
    refine (callsIn_wide (n := 6)).1 ?_
    refine callsIn_of_wp_marks Try.func17 rfl trivial ?_ rfl
    simp only [Try.ntmps17, List.size_toArray, List.length_cons, List.length_nil, Nat.reduceAdd, Nat.reduceSub, Array.replicate_succ, Array.replicate_zero, List.push_toArray, List.append_toArray, List.nil_append, List.cons_append]
    have HB := Aside0.mk hB
    have B0 := Aside0.mk b0
    have B1 := Aside0.mk b1
    clear hB b0 b1
    gi_wp2
    refine ⟨trivial, callsIn_wide.2 ((may_any f A c _ (Kd.C_below HR.out HB.out)).mono ?_)⟩
    rintro e W1 ⟨rfl, hb⟩
    rw [HM.out]
    have B2 := Aside0.mk (blk_below B0.out hb)
    have B3 := Aside0.mk (blk_below B1.out hb)
    have HB1 := Aside0.mk (below_then HB.out HB.out.size hb)
    clear hb HB B0 B1
    obtain ⟨ad, A0, ca, e1, hx, hc, hp⟩ := at_r (Kd.C_below HR.out HB1.out) 0 hlen.1
    subst e1
    rw [show ad.add 0 = ad from rfl] at hx
    obtain ⟨ad1, e2, p0, p1⟩ := at_p hp 0 hlen.2
    subst e2
    rw [show ad1.add (0 * 2) = ad1 from rfl] at p0 p1
    clear hp
    have HV := Aside0.mk (show boxV f = boxL (rdP (rdR f.rings 0) 0) f.rings.flatten by unfold boxV; rw [if_pos HM.out])
    generalize rdP (rdR f.rings 0) 0 = p at *
    generalize rdR f.rings 0 = ps at *
    have f2 : W1.cell? ⟨w.heap.size, 2, none⟩ = some (.slice (some ad) f.rings.length c) := (blk_cell B2.out 2).trans rfl
    have hl0 := hlen.1
    have hl1 := hlen.2
    clear hlen
    gi_wp2
    refine wpIn_wide.2 (noPanic ?_)
    refine be_ 15 [14] (W := W1) rfl (by kernel_rfl) (fun hHeld => ?_)
    generalize W1.drew = wd at hHeld ⊢
    refine pu_ 0 10 rfl rfl (by kernel_rfl) (fun _ _ _ h => h) (by rfl) (fun w' => by go_simp; all_goals with_reducible rfl) (by simp only [Act.put, List.setIfInBounds_toArray, List.set_cons_zero, List.set_cons_succ]; rfl) ?_
    refine tk_ 1 11 hHeld rfl rfl (by kernel_rfl) (fun _ _ _ h => h) (by rfl) (fun w' hS' => by
      have g2 := pw_cell_below hS' f2
      go_simp
      all_goals with_reducible rfl) (by simp only [Act.put, List.setIfInBounds_toArray, List.set_cons_zero, List.set_cons_succ]; rfl) ?_
    refine pu_ 2 12 rfl rfl (by kernel_rfl) (fun _ _ _ h => h) (by rfl) (fun w' => by go_simp; all_goals with_reducible rfl) (by simp only [Act.put, List.setIfInBounds_toArray, List.set_cons_zero, List.set_cons_succ]; rfl) ?_
    refine tk_ 3 13 hHeld rfl rfl (by kernel_rfl) (fun _ _ _ h => h) (by rfl) (fun w' hS' => by
      have gx := pw_cell_below hS' hx
      go_simp
      all_goals with_reducible rfl) (by simp only [Act.put, List.setIfInBounds_toArray, List.set_cons_zero, List.set_cons_succ]; rfl) ?_
    refine pu_ 4 14 rfl rfl (by kernel_rfl) (fun _ _ _ h => h) (by rfl) (fun w' => by go_simp; all_goals with_reducible rfl) (by simp only [Act.put, List.setIfInBounds_toArray, List.set_cons_zero, List.set_cons_succ]; rfl) ?_
    refine tk_ 5 15 hHeld rfl rfl (by kernel_rfl) (fun _ _ _ h => h) (by rfl) (fun w' hS' => by
      have g0 := pw_cell_below hS' p0
      have g1 := pw_cell_below hS' p1
      go_simp
      all_goals with_reducible rfl) (by simp only [Act.put, List.setIfInBounds_toArray, List.set_cons_zero, List.set_cons_succ]; rfl) ?_
    refine pu_ 6 16 rfl rfl (by kernel_rfl) (fun _ _ _ h => h) (by rfl) (fun w' => by go_simp; all_goals with_reducible rfl) (by simp only [Act.put, List.setIfInBounds_toArray, List.set_cons_zero, List.set_cons_succ]; rfl) ?_
    refine tk_ 7 17 hHeld rfl rfl (by kernel_rfl) (fun _ _ _ h => h) (by rfl) (fun w' hS' => by
      have g2 := pw_cell_below hS' f2
      go_simp
      all_goals with_reducible rfl) (by simp only [Act.put, List.setIfInBounds_toArray, List.set_cons_zero, List.set_cons_succ]; rfl) ?_
    refine pu_ 8 18 rfl rfl (by kernel_rfl) (fun _ _ _ h => h) (by rfl) (fun w' => by go_simp; all_goals with_reducible rfl) (by simp only [Act.put, List.setIfInBounds_toArray, List.set_cons_zero, List.set_cons_succ]; rfl) ?_
    refine tk_ 9 19 hHeld rfl rfl (by kernel_rfl) (fun _ _ _ h => h) (by rfl) (fun w' hS' => by
      have gx := pw_cell_below hS' hx
      go_simp
      all_goals with_reducible rfl) (by simp only [Act.put, List.setIfInBounds_toArray, List.set_cons_zero, List.set_cons_succ]; rfl) ?_
    refine pu_ 10 20 rfl rfl (by kernel_rfl) (fun _ _ _ h => h) (by rfl) (fun w' => by go_simp; all_goals with_reducible rfl) (by simp only [Act.put, List.setIfInBounds_toArray, List.set_cons_zero, List.set_cons_succ]; rfl) ?_
    refine tk_ 11 21 hHeld rfl rfl (by kernel_rfl) (fun _ _ _ h => h) (by rfl) (fun w' hS' => by
      have g0 := pw_cell_below hS' p0
      have g1 := pw_cell_below hS' p1
      go_simp
      all_goals with_reducible rfl) (by simp only [Act.put, List.setIfInBounds_toArray, List.set_cons_zero, List.set_cons_succ]; rfl) ?_
    refine join_ (σ := Nat) 1 #[true, true, true, true, true, true, true, true, true, true, true, true, true, true, false] (fun s_ => [(22, .agg #[.int .i64 p.f0, .int .i64 p.f1, .int .i64 p.f0, .int .i64 p.f1]), (4, .pointer (some ⟨s_, 0, none⟩))]) (fun s_ w' => Below W1.heap.size W1 w' ∧ W1.heap.size ≤ s_ ∧ w'.heap[s_]? = some (.cells #[.int .i64 0, .int .i64 0, .int .i64 0, .int .i64 0] 30 (0, 0))) ?_ ?_
    rotate_left
    · intro hCont
      refine two_ (i := 12) (j := 13) (Ni := some 22) (Nj := some 4) #[true, true, true, true, true, true, true, true, true, true, true, true, true, false, false] #[true, true, true, true, true, true, true, true, true, true, true, true, false, true, false] rfl rfl rfl rfl (by kernel_rfl) (by decide) (by decide) (fun K hK => ?_) (fun K hK => ?_)
      · refine goes_ Try.func42 (by kernel_rfl) rfl #[.agg #[.int .i64 p.f0, .int .i64 p.f1], .agg #[.int .i64 p.f0, .int .i64 p.f1]] (by rfl) rfl rfl (by first | rfl | (simp only [List.map_toArray, List.map_cons, List.map_nil]; rfl)) ?_
        refine (between_pt p.f0 p.f1 _).mono ?_
        rintro e w4 ⟨rfl, hb4⟩
        refine ⟨_, rfl, ?_⟩
        refine hK.out _ _ (below_then hHeld hHeld.size hb4) (fun hHeld => ?_)
        clear hK K
        refine norm_ (a' := ?_) ?_ ?_
        rotate_left
        · show Act.put _ (some 22) _ = _
          simp only [Act.put, List.setIfInBounds_toArray, List.set_cons_zero, List.set_cons_succ]
          rfl
        refine one_ (i := 13) (N := some 4) #[true, true, true, true, true, true, true, true, true, true, true, true, true, true, false] rfl rfl (by kernel_rfl) (by decide) (fun K hK => ?_)
        refine value_ (w1 := World.alloc w4 (.cells #[.int .i64 0, .int .i64 0, .int .i64 0, .int .i64 0] 30)) (v := .pointer (some ⟨(w4).heap.size, 0, none⟩)) (by rfl) rfl (by first | (go_simp; done) | (go_simp; rfl)) ?_
        have hlit := blk_new w4 (.cells #[.int .i64 0, .int .i64 0, .int .i64 0, .int .i64 0] 30)
        have hle := hHeld.size
        refine hK.out _ _ (below_alloc hHeld _) (fun hHeld => ?_)
        clear hK K
        exact norm_ (by simp only [putAll, Act.put, List.setIfInBounds_toArray, List.set_cons_zero, List.set_cons_succ]; try rfl) (hCont _ _ ⟨hHeld, hle, hlit⟩)
      · refine value_ (w1 := World.alloc wd (.cells #[.int .i64 0, .int .i64 0, .int .i64 0, .int .i64 0] 30)) (v := .pointer (some ⟨(wd).heap.size, 0, none⟩)) (by rfl) rfl (by first | (go_simp; done) | (go_simp; rfl)) ?_
        have hlit := blk_new wd (.cells #[.int .i64 0, .int .i64 0, .int .i64 0, .int .i64 0] 30)
        have hle : W1.heap.size ≤ wd.heap.size := hHeld.size
        refine hK.out _ _ (below_alloc hHeld _) (fun hHeld => ?_)
        clear hK K
        refine norm_ (a' := ?_) ?_ ?_
        rotate_left
        · show Act.put _ (some 4) _ = _
          simp only [Act.put, List.setIfInBounds_toArray, List.set_cons_zero, List.set_cons_succ]
          rfl
        refine one_ (i := 12) (N := some 22) #[true, true, true, true, true, true, true, true, true, true, true, true, true, true, false] rfl rfl (by kernel_rfl) (by decide) (fun K hK => ?_)
        refine goes_ Try.func42 (by kernel_rfl) rfl #[.agg #[.int .i64 p.f0, .int .i64 p.f1], .agg #[.int .i64 p.f0, .int .i64 p.f1]] (by rfl) rfl rfl (by first | rfl | (simp only [List.map_toArray, List.map_cons, List.map_nil]; rfl)) ?_
        refine (between_pt p.f0 p.f1 _).mono ?_
        rintro e w4 ⟨rfl, hb4⟩
        refine ⟨_, rfl, ?_⟩
        replace hlit := blk_below hlit hb4
        refine hK.out _ _ (below_then hHeld hHeld.size hb4) (fun hHeld => ?_)
        clear hK K
        exact norm_ (by simp only [putAll, Act.put, List.setIfInBounds_toArray, List.set_cons_zero, List.set_cons_succ]; try rfl) (hCont _ _ ⟨hHeld, hle, hlit⟩)
    rintro s4 w4 ⟨hHeld, hLe, hLit⟩
    refine norm_ (a' := ?_) ?_ ?_
    rotate_left
    · simp only [putAll, Act.put, List.setIfInBounds_toArray, List.set_cons_zero, List.set_cons_succ]
      rfl
    refine last_ (i := 14) (N := none) #[true, true, true, true, true, true, true, true, true, true, true, true, true, true, true] rfl rfl (by kernel_rfl) (by decide) (fun K hK => ?_)
    have s0 := (blk_cell hLit 0).trans rfl
    have s1 := (blk_cell hLit 1).trans rfl
    have s2 := (blk_cell hLit 2).trans rfl
    have s3 := (blk_cell hLit 3).trans rfl
    have sf := blk_frozen hLit
    have sl := blk_lt hLit
    refine skip_ (w1 := set4 w4 s4 (atB p)) (by rfl) rfl ?_ ?_
    · unfold set4 atB
      go_simp
    refine hK.out _ _ ?_
    clear hK K s0 s1 s2 s3 sf sl
    refine done_ (by kernel_rfl) ?_
    have hob := set4_blk (b0 := zB) hLit (atB p)
    have hrs : w.heap.size + 1 < W1.heap.size := blk_lt B3.out
    have hrb := set4_far (blk_below B3.out hHeld) (g := s4) (by omega) (atB p)
    have hw1 := set4_below hHeld hLe (atB p)
    have hs4 : s4 < (set4 w4 s4 (atB p)).heap.size := blk_lt hob
    have hs4le := hLe
    clear hHeld hLit hLe hx hc p0 p1 f2 hl0 hl1
    generalize set4 w4 s4 (atB p) = W2 at *
    gi_wp2
    refine ⟨trivial, callsIn_wide.2 ((points_any w.heap.size _).mono ?_)⟩
    rintro e w' ⟨rfl, rfl⟩
    gi_wp2
    have hft : Feat W1 w.heap.size f (some ad) c := ⟨(blk_cell B2.out 0).trans rfl, (blk_cell B2.out 1).trans rfl, (blk_cell B2.out 2).trans rfl, Kd.C_below HR.out HB1.out⟩
    have hkb : KB W1 W2.heap.size w.heap.size (W2.alloc (.cells #[.pointer (some ⟨w.heap.size, 0, none⟩)] 60)) := ⟨below_alloc hw1 _, (blk_cell (blk_new W2 _) 0).trans rfl⟩
    have hob0 := blk_alloc hob (.cells #[.pointer (some ⟨w.heap.size, 0, none⟩)] 60)
    have hrb0 := blk_alloc hrb (.cells #[.pointer (some ⟨w.heap.size, 0, none⟩)] 60)
    have hsz : (W2.alloc (.cells #[.pointer (some ⟨w.heap.size, 0, none⟩)] 60)).heap.size = W2.heap.size + 1 := by simp
    clear hob hrb
    generalize W2.alloc (.cells #[.pointer (some ⟨w.heap.size, 0, none⟩)] 60) = W0 at *
    generalize W2.heap.size = Bs at *
    have hle1 := HB1.out.size
    have hle2 := hkb.1.size
    have hW0 : Below w.heap.size w W0 := below_then HB1.out HB1.out.size hkb.1
    refine wpIn_rangeFunc_ownH (F := Fence.wide) rfl (by decide) (gf := 57) (lb := #[.pointer (some ⟨Bs, 0, none⟩)]) rfl trivial (enters_of Try.func57 (by kernel_rfl) rfl)
      (points_stops Fence.wide 5 trivial rfl (by decide) Bs w.heap.size f (some ad) c W1 W0 hft hkb) Kp0.trans (fun W l o o' hl ho _ _ => kp0_put hkb.1.size (by omega) hl ho) (Below.refl _ _) (fun _ => rfl)
      (BoxI w p (w.heap.size + 1) s4 (Bs + 1)) (fun _ _ _ => False) (boxI_own w p _ _ _ W0 hW0.size) (fun _ => ownFrom_pure _ (fun _ => False))
      ⟨hrb0, hob0, hW0, by omega⟩
      (fun x a' W => ∃ Bp, s4 < Bp ∧ W.heap[Bp]? = some (.cells #[.int .i64 x.f0, .int .i64 x.f1] 23 (0, 0)) ∧
        a' = { tmps := #[.agg #[.int .i64 f.id, .int .i64 f.shape, .slice (some ad) f.rings.length c], .pointer (some ⟨w.heap.size, 0, none⟩), .pointer (some ⟨w.heap.size + 1, 0, none⟩), .int .i64 0, .pointer (some ⟨s4, 0, none⟩), .pointer (some ⟨Bp, 0, none⟩),
          .agg #[.int .i64 f.id, .int .i64 f.shape, .slice (some ad) f.rings.length c], .bool true, .bool false, undef, .pointer (some ⟨w.heap.size, 2, none⟩), .slice (some ad) f.rings.length c, .pointer (some ad), .slice (some ad1) ps.length ca, .pointer (some ad1), .agg #[.int .i64 p.f0, .int .i64 p.f1],
          .pointer (some ⟨w.heap.size, 2, none⟩), .slice (some ad) f.rings.length c, .pointer (some ad), .slice (some ad1) ps.length ca, .pointer (some ad1), .agg #[.int .i64 p.f0, .int .i64 p.f1], .agg #[.int .i64 p.f0, .int .i64 p.f1, .int .i64 p.f0, .int .i64 p.f1], .func (.func 57) #[] #[.pointer (some ⟨Bs, 0, none⟩)],
          .agg #[.int .i64 x.f0, .int .i64 x.f1], undef, undef, undef, undef, undef, undef, undef, undef, undef], defers := [] })
      (fun x a' _ X Y row hs hg hr => by
        obtain ⟨Bp, h1, h3, h5⟩ := hs
        exact ⟨Bp, h1, rowOwn' Bp 23 (fun (_ : Unit) => #[.int .i64 x.f0, .int .i64 x.f1]) () X Y row h3 hg (fun r e => (hr r e).2), h5⟩)
      ?assign ?body ?done ?stop
    case stop => rintro D c' pre W hD hSp h; exact h.elim
    case assign =>
      rintro l pre x W K ⟨i0, i1, i2, i3⟩ hK
      unfold ptEnc
      gi_wp2
      exact hK _ _ ((KeepsOthers.alloc _ _).from _) (kp0_alloc (by omega) _)
        ⟨blk_alloc i0 _, blk_alloc i1 _, below_alloc i2 _, by simp; omega⟩
        ⟨W.heap.size, by omega, blk_new W _, rfl⟩
    case body =>
      rintro l pre q a' W hl ⟨r, hr⟩ ⟨i0, i1, i2, i3⟩ ⟨Bp, hBp, hQ, rfl⟩ hlen
      have HOb := Aside0.mk i1
      have HRb := Aside0.mk i0
      have HBw := Aside0.mk i2
      have HAd := Aside0.mk (boxW_add p pre q)
      have hWs := i2.size
      generalize boxW p pre = b at *
      have o0 : W.cell? ⟨s4, 0, none⟩ = some (.int .i64 b.x0) := (blk_cell i1 0).trans rfl
      have o1 : W.cell? ⟨s4, 1, none⟩ = some (.int .i64 b.y0) := (blk_cell i1 1).trans rfl
      have o2 : W.cell? ⟨s4, 2, none⟩ = some (.int .i64 b.x1) := (blk_cell i1 2).trans rfl
      have o3 : W.cell? ⟨s4, 3, none⟩ = some (.int .i64 b.y1) := (blk_cell i1 3).trans rfl
      have q0 : W.cell? ⟨Bp, 0, none⟩ = some (.int .i64 q.f0) := (blk_cell hQ 0).trans rfl
      have q1 : W.cell? ⟨Bp, 1, none⟩ = some (.int .i64 q.f1) := (blk_cell hQ 1).trans rfl
      have hLe : W1.heap.size ≤ s4 := hs4le
      clear i0 i1 i2 hQ hr hob0 hrb0 hft hkb
      gi_wp2
      refine startIn_ (m := 9) (S := fun w' => Below W.heap.size W w') (ds := [8]) (by kernel_rfl) #[false, false, false, false, false, false, false, false, false] (by kernel_rfl) rfl rfl (below_drew (Below.refl _ _)) (fun hHeld => ?_)
      refine tk_ 0 26 hHeld rfl rfl (by kernel_rfl) (fun _ _ _ h => h) (by rfl) (fun w' hS' => by
        have g0 := pw_cell_below hS' o0
        have g1 := pw_cell_below hS' o1
        have g2 := pw_cell_below hS' o2
        have g3 := pw_cell_below hS' o3
        go_simp
        all_goals with_reducible rfl) (by simp only [Act.put, List.setIfInBounds_toArray, List.set_cons_zero, List.set_cons_succ]; rfl) ?_
      refine tk_ 1 27 hHeld rfl rfl (by kernel_rfl) (fun _ _ _ h => h) (by rfl) (fun w' hS' => by
        have g0 := pw_cell_below hS' q0
        have g1 := pw_cell_below hS' q1
        go_simp
        all_goals with_reducible rfl) (by simp only [Act.put, List.setIfInBounds_toArray, List.set_cons_zero, List.set_cons_succ]; rfl) ?_
      refine tk_ 2 28 hHeld rfl rfl (by kernel_rfl) (fun _ _ _ h => h) (by rfl) (fun w' hS' => by
        have g0 := pw_cell_below hS' q0
        have g1 := pw_cell_below hS' q1
        go_simp
        all_goals with_reducible rfl) (by simp only [Act.put, List.setIfInBounds_toArray, List.set_cons_zero, List.set_cons_succ]; rfl) ?_
      refine cl_ 3 29 Try.func42 hHeld (between_pt q.f0 q.f1 _) rfl rfl (by kernel_rfl) (by decide) (by kernel_rfl) rfl (by rfl) rfl (by first | rfl | (simp only [List.map_toArray, List.map_cons, List.map_nil]; rfl)) (by simp only [Act.put, List.setIfInBounds_toArray, List.set_cons_zero, List.set_cons_succ]; rfl) (fun w4 hb4 hHeld => ?_)
      refine cl_ 4 30 Try.func43 hHeld (join_pt b q _) rfl rfl (by kernel_rfl) (by decide) (by kernel_rfl) rfl (by rfl) rfl (by first | rfl | (simp only [List.map_toArray, List.map_cons, List.map_nil]; rfl)) (by simp only [Act.put, List.setIfInBounds_toArray, List.set_cons_zero, List.set_cons_succ]; rfl) (fun w5 hb5 hHeld => ?_)
      refine pu_ 5 25 rfl rfl (by kernel_rfl) (fun _ _ _ h => h) (by rfl) (fun w' => by go_simp; all_goals with_reducible rfl) (by simp only [Act.put, List.setIfInBounds_toArray, List.set_cons_zero, List.set_cons_succ]; rfl) ?_
      refine pu_ 6 31 rfl rfl (by kernel_rfl) (fun _ _ _ h => h) (by rfl) (fun w' => by go_simp; all_goals with_reducible rfl) (by simp only [Act.put, List.setIfInBounds_toArray, List.set_cons_zero, List.set_cons_succ]; rfl) ?_
      refine pu_ 7 32 rfl rfl (by kernel_rfl) (fun _ _ _ h => h) (by rfl) (fun w' => by go_simp; all_goals with_reducible rfl) (by simp only [Act.put, List.setIfInBounds_toArray, List.set_cons_zero, List.set_cons_succ]; rfl) ?_
      refine last_ (i := 8) (N := none) #[true, true, true, true, true, true, true, true, true] rfl rfl (by kernel_rfl) (by decide) (fun K hK => ?_)
      have hob := blk_below HOb.out hHeld
      have s0 : w5.cell? ⟨s4, 0, none⟩ = some (.int .i64 b.x0) := (blk_cell hob 0).trans rfl
      have s1 : w5.cell? ⟨s4, 1, none⟩ = some (.int .i64 b.y0) := (blk_cell hob 1).trans rfl
      have s2 : w5.cell? ⟨s4, 2, none⟩ = some (.int .i64 b.x1) := (blk_cell hob 2).trans rfl
      have s3 : w5.cell? ⟨s4, 3, none⟩ = some (.int .i64 b.y1) := (blk_cell hob 3).trans rfl
      have sf := blk_frozen hob
      have sl := blk_lt hob
      refine skip_ (w1 := set4 w5 s4 (joinV b q)) (by rfl) rfl ?_ ?_
      · unfold set4
        go_simp
      refine hK.out _ _ ?_
      clear hK K s0 s1 s2 s3 sf sl
      refine done_ (by kernel_rfl) ?_
      refine ⟨(keepsFrom_below hHeld).trans (set4_keeps _ _ _ _), (kp0_below (Bs := Bs) (fb := w.heap.size) (by omega) hHeld).trans (set4_kp hLe (by omega) _), ?_, ?_, ?_, ?_⟩
      · exact set4_far (blk_below HRb.out hHeld) (by omega) _
      · rw [HAd.out]; exact set4_blk hob _
      · exact set4_below (below_then HBw.out HBw.out.size hHeld) (by omega) _
      · rw [set4_size]; have := hHeld.size; omega
    case done =>
      rintro D ys W hD rfl ⟨i0, i1, i2, i3⟩ hK
      have HV2 := Aside0.mk (show boxV f = boxW p f.rings.flatten by rw [HV.out]; exact (boxW_is HP0.out HFl.out).symm)
      generalize boxW p f.rings.flatten = b at *
      have o0 : W.cell? ⟨s4, 0, none⟩ = some (.int .i64 b.x0) := (blk_cell i1 0).trans rfl
      have o1 : W.cell? ⟨s4, 1, none⟩ = some (.int .i64 b.y0) := (blk_cell i1 1).trans rfl
      have o2 : W.cell? ⟨s4, 2, none⟩ = some (.int .i64 b.x1) := (blk_cell i1 2).trans rfl
      have o3 : W.cell? ⟨s4, 3, none⟩ = some (.int .i64 b.y1) := (blk_cell i1 3).trans rfl
      have r0 : W.cell? ⟨w.heap.size + 1, 0, none⟩ = some (.int .i64 0) := (blk_cell i0 0).trans rfl
      have r1 : W.cell? ⟨w.heap.size + 1, 1, none⟩ = some (.int .i64 0) := (blk_cell i0 1).trans rfl
      have r2 : W.cell? ⟨w.heap.size + 1, 2, none⟩ = some (.int .i64 0) := (blk_cell i0 2).trans rfl
      have r3 : W.cell? ⟨w.heap.size + 1, 3, none⟩ = some (.int .i64 0) := (blk_cell i0 3).trans rfl
      have rf := blk_frozen i0
      have rl := blk_lt i0
      have HI0 := Aside0.mk i0
      have HI2 := Aside0.mk i2
      clear i0 i1 i2 hob0 hrb0 hft hkb
      gi_wp2
      show bodyPostM _ _ _ _ _ _ _ (set4 W (w.heap.size + 1) b)
      have hs := set4_blk (b0 := zB) HI0.out b
      have hK2 := (set4_ko W (w.heap.size + 1) b).same D _ hK rfl
      have hBz := set4_below HI2.out (g := w.heap.size + 1) (by omega) b
      clear o0 o1 o2 o3 r0 r1 r2 r3 rf rl
      generalize set4 W (w.heap.size + 1) b = W3 at *
      have c0 : (W3.putObj D (.deferred none)).cell? ⟨w.heap.size + 1, 0, none⟩ = some (.int .i64 b.x0) := (World.cell?_of_block (World.putObj_heap_other (by show w.heap.size + 1 ≠ D; omega))).trans ((blk_cell hs 0).trans rfl)
      have c1 : (W3.putObj D (.deferred none)).cell? ⟨w.heap.size + 1, 1, none⟩ = some (.int .i64 b.y0) := (World.cell?_of_block (World.putObj_heap_other (by show w.heap.size + 1 ≠ D; omega))).trans ((blk_cell hs 1).trans rfl)
      have c2 : (W3.putObj D (.deferred none)).cell? ⟨w.heap.size + 1, 2, none⟩ = some (.int .i64 b.x1) := (World.cell?_of_block (World.putObj_heap_other (by show w.heap.size + 1 ≠ D; omega))).trans ((blk_cell hs 2).trans rfl)
      have c3 : (W3.putObj D (.deferred none)).cell? ⟨w.heap.size + 1, 3, none⟩ = some (.int .i64 b.y1) := (World.cell?_of_block (World.putObj_heap_other (by show w.heap.size + 1 ≠ D; omega))).trans ((blk_cell hs 3).trans rfl)
      refine ⟨by simp, .inl ⟨_, _, rfl, run_takeDeferred hK2, ?_⟩⟩
      refine ⟨.tuple #[.agg #[.int .i64 b.x0, .int .i64 b.y0, .int .i64 b.x1, .int .i64 b.y1], .int .i64 0], by simp [c0, c1, c2, c3, results, Try.f17, go_sem], by rw [HV2.out]; rfl, hBz.trans ⟨rfl, rfl, rfl, by simp, fun k hk => World.putObj_heap_other (by omega)⟩⟩
end Go.Proofs.Ytmednnpmkhgfpaa.SH
end
