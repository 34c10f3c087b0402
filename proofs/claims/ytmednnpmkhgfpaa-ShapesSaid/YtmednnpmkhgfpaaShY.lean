/- What shape.Meets answers: has a feature a place of a box? -/
import Derived.Test.YtmednnpmkhgfpaaShMA
import Derived.Test.YtmednnpmkhgfpaaShT
namespace Go.Proofs.Ytmednnpmkhgfpaa.SH
open Go Go.RowKit Go.Shelf Go.Proofs.YtmednnpmkhgfpaaW.PrintWords Go.Proofs.YtmednnpmkhgfpaaW.PrintLast Go.Proofs.YtmednnpmkhgfpaaW.PrintMore Go.Proofs.Ytmednnpmkhgfpaa.PShapes Go.Proofs.Ytmednnpmkhgfpaa.Geo
open Go.Proofs.Ytmednnpmkhgfpaa.GW (boxMay_any within_any)
set_option linter.unusedVariables false
set_option linter.unusedSimpArgs false
attribute [local go_sem high] eqA23
attribute [local go_sem] Oper.semAt_some

/-- an answer and an error are laid -/
def set2 (W : World) (g h : Nat) (r : Bool) (e : Int) : World := (W.setCell ⟨g, 0, none⟩ (.bool r)).setCell ⟨h, 0, none⟩ (.int .i64 e)
theorem set2_r {W : World} {g h : Nat} {r0 : Bool} (hg : W.heap[g]? = some (.cells #[.bool r0] 4 (0, 0))) (hne : g ≠ h) (r : Bool) (e : Int) : (set2 W g h r e).heap[g]? = some (.cells #[.bool r] 4 (0, 0)) := blk_far (blk_put hg 0 _ rfl) hne _
theorem set2_e {W : World} {g h : Nat} {e0 : Int} (hh : W.heap[h]? = some (.cells #[.int .i64 e0] 32 (0, 0))) (r : Bool) (e : Int) (hne : h ≠ g := by omega) : (set2 W g h r e).heap[h]? = some (.cells #[.int .i64 e] 32 (0, 0)) := blk_put (blk_far hh hne _) 0 _ rfl
theorem set2_below {w W : World} {g h : Nat} (hb : Below w.heap.size w W) (hg : w.heap.size ≤ g) (hh : w.heap.size ≤ h) (r : Bool) (e : Int) : Below w.heap.size w (set2 W g h r e) := (hb.setCell (p := ⟨g, 0, none⟩) hg _).setCell (p := ⟨h, 0, none⟩) hh _
theorem set2_ko (W : World) (g h : Nat) (r : Bool) (e : Int) : KeepsOthers W (set2 W g h r e) := (KeepsOthers.setCell _ _ _).trans (KeepsOthers.setCell _ _ _)
theorem pc_corners {W : World} {g : Nat} {c0 c1 c2 c3 : S23} (h : W.heap[g]? = some (.cells #[.int .i64 c0.f0, .int .i64 c0.f1, .int .i64 c1.f0, .int .i64 c1.f1, .int .i64 c2.f0, .int .i64 c2.f1, .int .i64 c3.f0, .int .i64 c3.f1] 67 (0, 0))) : PC W (some ⟨g, 0, none⟩) [c0, c1, c2, c3] := by
  refine ⟨rfl, by show (4 : Nat) ≤ _; omega, fun _ => ⟨⟨g, 0, none⟩, rfl, fun j p hp => ⟨[.int .i64 p.f0, .int .i64 p.f1], rfl, k23_mk W p, fun i u hu => ?_⟩⟩⟩
  have hk : ∀ k v, #[Value.int .i64 c0.f0, .int .i64 c0.f1, .int .i64 c1.f0, .int .i64 c1.f1, .int .i64 c2.f0, .int .i64 c2.f1, .int .i64 c3.f0, .int .i64 c3.f1][k]? = some v → W.cell? ⟨g, k, none⟩ = some v := fun k v hv => (blk_cell h k).trans hv
  have hi : i = 0 ∨ i = 1 := by
    have := (List.getElem?_eq_some_iff.1 hu).1
    simp at this
    omega
  have hj : j = 0 ∨ j = 1 ∨ j = 2 ∨ j = 3 := by
    have := (List.getElem?_eq_some_iff.1 hp).1
    simp at this
    omega
  rcases hj with rfl | rfl | rfl | rfl <;> rcases hi with rfl | rfl <;> (cases hp; cases hu; exact hk _ _ rfl)
/-- between two rounds over the points -/
def PtI (V : World) (b : Bx) (n : Nat) (pre : List S23) (W : World) : Prop := Below V.heap.size V W ∧ pre.any (inB b) = false ∧ n ≤ W.heap.size
theorem ptI_own (V : World) (b : Bx) (n : Nat) (W0 : World) (h : V.heap.size ≤ W0.heap.size) : OwnFrom W0.heap.size (PtI V b n) := OwnFrom.and (ownFrom_below (Nat.le_refl _) h) (OwnFrom.and (ownFrom_pure _ _) (ownFrom_size _ _))
/-- between two rounds over the stretches -/
def StI (V : World) (b : Bx) (n : Nat) (pre : List St) (W : World) : Prop := Below V.heap.size V W ∧ (vals pre).any (sideB b) = false ∧ n ≤ W.heap.size
theorem stI_own (V : World) (b : Bx) (n : Nat) (W0 : World) (h : V.heap.size ≤ W0.heap.size) : OwnFrom W0.heap.size (StI V b n) := OwnFrom.and (ownFrom_below (Nat.le_refl _) h) (OwnFrom.and (ownFrom_pure _ _) (ownFrom_size _ _))
/-- a round has left: the answer is yes -/
def MtX {α : Type} (w : World) (P : List α → Bool) (c : Code) (pre : List α) (W : World) : Prop :=
  c = .ret ∧ P pre = true ∧ W.heap[w.heap.size + 1 + 1]? = some (.cells #[.bool true] 4 (0, 0)) ∧ W.heap[w.heap.size + 1 + 1 + 1]? = some (.cells #[.int .i64 0] 32 (0, 0)) ∧ Below w.heap.size w W
theorem mtX_own {α : Type} (w : World) (P : List α → Bool) (W0 : World) (h : w.heap.size ≤ W0.heap.size) (c : Code) : OwnFrom W0.heap.size (MtX w P c) :=
  OwnFrom.and (ownFrom_pure _ (fun _ => c = .ret)) (OwnFrom.and (ownFrom_pure _ _) (OwnFrom.and ((rowOwn _ _ (fun _ => #[.bool true])).from _) (OwnFrom.and ((rowOwn _ _ (fun _ => #[.int .i64 0])).from _) (ownFrom_below (Nat.le_refl _) h))))
theorem dOwn {β : Type} {B D : Nat} {o : Obj} (h : D < B) : OwnFrom B (fun (_ : β) W => W.heap[D]? = some o) := fun s X Y row hs hg hr =>
  (hg.block D (Array.getElem?_eq_some_iff.1 hs).1 (fun e => by have := (hr D e.symm).1; omega)).trans hs
theorem set2_any {W : World} {g h k : Nat} {o : Obj} (hk : W.heap[k]? = some o) (h1 : k ≠ g) (h2 : k ≠ h) (r : Bool) (e : Int) : (set2 W g h r e).heap[k]? = some o :=
  (Below.heap_setCell _ ⟨h, 0, none⟩ _ k h2).trans ((Below.heap_setCell W ⟨g, 0, none⟩ _ k h1).trans hk)
theorem below_puts {n : Nat} {w W : World} {E D : Nat} {o o' : Obj} (h : Below n w W) (hE : n ≤ E) (hD : n ≤ D) : Below n w ((W.putObj E o).putObj D o') :=
  have h1 : Below n W (W.putObj E o) := ⟨rfl, rfl, rfl, by simp, fun k hk => World.putObj_heap_other (show k ≠ E by omega)⟩
  have h2 : Below n (W.putObj E o) ((W.putObj E o).putObj D o') := ⟨rfl, rfl, rfl, by simp, fun k hk => World.putObj_heap_other (show k ≠ D by omega)⟩
  (h.trans h1).trans h2
set_option maxHeartbeats 8000000 in
set_option maxRecDepth 100000 in
theorem Meets_any (f : Ft) (A : Option Addr) (c : Nat) (b : Bx) (w : World) (h : RC w A f.rings) :
    Calls Try.prog 15 #[.agg #[.int .i64 f.id, .int .i64 f.shape, .slice A f.rings.length c], .agg #[.int .i64 b.x0, .int .i64 b.y0, .int .i64 b.x1, .int .i64 b.y1]] w fun e w' => e = .returned (.tuple #[.bool (meetsV f b), .int .i64 (okE (mayB f && bxMay b))]) ∧ Below w.heap.size w w' := by
  have HR := Aside0.mk h
  clear h
  have HE := Aside0.mk (show meetsV f b = (mayB f && bxMay b && meetsB f b) from rfl)
  have b0 := (blk_alloc (blk_alloc (blk_alloc (blk_new w (.cells #[.int .i64 f.id, .int .i64 f.shape, .slice A f.rings.length c] 27)) (.cells #[.int .i64 b.x0, .int .i64 b.y0, .int .i64 b.x1, .int .i64 b.y1] 30)) (.cells #[.bool false] 4)) (.cells #[.int .i64 0] 32))
  have b1 := (blk_alloc (blk_alloc (blk_new (w.alloc (.cells #[.int .i64 f.id, .int .i64 f.shape, .slice A f.rings.length c] 27)) (.cells #[.int .i64 b.x0, .int .i64 b.y0, .int .i64 b.x1, .int .i64 b.y1] 30)) (.cells #[.bool false] 4)) (.cells #[.int .i64 0] 32))
  have b2 := (blk_alloc (blk_new ((w.alloc (.cells #[.int .i64 f.id, .int .i64 f.shape, .slice A f.rings.length c] 27)).alloc (.cells #[.int .i64 b.x0, .int .i64 b.y0, .int .i64 b.x1, .int .i64 b.y1] 30)) (.cells #[.bool false] 4)) (.cells #[.int .i64 0] 32))
  have b3 := (blk_new (((w.alloc (.cells #[.int .i64 f.id, .int .i64 f.shape, .slice A f.rings.length c] 27)).alloc (.cells #[.int .i64 b.x0, .int .i64 b.y0, .int .i64 b.x1, .int .i64 b.y1] 30)).alloc (.cells #[.bool false] 4)) (.cells #[.int .i64 0] 32))
  simp only [World.size_alloc] at b1 b2 b3
  have hB := (below_alloc (below_alloc (below_alloc (below_alloc (Below.refl w.heap.size w) (.cells #[.int .i64 f.id, .int .i64 f.shape, .slice A f.rings.length c] 27)) (.cells #[.int .i64 b.x0, .int .i64 b.y0, .int .i64 b.x1, .int .i64 b.y1] 30)) (.cells #[.bool false] 4)) (.cells #[.int .i64 0] 32))
  cases hm : mayB f
  · have HBf : Aside0 True := ⟨trivial⟩
    have HMf := Aside0.mk hm
    clear hm
    go_enter Try.func15, Try.ntmps15
    go_upto_region 1 with (fail)
    obtain ⟨W, hW⟩ : ∃ W, (((w.alloc (.cells #[.int .i64 f.id, .int .i64 f.shape, .slice A f.rings.length c] 27)).alloc (.cells #[.int .i64 b.x0, .int .i64 b.y0, .int .i64 b.x1, .int .i64 b.y1] 30)).alloc (.cells #[.bool false] 4)).alloc (.cells #[.int .i64 0] 32) = W := ⟨_, rfl⟩
    rw [hW] at b0 b1 b2 b3 hB ⊢
    clear hW
    have f0 : W.cell? ⟨w.heap.size, 0, none⟩ = some (.int .i64 f.id) := (blk_cell b0 0).trans rfl
    have f1 : W.cell? ⟨w.heap.size, 1, none⟩ = some (.int .i64 f.shape) := (blk_cell b0 1).trans rfl
    have f2 : W.cell? ⟨w.heap.size, 2, none⟩ = some (.slice A f.rings.length c) := (blk_cell b0 2).trans rfl
    have HB := Aside0.mk hB
    have B2 := Aside0.mk b2
    have B3 := Aside0.mk b3
    clear hB b0 b1 b2 b3
    go_wp2_with fail
    refine (may_any f A c W (Kd.C_below HR.out HB.out)).mono ?_
    rintro e W1 ⟨rfl, hb⟩
    rw [HMf.out]
    have h2 := blk_below B2.out hb
    have h3 := blk_below B3.out hb
    have HB1 := Aside0.mk (below_then HB.out HB.out.size hb)
    clear hb f0 f1 f2
    have r2 : W1.cell? ⟨w.heap.size + 1 + 1, 0, none⟩ = some (.bool false) := (blk_cell h2 0).trans rfl
    have r3 : W1.cell? ⟨w.heap.size + 1 + 1 + 1, 0, none⟩ = some (.int .i64 0) := (blk_cell h3 0).trans rfl
    have rf2 := blk_frozen h2 0
    have rf3 := blk_frozen h3 0
    have rl2 := blk_lt h2
    have rl3 := blk_lt h3
    have H2 := Aside0.mk h2
    have H3 := Aside0.mk h3
    clear h2 h3
    go_wp2_with fail
    show bodyPost _ _ _ _ _ (set2 W1 (w.heap.size + 1 + 1) (w.heap.size + 1 + 1 + 1) false 400)
    have s2 := set2_r (h := w.heap.size + 1 + 1 + 1) H2.out (by omega) false 400
    have s3 := set2_e (g := w.heap.size + 1 + 1) H3.out false 400
    have hz := set2_below HB1.out (g := w.heap.size + 1 + 1) (h := w.heap.size + 1 + 1 + 1) (by omega) (by omega) false 400
    clear r2 r3 rf2 rf3 rl2 rl3
    generalize set2 W1 (w.heap.size + 1 + 1) (w.heap.size + 1 + 1 + 1) false 400 = W9 at *
    have r2 : W9.cell? ⟨w.heap.size + 1 + 1, 0, none⟩ = some (.bool false) := (blk_cell s2 0).trans rfl
    have r3 : W9.cell? ⟨w.heap.size + 1 + 1 + 1, 0, none⟩ = some (.int .i64 400) := (blk_cell s3 0).trans rfl
    refine bodyPost_ret (v := .tuple #[.bool false, .int .i64 400]) (by simp [r2, r3, results, Try.f15, go_sem]) rfl ⟨by rw [HE.out, HMf.out]; first | rfl | (rw [HBf.out]; rfl), hz⟩
  · cases hbm : bxMay b
    · have HMf := Aside0.mk hm
      have HBf := Aside0.mk hbm
      clear hm hbm
      go_enter Try.func15, Try.ntmps15
      go_upto_region 1 with (fail)
      obtain ⟨W, hW⟩ : ∃ W, (((w.alloc (.cells #[.int .i64 f.id, .int .i64 f.shape, .slice A f.rings.length c] 27)).alloc (.cells #[.int .i64 b.x0, .int .i64 b.y0, .int .i64 b.x1, .int .i64 b.y1] 30)).alloc (.cells #[.bool false] 4)).alloc (.cells #[.int .i64 0] 32) = W := ⟨_, rfl⟩
      rw [hW] at b0 b1 b2 b3 hB ⊢
      clear hW
      have f0 : W.cell? ⟨w.heap.size, 0, none⟩ = some (.int .i64 f.id) := (blk_cell b0 0).trans rfl
      have f1 : W.cell? ⟨w.heap.size, 1, none⟩ = some (.int .i64 f.shape) := (blk_cell b0 1).trans rfl
      have f2 : W.cell? ⟨w.heap.size, 2, none⟩ = some (.slice A f.rings.length c) := (blk_cell b0 2).trans rfl
      have HB := Aside0.mk hB
      have B1 := Aside0.mk b1
      have B2 := Aside0.mk b2
      have B3 := Aside0.mk b3
      clear hB b0 b1 b2 b3
      go_wp2_with fail
      refine (may_any f A c W (Kd.C_below HR.out HB.out)).mono ?_
      rintro e W1 ⟨rfl, hb⟩
      rw [HMf.out]
      have h1 := blk_below B1.out hb
      have H2 := Aside0.mk (blk_below B2.out hb)
      have H3 := Aside0.mk (blk_below B3.out hb)
      have HB1 := Aside0.mk (below_then HB.out HB.out.size hb)
      clear hb f0 f1 f2
      have q0 : W1.cell? ⟨w.heap.size + 1, 0, none⟩ = some (.int .i64 b.x0) := (blk_cell h1 0).trans rfl
      have q1 : W1.cell? ⟨w.heap.size + 1, 1, none⟩ = some (.int .i64 b.y0) := (blk_cell h1 1).trans rfl
      have q2 : W1.cell? ⟨w.heap.size + 1, 2, none⟩ = some (.int .i64 b.x1) := (blk_cell h1 2).trans rfl
      have q3 : W1.cell? ⟨w.heap.size + 1, 3, none⟩ = some (.int .i64 b.y1) := (blk_cell h1 3).trans rfl
      clear h1
      go_wp2_with fail
      refine (boxMay_any b.x0 b.y0 b.x1 b.y1 W1).mono ?_
      rintro e W2 ⟨rfl, hb⟩
      rw [show boxB b.x0 b.y0 b.x1 b.y1 = false from HBf.out]
      have h2 := blk_below H2.out hb
      have h3 := blk_below H3.out hb
      have HB2 := Aside0.mk (below_then HB1.out HB1.out.size hb)
      clear hb q0 q1 q2 q3
      have r2 : W2.cell? ⟨w.heap.size + 1 + 1, 0, none⟩ = some (.bool false) := (blk_cell h2 0).trans rfl
      have r3 : W2.cell? ⟨w.heap.size + 1 + 1 + 1, 0, none⟩ = some (.int .i64 0) := (blk_cell h3 0).trans rfl
      have rf2 := blk_frozen h2 0
      have rf3 := blk_frozen h3 0
      have rl2 := blk_lt h2
      have rl3 := blk_lt h3
      have J2 := Aside0.mk h2
      have J3 := Aside0.mk h3
      clear h2 h3
      go_wp2_with fail
      show bodyPost _ _ _ _ _ (set2 W2 (w.heap.size + 1 + 1) (w.heap.size + 1 + 1 + 1) false 400)
      have s2 := set2_r (h := w.heap.size + 1 + 1 + 1) J2.out (by omega) false 400
      have s3 := set2_e (g := w.heap.size + 1 + 1) J3.out false 400
      have hz := set2_below HB2.out (g := w.heap.size + 1 + 1) (h := w.heap.size + 1 + 1 + 1) (by omega) (by omega) false 400
      clear r2 r3 rf2 rf3 rl2 rl3
      generalize set2 W2 (w.heap.size + 1 + 1) (w.heap.size + 1 + 1 + 1) false 400 = W9 at *
      have r2 : W9.cell? ⟨w.heap.size + 1 + 1, 0, none⟩ = some (.bool false) := (blk_cell s2 0).trans rfl
      have r3 : W9.cell? ⟨w.heap.size + 1 + 1 + 1, 0, none⟩ = some (.int .i64 400) := (blk_cell s3 0).trans rfl
      refine bodyPost_ret (v := .tuple #[.bool false, .int .i64 400]) (by simp [r2, r3, results, Try.f15, go_sem]) rfl ⟨by rw [HE.out, HMf.out]; first | rfl | (rw [HBf.out]; rfl), hz⟩
    · have HMf := Aside0.mk hm
      have HBf := Aside0.mk hbm
      clear hm hbm
      have HB := Aside0.mk hB
      have B0 := Aside0.mk b0
      have B1 := Aside0.mk b1
      have B2 := Aside0.mk b2
      have B3 := Aside0.mk b3
      clear hB b0 b1 b2 b3
      refine (callsIn_wide (n := 6)).1 ?_
      refine callsIn_of_wp_marks Try.func15 rfl trivial ?_ rfl
      simp only [Try.ntmps15, List.size_toArray, List.length_cons, List.length_nil, Nat.reduceAdd, Nat.reduceSub, Array.replicate_succ, Array.replicate_zero, List.push_toArray, List.append_toArray, List.nil_append, List.cons_append]
      gi_wp2
      refine ⟨trivial, callsIn_wide.2 ((may_any f A c _ (Kd.C_below HR.out HB.out)).mono ?_)⟩
      rintro e W1 ⟨rfl, hb⟩
      rw [HMf.out]
      have C0 := Aside0.mk (blk_below B0.out hb)
      have C1 := Aside0.mk (blk_below B1.out hb)
      have C2 := Aside0.mk (blk_below B2.out hb)
      have C3 := Aside0.mk (blk_below B3.out hb)
      have HB1 := Aside0.mk (below_then HB.out HB.out.size hb)
      clear hb HB B0 B1 B2 B3
      have q0 : W1.cell? ⟨w.heap.size + 1, 0, none⟩ = some (.int .i64 b.x0) := (blk_cell C1.out 0).trans rfl
      have q1 : W1.cell? ⟨w.heap.size + 1, 1, none⟩ = some (.int .i64 b.y0) := (blk_cell C1.out 1).trans rfl
      have q2 : W1.cell? ⟨w.heap.size + 1, 2, none⟩ = some (.int .i64 b.x1) := (blk_cell C1.out 2).trans rfl
      have q3 : W1.cell? ⟨w.heap.size + 1, 3, none⟩ = some (.int .i64 b.y1) := (blk_cell C1.out 3).trans rfl
      gi_wp2
      refine ⟨trivial, callsIn_wide.2 ((boxMay_any b.x0 b.y0 b.x1 b.y1 W1).mono ?_)⟩
      rintro e V ⟨rfl, hb⟩
      rw [show boxB b.x0 b.y0 b.x1 b.y1 = true from HBf.out]
      have D0 := Aside0.mk (blk_below C0.out hb)
      have D1 := Aside0.mk (blk_below C1.out hb)
      have D2 := Aside0.mk (blk_below C2.out hb)
      have D3 := Aside0.mk (blk_below C3.out hb)
      have HV := Aside0.mk (below_then HB1.out HB1.out.size hb)
      clear hb HB1 C0 C1 C2 C3 q0 q1 q2 q3
      gi_wp2
      refine ⟨trivial, callsIn_wide.2 ((points_any w.heap.size _).mono ?_)⟩
      rintro e w' ⟨rfl, rfl⟩
      gi_wp2
      have hV3 := blk_lt D3.out
      have hft : Feat V w.heap.size f A c := ⟨(blk_cell D0.out 0).trans rfl, (blk_cell D0.out 1).trans rfl, (blk_cell D0.out 2).trans rfl, Kd.C_below HR.out HV.out⟩
      have HFt := Aside0.mk hft
      have hkb : KB V V.heap.size w.heap.size (V.alloc (.cells #[.pointer (some ⟨w.heap.size, 0, none⟩)] 60)) := ⟨below_alloc (Below.refl _ _) _, (blk_cell (blk_new V _) 0).trans rfl⟩
      have hsz : (V.alloc (.cells #[.pointer (some ⟨w.heap.size, 0, none⟩)] 60)).heap.size = V.heap.size + 1 := by simp
      generalize V.alloc (.cells #[.pointer (some ⟨w.heap.size, 0, none⟩)] 60) = W0 at *
      have hle := HV.out.size
      refine wpIn_rangeFunc_ownH (F := Fence.wide) rfl (by decide) (gf := 57) (lb := #[.pointer (some ⟨V.heap.size, 0, none⟩)]) rfl trivial (enters_of Try.func57 (by kernel_rfl) rfl)
        (points_stops Fence.wide 5 trivial rfl (by decide) V.heap.size w.heap.size f A c V W0 hft hkb) Kp0.trans (fun W l o o' hl ho _ _ => kp0_put hkb.1.size (by omega) hl ho) (Below.refl _ _) (fun _ => rfl)
        (PtI V b (V.heap.size + 1)) (MtX w (fun pre => pre.any (inB b))) (ptI_own V b _ W0 hkb.1.size) (fun c => mtX_own w _ W0 (by omega) c)
        ⟨hkb.1, rfl, by omega⟩
        (fun x a' W => ∃ Bp, V.heap.size < Bp ∧ W.heap[Bp]? = some (.cells #[.int .i64 x.f0, .int .i64 x.f1] 23 (0, 0)) ∧
          a' = { tmps := #[.agg #[.int .i64 f.id, .int .i64 f.shape, .slice A f.rings.length c], .agg #[.int .i64 b.x0, .int .i64 b.y0, .int .i64 b.x1, .int .i64 b.y1], .pointer (some ⟨w.heap.size, 0, none⟩), .pointer (some ⟨w.heap.size + 1, 0, none⟩), .pointer (some ⟨w.heap.size + 1 + 1, 0, none⟩), .pointer (some ⟨w.heap.size + 1 + 1 + 1, 0, none⟩),
            .pointer (some ⟨Bp, 0, none⟩), undef, undef, undef, undef, .agg #[.int .i64 f.id, .int .i64 f.shape, .slice A f.rings.length c], .bool true, .bool false, .bool false, .agg #[.int .i64 b.x0, .int .i64 b.y0, .int .i64 b.x1, .int .i64 b.y1], .bool true, .bool false, .bool false, .func (.func 57) #[] #[.pointer (some ⟨V.heap.size, 0, none⟩)],
            .agg #[.int .i64 x.f0, .int .i64 x.f1], undef, undef, undef, undef, undef, undef, undef, undef, undef, undef, undef, undef, undef, undef, undef, undef, undef, undef, undef, undef, undef], defers := [] })
        (fun x a' _ X Y row hs hg hr => by
          obtain ⟨Bp, h1, h3, h5⟩ := hs
          exact ⟨Bp, h1, rowOwn Bp 23 (fun (_ : Unit) => #[.int .i64 x.f0, .int .i64 x.f1]) () X Y row h3 hg (fun r e => (hr r e).2), h5⟩)
        ?assign ?body ?done ?stop
      case assign =>
        rintro l pre x W K ⟨i0, i1, i2⟩ hK
        unfold ptEnc
        gi_wp2
        exact hK _ _ ((KeepsOthers.alloc _ _).from _) (kp0_alloc (by omega) _) ⟨below_alloc i0 _, i1, by simp; omega⟩ ⟨W.heap.size, by omega, blk_new W _, rfl⟩
      case body =>
        rintro l pre x a' W hl ⟨r, hr⟩ ⟨i0, i1, i2⟩ ⟨Bp, hBp, hP, rfl⟩ hlen
        have q0 : W.cell? ⟨Bp, 0, none⟩ = some (.int .i64 x.f0) := (blk_cell hP 0).trans rfl
        have q1 : W.cell? ⟨Bp, 1, none⟩ = some (.int .i64 x.f1) := (blk_cell hP 1).trans rfl
        have g0 : W.cell? ⟨w.heap.size + 1, 0, none⟩ = some (.int .i64 b.x0) := (blk_cell (blk_below D1.out i0) 0).trans rfl
        have g1 : W.cell? ⟨w.heap.size + 1, 1, none⟩ = some (.int .i64 b.y0) := (blk_cell (blk_below D1.out i0) 1).trans rfl
        have g2 : W.cell? ⟨w.heap.size + 1, 2, none⟩ = some (.int .i64 b.x1) := (blk_cell (blk_below D1.out i0) 2).trans rfl
        have g3 : W.cell? ⟨w.heap.size + 1, 3, none⟩ = some (.int .i64 b.y1) := (blk_cell (blk_below D1.out i0) 3).trans rfl
        have HI := Aside0.mk i0
        have HA := Aside0.mk i1
        clear i0 i1 hP hr hft hkb
        gi_wp2
        refine ⟨trivial, CallsIn.inRound l (callsIn_wide.2 ((within_any x.f0 x.f1 b.x0 b.y0 b.x1 b.y1 W).mono ?_))⟩
        rintro e W1 ⟨rfl, hb⟩
        have HKs := Aside0.mk (keepsFrom_below (n := W0.heap.size) hb)
        have HKp := Aside0.mk (kp0_below (w := V) (Bs := V.heap.size) (fb := w.heap.size) (by omega) hb)
        have HI1 := Aside0.mk (below_then HI.out HI.out.size hb)
        have hW1 := hb.size
        clear hb q0 q1 g0 g1 g2 g3
        cases hin : withinB x.f0 x.f1 b.x0 b.y0 b.x1 b.y1
        · have HIn := Aside0.mk (show inB b x = false from hin)
          clear hin
          gi_wp2
          exact ⟨HKs.out, HKp.out, HI1.out, by rw [List.any_append, HA.out]; simp [HIn.out], by omega⟩
        · have HIn := Aside0.mk (show inB b x = true from hin)
          clear hin
          have h2 := blk_below D2.out HI1.out
          have h3 := blk_below D3.out HI1.out
          have r2 : W1.cell? ⟨w.heap.size + 1 + 1, 0, none⟩ = some (.bool false) := (blk_cell h2 0).trans rfl
          have r3 : W1.cell? ⟨w.heap.size + 1 + 1 + 1, 0, none⟩ = some (.int .i64 0) := (blk_cell h3 0).trans rfl
          have rf2 := blk_frozen h2 0
          have rf3 := blk_frozen h3 0
          have rl2 := blk_lt h2
          have rl3 := blk_lt h3
          have H2 := Aside0.mk h2
          have H3 := Aside0.mk h3
          clear h2 h3
          gi_wp2
          exact ⟨HKs.out.trans ((set2_ko W1 _ _ true 0).from _), rfl, by show (pre ++ [x]).any (inB b) = true; rw [List.any_append]; simp [HIn.out], set2_r H2.out (by omega) true 0, set2_e H3.out true 0, set2_below (below_then HV.out HV.out.size HI1.out) (by omega) (by omega) true 0⟩
      case stop =>
        rintro D c' pre W hD hSp ⟨rfl, i1, i2, i3, i4⟩ hK
        have HM := Aside0.mk (show meetsB f b = true by
          unfold meetsB
          obtain ⟨t, ht⟩ := hSp
          rw [← ht, List.any_append]
          rw [show pre.any (inB b) = true from i1]
          rfl)
        have HI4 := Aside0.mk i4
        have r2 : W.cell? ⟨w.heap.size + 1 + 1, 0, none⟩ = some (.bool true) := (blk_cell i2 0).trans rfl
        have r3 : W.cell? ⟨w.heap.size + 1 + 1 + 1, 0, none⟩ = some (.int .i64 0) := (blk_cell i3 0).trans rfl
        clear i1 i4 hSp hft hkb
        gi_wp2
        refine ⟨by simp, .inl ⟨_, _, rfl, run_takeDeferred hK, ?_⟩⟩
        have c2 : (W.putObj D (.deferred none)).cell? ⟨w.heap.size + 1 + 1, 0, none⟩ = some (.bool true) := (World.cell?_of_block (World.putObj_heap_other (by show w.heap.size + 1 + 1 ≠ D; omega))).trans r2
        have c3 : (W.putObj D (.deferred none)).cell? ⟨w.heap.size + 1 + 1 + 1, 0, none⟩ = some (.int .i64 0) := (World.cell?_of_block (World.putObj_heap_other (by show w.heap.size + 1 + 1 + 1 ≠ D; omega))).trans r3
        refine ⟨.tuple #[.bool true, .int .i64 0], by simp [c2, c3, results, Try.f15, go_sem], by rw [HE.out, HMf.out, HBf.out, HM.out]; rfl, HI4.out.trans ⟨rfl, rfl, rfl, by simp, fun k hk => World.putObj_heap_other (by omega)⟩⟩
      case done =>
        rintro D ys W hD rfl ⟨i0, i1, i2⟩ hK
        have HIn := Aside0.mk i1
        have HI := Aside0.mk i0
        have g0 : W.cell? ⟨w.heap.size + 1, 0, none⟩ = some (.int .i64 b.x0) := (blk_cell (blk_below D1.out i0) 0).trans rfl
        have g1 : W.cell? ⟨w.heap.size + 1, 1, none⟩ = some (.int .i64 b.y0) := (blk_cell (blk_below D1.out i0) 1).trans rfl
        have g2 : W.cell? ⟨w.heap.size + 1, 2, none⟩ = some (.int .i64 b.x1) := (blk_cell (blk_below D1.out i0) 2).trans rfl
        have g3 : W.cell? ⟨w.heap.size + 1, 3, none⟩ = some (.int .i64 b.y1) := (blk_cell (blk_below D1.out i0) 3).trans rfl
        clear i0 i1 hft hkb
        gi_wp2
        refine ⟨trivial, callsIn_wide.2 ((corners_any b.x0 b.y0 b.x1 b.y1 W).mono ?_)⟩
        rintro e U ⟨rfl, hb⟩
        have hKU := (hb.block D (blk_lt hK)).trans hK
        have HU := Aside0.mk (below_then HI.out HI.out.size hb)
        have hWU := hb.size
        clear hb g0 g1 g2 g3
        gi_wp2
        refine ⟨trivial, callsIn_wide.2 ((stretches_any w.heap.size _).mono ?_)⟩
        rintro e w' ⟨rfl, rfl⟩
        gi_wp2
        have hVU := HU.out.size
        have hKU' : D < U.heap.size := blk_lt hKU
        have hcb := blk_new U (.cells #[.int .i64 b.x0, .int .i64 b.y0, .int .i64 b.x1, .int .i64 b.y0, .int .i64 b.x1, .int .i64 b.y1, .int .i64 b.x0, .int .i64 b.y1] 67)
        have hUb := below_alloc (Below.refl U.heap.size U) (.cells #[.int .i64 b.x0, .int .i64 b.y0, .int .i64 b.x1, .int .i64 b.y0, .int .i64 b.x1, .int .i64 b.y1, .int .i64 b.x0, .int .i64 b.y1] 67)
        have hUs : (U.alloc (.cells #[.int .i64 b.x0, .int .i64 b.y0, .int .i64 b.x1, .int .i64 b.y0, .int .i64 b.x1, .int .i64 b.y1, .int .i64 b.x0, .int .i64 b.y1] 67)).heap.size = U.heap.size + 1 := by simp
        obtain ⟨V2, hV2⟩ : ∃ V2, U.alloc (.cells #[.int .i64 b.x0, .int .i64 b.y0, .int .i64 b.x1, .int .i64 b.y0, .int .i64 b.x1, .int .i64 b.y1, .int .i64 b.x0, .int .i64 b.y1] 67) = V2 := ⟨_, rfl⟩
        rw [hV2] at hcb hUb hUs ⊢
        clear hV2
        have HVV := Aside0.mk (below_then HU.out HU.out.size hUb)
        have hft : Feat V2 w.heap.size f A c := HFt.out.below HVV.out
        have hkb : KB V2 (U.heap.size + 1) w.heap.size (V2.alloc (.cells #[.pointer (some ⟨w.heap.size, 0, none⟩)] 60)) := ⟨below_alloc (Below.refl _ _) _, by rw [← hUs]; exact (blk_cell (blk_new V2 _) 0).trans rfl⟩
        have hsz2 : (V2.alloc (.cells #[.pointer (some ⟨w.heap.size, 0, none⟩)] 60)).heap.size = U.heap.size + 1 + 1 := by simp [hUs]
        have hKV2 := (hUb.block D hKU').trans hKU
        generalize V2.alloc (.cells #[.pointer (some ⟨w.heap.size, 0, none⟩)] 60) = W2 at *
        have HKV := Aside0.mk hKV2
        clear hK hKU hKV2
        have HM0 := Aside0.mk HMf.out
        refine wpIn_rangeFunc_ownH (F := Fence.wide) rfl (by decide) (gf := 58) (lb := #[.pointer (some ⟨U.heap.size + 1, 0, none⟩)]) rfl trivial (enters_of Try.func58 (by kernel_rfl) rfl)
          (stretches_stops 5 (by decide) (U.heap.size + 1) w.heap.size f A c V2 W2 hft hkb (may_pts HM0.out) (may_ne HM0.out)) Kp0.trans (fun W l o o' hl ho _ _ => kp0_put hkb.1.size (by omega) hl ho) (Below.refl _ _) (fun _ => rfl)
          (StI V2 b (U.heap.size + 1 + 1)) (fun c pre W => MtX w (fun pre => (vals pre).any (sideB b)) c pre W ∧ W.heap[D]? = some (.deferred (some []))) (stI_own V2 b _ W2 hkb.1.size) (fun c => OwnFrom.and (mtX_own w _ W2 (by omega) c) (dOwn (by omega)))
          ⟨hkb.1, rfl, by omega⟩
          (fun x a' W => ∃ Ba Bb, U.heap.size + 1 < Ba ∧ U.heap.size + 1 < Bb ∧ W.heap[Ba]? = some (.cells #[.int .i64 x.1.1.f0, .int .i64 x.1.1.f1] 23 (0, 0)) ∧ W.heap[Bb]? = some (.cells #[.int .i64 x.1.2.f0, .int .i64 x.1.2.f1] 23 (0, 0)) ∧
            a' = { tmps := #[.agg #[.int .i64 f.id, .int .i64 f.shape, .slice A f.rings.length c], .agg #[.int .i64 b.x0, .int .i64 b.y0, .int .i64 b.x1, .int .i64 b.y1], .pointer (some ⟨w.heap.size, 0, none⟩), .pointer (some ⟨w.heap.size + 1, 0, none⟩), .pointer (some ⟨w.heap.size + 1 + 1, 0, none⟩), .pointer (some ⟨w.heap.size + 1 + 1 + 1, 0, none⟩),
            undef, .pointer (some ⟨U.heap.size, 0, none⟩), .pointer (some ⟨Ba, 0, none⟩), .pointer (some ⟨Bb, 0, none⟩), undef, .agg #[.int .i64 f.id, .int .i64 f.shape, .slice A f.rings.length c], .bool true, .bool false, .bool false, .agg #[.int .i64 b.x0, .int .i64 b.y0, .int .i64 b.x1, .int .i64 b.y1], .bool true, .bool false, .bool false, .func (.func 57) #[] #[.pointer (some ⟨V.heap.size, 0, none⟩)],
            undef, undef, undef, undef, .agg #[.int .i64 b.x0, .int .i64 b.y0, .int .i64 b.x1, .int .i64 b.y1], .agg #[.int .i64 b.x0, .int .i64 b.y0, .int .i64 b.x1, .int .i64 b.y0, .int .i64 b.x1, .int .i64 b.y1, .int .i64 b.x0, .int .i64 b.y1], .func (.func 58) #[] #[.pointer (some ⟨U.heap.size + 1, 0, none⟩)],
            .agg #[.int .i64 x.1.1.f0, .int .i64 x.1.1.f1], .agg #[.int .i64 x.1.2.f0, .int .i64 x.1.2.f1], undef, undef, undef, undef, undef, undef, undef, undef, undef, undef, undef, undef, undef], defers := [] })
          (fun x a' _ X Y row hs hg hr => by
            obtain ⟨Ba, Bb, h1, h2, h3, h4, h5⟩ := hs
            exact ⟨Ba, Bb, h1, h2, rowOwn Ba 23 (fun (_ : Unit) => #[.int .i64 x.1.1.f0, .int .i64 x.1.1.f1]) () X Y row h3 hg (fun r e => (hr r e).2), rowOwn Bb 23 (fun (_ : Unit) => #[.int .i64 x.1.2.f0, .int .i64 x.1.2.f1]) () X Y row h4 hg (fun r e => (hr r e).2), h5⟩)
          ?assign ?body ?done ?stop
        case assign =>
          rintro l pre x W K ⟨i0, i1, i2⟩ hK
          unfold stEnc
          gi_wp2
          exact hK _ _ (((KeepsOthers.alloc _ _).trans (KeepsOthers.alloc _ _)).from _) ((kp0_alloc (by omega) _).trans (kp0_alloc (by rw [World.size_alloc]; omega) _))
            ⟨below_alloc (below_alloc i0 _) _, i1, by simp; omega⟩
            ⟨W.heap.size, W.heap.size + 1, by omega, by omega, blk_alloc (blk_new W _) _, by have := blk_new (W.alloc (.cells #[.int .i64 x.1.1.f0, .int .i64 x.1.1.f1] 23)) (.cells #[.int .i64 x.1.2.f0, .int .i64 x.1.2.f1] 23); rwa [World.size_alloc] at this, rfl⟩
        case body =>
          rintro l pre x a' W hl ⟨r, hr⟩ ⟨i0, i1, i2⟩ ⟨Ba, Bb, hBa, hBb, hA, hB, rfl⟩ hlen
          have a0 : W.cell? ⟨Ba, 0, none⟩ = some (.int .i64 x.1.1.f0) := (blk_cell hA 0).trans rfl
          have a1 : W.cell? ⟨Ba, 1, none⟩ = some (.int .i64 x.1.1.f1) := (blk_cell hA 1).trans rfl
          have z0 : W.cell? ⟨Bb, 0, none⟩ = some (.int .i64 x.1.2.f0) := (blk_cell hB 0).trans rfl
          have z1 : W.cell? ⟨Bb, 1, none⟩ = some (.int .i64 x.1.2.f1) := (blk_cell hB 1).trans rfl
          have hcb' := blk_below hcb i0
          have d0 : W.cell? ⟨U.heap.size, 0, none⟩ = some (.int .i64 b.x0) := (blk_cell hcb' 0).trans rfl
          have d1 : W.cell? ⟨U.heap.size, 1, none⟩ = some (.int .i64 b.y0) := (blk_cell hcb' 1).trans rfl
          have d2 : W.cell? ⟨U.heap.size, 2, none⟩ = some (.int .i64 b.x1) := (blk_cell hcb' 2).trans rfl
          have d3 : W.cell? ⟨U.heap.size, 3, none⟩ = some (.int .i64 b.y0) := (blk_cell hcb' 3).trans rfl
          have d4 : W.cell? ⟨U.heap.size, 4, none⟩ = some (.int .i64 b.x1) := (blk_cell hcb' 4).trans rfl
          have d5 : W.cell? ⟨U.heap.size, 5, none⟩ = some (.int .i64 b.y1) := (blk_cell hcb' 5).trans rfl
          have d6 : W.cell? ⟨U.heap.size, 6, none⟩ = some (.int .i64 b.x0) := (blk_cell hcb' 6).trans rfl
          have d7 : W.cell? ⟨U.heap.size, 7, none⟩ = some (.int .i64 b.y1) := (blk_cell hcb' 7).trans rfl
          have HI' := Aside0.mk i0
          have HA := Aside0.mk i1
          clear i0 i1 hA hB hr hft hkb hcb hcb' hUb
          gi_wp2
          refine ⟨trivial, CallsIn.inRound l (callsIn_wide.2 ((sides_any x.1.1 x.1.2 (cn0 b) (cn1 b) (cn2 b) (cn3 b) W).mono ?_))⟩
          rintro e W1 ⟨rfl, hb⟩
          have HKs := Aside0.mk (keepsFrom_below (n := W2.heap.size) hb)
          have HKp := Aside0.mk (kp0_below (w := V2) (Bs := U.heap.size + 1) (fb := w.heap.size) (by omega) hb)
          have HI1 := Aside0.mk (below_then HI'.out HI'.out.size hb)
          have hW1 := hb.size
          clear hb a0 a1 z0 z1 d0 d1 d2 d3 d4 d5 d6 d7
          cases hin : sidesB x.1.1 x.1.2 (cn0 b) (cn1 b) (cn2 b) (cn3 b)
          · have HIn' := Aside0.mk (show sideB b x.1 = false from hin)
            clear hin
            gi_wp2
            exact ⟨HKs.out, HKp.out, HI1.out, by rw [vals_add, List.any_append, HA.out]; simp [HIn'.out], by omega⟩
          · have HIn' := Aside0.mk (show sideB b x.1 = true from hin)
            clear hin
            have hb2 := below_then HVV.out HVV.out.size HI1.out
            have h2 := blk_below D2.out hb2
            have h3 := blk_below D3.out hb2
            have HB2 := Aside0.mk hb2
            clear hb2
            have r2 : W1.cell? ⟨w.heap.size + 1 + 1, 0, none⟩ = some (.bool false) := (blk_cell h2 0).trans rfl
            have r3 : W1.cell? ⟨w.heap.size + 1 + 1 + 1, 0, none⟩ = some (.int .i64 0) := (blk_cell h3 0).trans rfl
            have rf2 := blk_frozen h2 0
            have rf3 := blk_frozen h3 0
            have rl2 := blk_lt h2
            have rl3 := blk_lt h3
            have H2 := Aside0.mk h2
            have H3 := Aside0.mk h3
            clear h2 h3
            gi_wp2
            exact ⟨HKs.out.trans ((set2_ko W1 _ _ true 0).from _), ⟨rfl, by show (vals (pre ++ [x])).any (sideB b) = true; rw [vals_add, List.any_append]; simp [HIn'.out], set2_r H2.out (by omega) true 0, set2_e H3.out true 0, set2_below (below_then HV.out HV.out.size HB2.out) (by omega) (by omega) true 0⟩, set2_any ((HI1.out.block D (by omega)).trans HKV.out) (by omega) (by omega) true 0⟩
        case stop =>
          rintro E c' pre W hE hSp ⟨⟨rfl, i1, i2, i3, i4⟩, hKD⟩ hK
          have HM := Aside0.mk (show meetsB f b = true by
            unfold meetsB
            obtain ⟨t, ht⟩ := hSp
            rw [← ht, List.any_append (xs := vals pre)]
            rw [show (vals pre).any (sideB b) = true from i1]
            simp)
          have HI4 := Aside0.mk i4
          have hED : D ≠ E := by omega
          have r2 : W.cell? ⟨w.heap.size + 1 + 1, 0, none⟩ = some (.bool true) := (blk_cell i2 0).trans rfl
          have r3 : W.cell? ⟨w.heap.size + 1 + 1 + 1, 0, none⟩ = some (.int .i64 0) := (blk_cell i3 0).trans rfl
          have hKD' : (W.putObj E (.deferred none)).heap[D]? = some (.deferred (some [])) := (World.putObj_heap_other hED).trans hKD
          clear i1 i4 hSp hft hkb
          gi_wp2
          have c2 : ((W.putObj E (.deferred none)).putObj D (.deferred none)).cell? ⟨w.heap.size + 1 + 1, 0, none⟩ = some (.bool true) := (World.cell?_of_block (World.putObj_heap_other (by show w.heap.size + 1 + 1 ≠ D; omega))).trans ((World.cell?_of_block (World.putObj_heap_other (by show w.heap.size + 1 + 1 ≠ E; omega))).trans r2)
          have c3 : ((W.putObj E (.deferred none)).putObj D (.deferred none)).cell? ⟨w.heap.size + 1 + 1 + 1, 0, none⟩ = some (.int .i64 0) := (World.cell?_of_block (World.putObj_heap_other (by show w.heap.size + 1 + 1 + 1 ≠ D; omega))).trans ((World.cell?_of_block (World.putObj_heap_other (by show w.heap.size + 1 + 1 + 1 ≠ E; omega))).trans r3)
          refine ⟨by simp, .inl ⟨_, _, rfl, run_takeDeferred hK, ?_⟩⟩
          refine ⟨by simp, .inl ⟨_, _, rfl, run_takeDeferred hKD', ?_⟩⟩
          refine ⟨.tuple #[.bool true, .int .i64 0], by simp [c2, c3, results, Try.f15, go_sem], by rw [HE.out, HMf.out, HBf.out, HM.out]; rfl, below_puts (n := w.heap.size) HI4.out (by omega) (by omega)⟩
        case done =>
          rintro E ys W hE hS ⟨i0, i1, i2⟩ hK
          have hED : D ≠ E := by omega
          have HBe := Aside0.mk (below_then HVV.out HVV.out.size i0)
          have hKD := (i0.block D (by omega)).trans HKV.out
          have HM := Aside0.mk (show meetsB f b = (f.shape == 2 && (cnr b).any (hasB f)) by
            unfold meetsB
            rw [HIn.out, ← hS, i1]
            rfl)
          have s1 : W.cell? ⟨w.heap.size, 1, none⟩ = some (.int .i64 f.shape) := (blk_cell (blk_below D0.out HBe.out) 1).trans rfl
          have hcb' := blk_below hcb i0
          have HPc := Aside0.mk (pc_corners (c0 := cn0 b) (c1 := cn1 b) (c2 := cn2 b) (c3 := cn3 b) hcb')
          have HW := Aside0.mk (HFt.out.below HBe.out)
          have h2 := blk_below D2.out HBe.out
          have h3 := blk_below D3.out HBe.out
          have hlb := blk_lt hcb'
          clear i0 i1 hft hkb hcb hUb hS
          by_cases s2 : f.shape = 2
          · have s2' : (f.shape == 2) = true := by simp [s2]
            rw [s2', Bool.true_and] at HM
            have d0 : W.cell? ⟨U.heap.size, 0, none⟩ = some (.int .i64 b.x0) := (blk_cell hcb' 0).trans rfl
            clear hcb'
            have H2' := Aside0.mk h2
            have H3' := Aside0.mk h3
            have HK1 := Aside0.mk hK
            have HK2 := Aside0.mk hKD
            have HSh := Aside0.mk s2
            clear h2 h3 hK hKD
            gi_wp2
            refine ⟨trivial, callsIn_wide.2 ((anyHas_any w.heap.size f A c (some ⟨U.heap.size, 0, none⟩) 4 [cn0 b, cn1 b, cn2 b, cn3 b] W HW.out HMf.out HPc.out (fun p hp => cnr_may HBf.out p hp)).mono ?_)⟩
            rintro e W1 ⟨rfl, hb⟩
            have h2 := blk_below H2'.out hb
            have h3 := blk_below H3'.out hb
            have HKE := Aside0.mk ((hb.block E (Array.getElem?_eq_some_iff.1 HK1.out).1).trans HK1.out)
            have HKF := Aside0.mk ((hb.block D (Array.getElem?_eq_some_iff.1 HK2.out).1).trans HK2.out)
            have HBz := Aside0.mk (below_then (below_then HV.out HV.out.size HBe.out) (below_then HV.out HV.out.size HBe.out).size hb)
            clear hb d0
            have r2 : W1.cell? ⟨w.heap.size + 1 + 1, 0, none⟩ = some (.bool false) := (blk_cell h2 0).trans rfl
            have r3 : W1.cell? ⟨w.heap.size + 1 + 1 + 1, 0, none⟩ = some (.int .i64 0) := (blk_cell h3 0).trans rfl
            have rf2 := blk_frozen h2 0
            have rf3 := blk_frozen h3 0
            have rl2 := blk_lt h2
            have rl3 := blk_lt h3
            have H2 := Aside0.mk h2
            have H3 := Aside0.mk h3
            clear h2 h3
            change Aside0 (meetsB f b = [cn0 b, cn1 b, cn2 b, cn3 b].any (hasB f)) at HM
            generalize [cn0 b, cn1 b, cn2 b, cn3 b].any (hasB f) = ans at *
            gi_wp2
            show bodyPostM _ _ _ _ _ _ _ (set2 W1 (w.heap.size + 1 + 1) (w.heap.size + 1 + 1 + 1) ans 0)
            have t2 := set2_r (h := w.heap.size + 1 + 1 + 1) H2.out (by omega) ans 0
            have t3 := set2_e (g := w.heap.size + 1 + 1) H3.out ans 0
            have hz := set2_below HBz.out (g := w.heap.size + 1 + 1) (h := w.heap.size + 1 + 1 + 1) (by omega) (by omega) ans 0
            have hKE := set2_any (g := w.heap.size + 1 + 1) (h := w.heap.size + 1 + 1 + 1) HKE.out (by omega) (by omega) ans 0
            have hKF := set2_any (g := w.heap.size + 1 + 1) (h := w.heap.size + 1 + 1 + 1) HKF.out (by omega) (by omega) ans 0
            clear r2 r3 rf2 rf3 rl2 rl3
            generalize set2 W1 (w.heap.size + 1 + 1) (w.heap.size + 1 + 1 + 1) ans 0 = W9 at *
            have hKD' : (W9.putObj E (.deferred none)).heap[D]? = some (.deferred (some [])) := (World.putObj_heap_other hED).trans hKF
            have c2 : ((W9.putObj E (.deferred none)).putObj D (.deferred none)).cell? ⟨w.heap.size + 1 + 1, 0, none⟩ = some (.bool ans) := (World.cell?_of_block (World.putObj_heap_other (by show w.heap.size + 1 + 1 ≠ D; omega))).trans ((World.cell?_of_block (World.putObj_heap_other (by show w.heap.size + 1 + 1 ≠ E; omega))).trans ((blk_cell t2 0).trans rfl))
            have c3 : ((W9.putObj E (.deferred none)).putObj D (.deferred none)).cell? ⟨w.heap.size + 1 + 1 + 1, 0, none⟩ = some (.int .i64 0) := (World.cell?_of_block (World.putObj_heap_other (by show w.heap.size + 1 + 1 + 1 ≠ D; omega))).trans ((World.cell?_of_block (World.putObj_heap_other (by show w.heap.size + 1 + 1 + 1 ≠ E; omega))).trans ((blk_cell t3 0).trans rfl))
            refine ⟨by simp, .inl ⟨_, _, rfl, run_takeDeferred hKE, ?_⟩⟩
            refine ⟨by simp, .inl ⟨_, _, rfl, run_takeDeferred hKD', ?_⟩⟩
            refine ⟨.tuple #[.bool ans, .int .i64 0], by simp [c2, c3, results, Try.f15, go_sem], by rw [HE.out, HMf.out, HBf.out, HM.out]; rfl, below_puts (n := w.heap.size) hz (by omega) (by omega)⟩
          · have s2' : (f.shape == 2) = false := by simp [s2]
            rw [s2', Bool.false_and] at HM
            have r2 : W.cell? ⟨w.heap.size + 1 + 1, 0, none⟩ = some (.bool false) := (blk_cell h2 0).trans rfl
            have r3 : W.cell? ⟨w.heap.size + 1 + 1 + 1, 0, none⟩ = some (.int .i64 0) := (blk_cell h3 0).trans rfl
            have rf2 := blk_frozen h2 0
            have rf3 := blk_frozen h3 0
            have rl2 := blk_lt h2
            have rl3 := blk_lt h3
            have H2 := Aside0.mk h2
            have H3 := Aside0.mk h3
            have HKE := Aside0.mk hK
            have HKF := Aside0.mk hKD
            have HBz := Aside0.mk (below_then HV.out HV.out.size HBe.out)
            clear h2 h3 hcb' hK hKD
            gi_wp2
            refine ⟨trivial, ?_⟩
            gi_wp2
            show bodyPostM _ _ _ _ _ _ _ (set2 W (w.heap.size + 1 + 1) (w.heap.size + 1 + 1 + 1) false 0)
            have t2 := set2_r (h := w.heap.size + 1 + 1 + 1) H2.out (by omega) false 0
            have t3 := set2_e (g := w.heap.size + 1 + 1) H3.out false 0
            have hz := set2_below HBz.out (g := w.heap.size + 1 + 1) (h := w.heap.size + 1 + 1 + 1) (by omega) (by omega) false 0
            have hKE := set2_any (g := w.heap.size + 1 + 1) (h := w.heap.size + 1 + 1 + 1) HKE.out (by omega) (by omega) false 0
            have hKF := set2_any (g := w.heap.size + 1 + 1) (h := w.heap.size + 1 + 1 + 1) HKF.out (by omega) (by omega) false 0
            clear r2 r3 rf2 rf3 rl2 rl3
            generalize set2 W (w.heap.size + 1 + 1) (w.heap.size + 1 + 1 + 1) false 0 = W9 at *
            have hKD' : (W9.putObj E (.deferred none)).heap[D]? = some (.deferred (some [])) := (World.putObj_heap_other hED).trans hKF
            have c2 : ((W9.putObj E (.deferred none)).putObj D (.deferred none)).cell? ⟨w.heap.size + 1 + 1, 0, none⟩ = some (.bool false) := (World.cell?_of_block (World.putObj_heap_other (by show w.heap.size + 1 + 1 ≠ D; omega))).trans ((World.cell?_of_block (World.putObj_heap_other (by show w.heap.size + 1 + 1 ≠ E; omega))).trans ((blk_cell t2 0).trans rfl))
            have c3 : ((W9.putObj E (.deferred none)).putObj D (.deferred none)).cell? ⟨w.heap.size + 1 + 1 + 1, 0, none⟩ = some (.int .i64 0) := (World.cell?_of_block (World.putObj_heap_other (by show w.heap.size + 1 + 1 + 1 ≠ D; omega))).trans ((World.cell?_of_block (World.putObj_heap_other (by show w.heap.size + 1 + 1 + 1 ≠ E; omega))).trans ((blk_cell t3 0).trans rfl))
            refine ⟨by simp, .inl ⟨_, _, rfl, run_takeDeferred hKE, ?_⟩⟩
            refine ⟨by simp, .inl ⟨_, _, rfl, run_takeDeferred hKD', ?_⟩⟩
            refine ⟨.tuple #[.bool false, .int .i64 0], by simp [c2, c3, results, Try.f15, go_sem], by rw [HE.out, HMf.out, HBf.out, HM.out]; rfl, below_puts (n := w.heap.size) hz (by omega) (by omega)⟩
end Go.Proofs.Ytmednnpmkhgfpaa.SH
