/- What furlonglaw4.Shapes answers: yes. Condition: rows that lie in memory. -/
import Derived.Test.YtmednnpmkhgfpaaShRe
import Derived.Test.YtmednnpmkhgfpaaShRf
import Derived.Test.YtmednnpmkhgfpaaShRg
import Derived.Test.YtmednnpmkhgfpaaShQ
import Derived.Test.YtmednnpmkhgfpaaShAw
import Derived.Test.YtmednnpmkhgfpaaShY
import Derived.Test.YtmednnpmkhgfpaaShOp
namespace Go.Proofs.Ytmednnpmkhgfpaa.SH
open Go Go.RowKit Go.Proofs.YtmednnpmkhgfpaaW.PrintWords Go.Proofs.YtmednnpmkhgfpaaW.PrintLast Go.Proofs.YtmednnpmkhgfpaaW.PrintMore Go.Proofs.Ytmednnpmkhgfpaa.PShapes Go.Proofs.Ytmednnpmkhgfpaa.Geo
set_option linter.unusedVariables false
set_option linter.unusedSimpArgs false
attribute [local go_sem high] eqA23 eqA30

theorem copy_at (f : Ft) (h : okRs f.rings) : ∀ (n j : Nat), j + n = f.rings.length → furlonglaw0_CopyFeature.l0 (n + 1) (j : Int) f.id f.shape f.rings f.id f.shape (f.rings.take j) = some (f.id, f.shape, f.rings)
  | 0, j, hj => by
    unfold furlonglaw0_CopyFeature.l0
    rw [if_neg (by omega), List.take_of_length_le (by omega)]
  | n + 1, j, hj => by
    have hlt : j < f.rings.length := by omega
    have e : rd_L2 f.rings (j : Int) = f.rings[j] := by unfold rd_L2; simp [hlt]
    have h1 := h.1 _ (List.getElem_mem hlt)
    have h2 := h.2
    unfold okR at h1
    have hw : wrap64 ((j : Int) + 1) = ((j + 1 : Nat) : Int) := by unfold wrap64; omega
    have ih := copy_at f h n (j + 1) (by omega)
    rw [List.take_succ_eq_append_getElem hlt] at ih
    unfold furlonglaw0_CopyFeature.l0
    rw [if_pos (by omega), Option.bind_some, if_pos (by omega), if_pos (by rw [e]; simp only [List.length_nil]; omega), if_pos (by rw [List.length_take]; omega), hw, e, List.nil_append]
    exact ih
theorem copy_any (f : Ft) (A : Option Addr) (c : Nat) (w : World) (h : RC w A f.rings) (hl : f.rings.length ≤ c) (ho : okRs f.rings) :
    Calls Try.prog 16 #[.agg #[.int .i64 f.id, .int .i64 f.shape, .slice A f.rings.length c]] w fun e w' => ∃ (B : Option Addr) (d : Nat), e = .returned (.agg #[.int .i64 f.id, .int .i64 f.shape, .slice B f.rings.length d]) ∧ RC w' B f.rings ∧ Below w.heap.size w w' := by
  refine (furlonglaw0_CopyFeature.calls (f.rings.length + 1) f.id f.shape A c f.rings f.id f.shape f.rings w h hl (copy_at f ho f.rings.length 0 (by omega))).mono ?_
  rintro e w' ⟨v, rfl, hS, hb⟩
  obtain ⟨B, d, rfl, _, hr⟩ := Kd.R_reads (Kd.S_R hS)
  exact ⟨B, d, rfl, hr, hb⟩
theorem numB_any (x : Int) (w : World) : Calls Try.prog 13 #[.int .i64 x] w fun e w' => e = .returned (.int .i64 x) ∧ Below w.heap.size w w' := by
  refine (num_any x w).mono ?_
  rintro e w' ⟨rfl, rfl⟩
  exact ⟨rfl, Below.refl _ _⟩
theorem eqP_self (p : S23) : eqP p p = true := by unfold eqP; simp
theorem eqR_self (l : List S23) : eqR l l = true := by
  unfold eqR
  rw [decide_eq_true rfl, List.all_eq_true.2 fun k _ => eqP_self _]; rfl
theorem sameB_self (f : Ft) : sameB f f = true := by
  unfold sameB eqRs
  rw [decide_eq_true rfl, List.all_eq_true.2 fun k _ => eqR_self _]; simp
theorem sameSelf_any (f : Ft) (A : Option Addr) (c : Nat) (B : Option Addr) (d : Nat) (w : World) (h : RC w A f.rings) (h' : RC w B f.rings) :
    Calls Try.prog 24 #[.agg #[.int .i64 f.id, .int .i64 f.shape, .slice A f.rings.length c], .agg #[.int .i64 f.id, .int .i64 f.shape, .slice B f.rings.length d]] w fun e w' => e = .returned (.bool true) ∧ Below w.heap.size w w' := by
  rw [← sameB_self f]
  exact sameFeature_any f A c f B d w h h'
theorem Box_lit2 (f : Ft) (A : Option Addr) (c : Nat) (w : World) (h : RC w A f.rings) :
    Calls Try.prog 17 #[.agg #[.int .i64 f.id, .int .i64 f.shape, .slice A f.rings.length c]] w fun e w' => e = .returned (.tuple #[.agg #[.int .i64 (boxV f).x0, .int .i64 (boxV f).y0, .int .i64 (boxV f).x1, .int .i64 (boxV f).y1], .int .i64 (okE (mayB f))]) ∧ Below w.heap.size w w' := Box_any f A c w h
theorem rBox_lit (f : Ft) (A : Option Addr) (c : Nat) (w : World) (h : RC w A f.rings) :
    Calls Try.prog 18 #[.agg #[.int .i64 f.id, .int .i64 f.shape, .slice A f.rings.length c]] w fun e w' => e = .returned (.tuple #[.agg #[.int .i64 (boxV f).x0, .int .i64 (boxV f).y0, .int .i64 (boxV f).x1, .int .i64 (boxV f).y1], .int .i64 (okE (mayB f))]) ∧ Below w.heap.size w w' := rBox_any f A c w h
/-- the four arguments' boxes, and what they point to -/
structure PI (w : World) (f : Ft) (A : Option Addr) (c : Nat) (g : Ft) (B : Option Addr) (d : Nat) (p : S23) (b : Bx) (W : World) : Prop where
  F : W.heap[w.heap.size]? = some (.cells #[.int .i64 f.id, .int .i64 f.shape, .slice A f.rings.length c] 27 (0, 0))
  G : W.heap[w.heap.size + 1]? = some (.cells #[.int .i64 g.id, .int .i64 g.shape, .slice B g.rings.length d] 27 (0, 0))
  P : W.heap[w.heap.size + 1 + 1]? = some (.cells #[.int .i64 p.f0, .int .i64 p.f1] 23 (0, 0))
  X : W.heap[w.heap.size + 1 + 1 + 1]? = some (.cells #[.int .i64 b.x0, .int .i64 b.y0, .int .i64 b.x1, .int .i64 b.y1] 30 (0, 0))
  rf : RC W A f.rings
  rg : RC W B g.rings
  low : Below w.heap.size w W
theorem PI.next {w : World} {f : Ft} {A : Option Addr} {c : Nat} {g : Ft} {B : Option Addr} {d : Nat} {p : S23} {b : Bx} {W W' : World} (h : PI w f A c g B d p b W) (hb : Below W.heap.size W W') : PI w f A c g B d p b W' :=
  ⟨blk_below h.F hb, blk_below h.G hb, blk_below h.P hb, blk_below h.X hb, Kd.C_below h.rf hb, Kd.C_below h.rg hb, below_then h.low h.low.size hb⟩
/-- a feature in a box -/
structure FI (n : Nat) (f : Ft) (A : Option Addr) (c : Nat) (W : World) : Prop where
  blk : W.heap[n]? = some (.cells #[.int .i64 f.id, .int .i64 f.shape, .slice A f.rings.length c] 27 (0, 0))
  rs : RC W A f.rings
theorem FI.next {n : Nat} {f : Ft} {A : Option Addr} {c : Nat} {W W' : World} (h : FI n f A c W) (hb : Below W.heap.size W W') : FI n f A c W' := ⟨blk_below h.blk hb, Kd.C_below h.rs hb⟩
set_option maxHeartbeats 16000000 in
set_option maxRecDepth 100000 in
theorem shapes_law (f : Ft) (A : Option Addr) (c : Nat) (g : Ft) (B : Option Addr) (d : Nat) (p : S23) (b : Bx) (w : World) (h : RC w A f.rings) (hl : f.rings.length ≤ c) (ho : okRs f.rings) (h' : RC w B g.rings) :
    Calls Try.prog 5 #[.agg #[.int .i64 f.id, .int .i64 f.shape, .slice A f.rings.length c], .agg #[.int .i64 g.id, .int .i64 g.shape, .slice B g.rings.length d], .agg #[.int .i64 p.f0, .int .i64 p.f1], .agg #[.int .i64 b.x0, .int .i64 b.y0, .int .i64 b.x1, .int .i64 b.y1]] w
      fun e w' => e = .returned (.bool true) ∧ Below w.heap.size w w' := by
  have h0 := blk_new w (.cells #[.int .i64 f.id, .int .i64 f.shape, .slice A f.rings.length c] 27)
  have hb0 := below_alloc (Below.refl w.heap.size w) (.cells #[.int .i64 f.id, .int .i64 f.shape, .slice A f.rings.length c] 27)
  have h1 := blk_new (w.alloc (.cells #[.int .i64 f.id, .int .i64 f.shape, .slice A f.rings.length c] 27)) (.cells #[.int .i64 g.id, .int .i64 g.shape, .slice B g.rings.length d] 27)
  have hb1 := below_alloc hb0 (.cells #[.int .i64 g.id, .int .i64 g.shape, .slice B g.rings.length d] 27)
  replace h0 := blk_alloc h0 (.cells #[.int .i64 g.id, .int .i64 g.shape, .slice B g.rings.length d] 27)
  have h2 := blk_new ((w.alloc (.cells #[.int .i64 f.id, .int .i64 f.shape, .slice A f.rings.length c] 27)).alloc (.cells #[.int .i64 g.id, .int .i64 g.shape, .slice B g.rings.length d] 27)) (.cells #[.int .i64 p.f0, .int .i64 p.f1] 23)
  have hb2 := below_alloc hb1 (.cells #[.int .i64 p.f0, .int .i64 p.f1] 23)
  replace h0 := blk_alloc h0 (.cells #[.int .i64 p.f0, .int .i64 p.f1] 23)
  replace h1 := blk_alloc h1 (.cells #[.int .i64 p.f0, .int .i64 p.f1] 23)
  have h3 := blk_new (((w.alloc (.cells #[.int .i64 f.id, .int .i64 f.shape, .slice A f.rings.length c] 27)).alloc (.cells #[.int .i64 g.id, .int .i64 g.shape, .slice B g.rings.length d] 27)).alloc (.cells #[.int .i64 p.f0, .int .i64 p.f1] 23)) (.cells #[.int .i64 b.x0, .int .i64 b.y0, .int .i64 b.x1, .int .i64 b.y1] 30)
  have hb3 := below_alloc hb2 (.cells #[.int .i64 b.x0, .int .i64 b.y0, .int .i64 b.x1, .int .i64 b.y1] 30)
  replace h0 := blk_alloc h0 (.cells #[.int .i64 b.x0, .int .i64 b.y0, .int .i64 b.x1, .int .i64 b.y1] 30)
  replace h1 := blk_alloc h1 (.cells #[.int .i64 b.x0, .int .i64 b.y0, .int .i64 b.x1, .int .i64 b.y1] 30)
  replace h2 := blk_alloc h2 (.cells #[.int .i64 b.x0, .int .i64 b.y0, .int .i64 b.x1, .int .i64 b.y1] 30)
  simp only [World.size_alloc] at h1 h2 h3
  have HI := Aside0.mk (PI.mk (w := w) (f := f) (g := g) (p := p) (b := b) h0 h1 h2 h3 (Kd.C_below h hb3) (Kd.C_below h' hb3) hb3)
  have HO := Aside0.mk ho
  have HL := Aside0.mk hl
  clear h0 h1 h2 h3 hb0 hb1 hb2 hb3 h h' ho hl
  go_enter Try.func5, Try.ntmps5
  go_wp2_with fail
  refine (copy_any f A c _ HI.out.rf HL.out HO.out).mono ?_
  rintro e w1 ⟨A1, c1, rfl, hX, hb⟩
  replace HI := Aside0.mk (HI.out.next hb)
  have HX := Aside0.mk hX
  clear hX hb HL HO
  go_wp2_with fail
  replace HI := Aside0.mk (HI.out.next (below_alloc (Below.refl _ _) (.cells #[.int .i64 f.id, .int .i64 f.shape, .slice A1 f.rings.length c1] 27)))
  have HF := Aside0.mk (FI.mk (blk_new w1 (.cells #[.int .i64 f.id, .int .i64 f.shape, .slice A1 f.rings.length c1] 27)) (Kd.C_below HX.out (below_alloc (Below.refl _ _) (.cells #[.int .i64 f.id, .int .i64 f.shape, .slice A1 f.rings.length c1] 27))))
  clear HX
  generalize w1.alloc (.cells #[.int .i64 f.id, .int .i64 f.shape, .slice A1 f.rings.length c1] 27) = w2 at *
  generalize w1.heap.size = xb at *
  refine (Box_lit2 f A1 c1 _ HF.out.rs).mono ?_
  rintro e w3 ⟨rfl, hb⟩
  replace HI := Aside0.mk (HI.out.next hb)
  replace HF := Aside0.mk (FI.next HF.out hb)
  clear hb
  have f0 : w3.cell? ⟨w.heap.size, 0, none⟩ = some (.int .i64 f.id) := (blk_cell HI.out.F 0).trans rfl
  have f1 : w3.cell? ⟨w.heap.size, 1, none⟩ = some (.int .i64 f.shape) := (blk_cell HI.out.F 1).trans rfl
  have f2 : w3.cell? ⟨w.heap.size, 2, none⟩ = some (.slice A f.rings.length c) := (blk_cell HI.out.F 2).trans rfl
  have fl := blk_lt HI.out.F
  go_wp2_with fail
  clear f0 f1 f2
  clear fl
  replace HI := Aside0.mk (HI.out.next (below_alloc (Below.refl _ _) (.cells #[.int .i64 (boxV f).x0, .int .i64 (boxV f).y0, .int .i64 (boxV f).x1, .int .i64 (boxV f).y1] 30)))
  replace HF := Aside0.mk (FI.next HF.out (below_alloc (Below.refl _ _) (.cells #[.int .i64 (boxV f).x0, .int .i64 (boxV f).y0, .int .i64 (boxV f).x1, .int .i64 (boxV f).y1] 30)))
  have HY := Aside0.mk (blk_new w3 (.cells #[.int .i64 (boxV f).x0, .int .i64 (boxV f).y0, .int .i64 (boxV f).x1, .int .i64 (boxV f).y1] 30))
  generalize w3.alloc (.cells #[.int .i64 (boxV f).x0, .int .i64 (boxV f).y0, .int .i64 (boxV f).x1, .int .i64 (boxV f).y1] 30) = w4 at *
  generalize w3.heap.size = yb at *
  refine (rBox_lit f A c _ HI.out.rf).mono ?_
  rintro e w5 ⟨rfl, hb⟩
  replace HI := Aside0.mk (HI.out.next hb)
  replace HF := Aside0.mk (FI.next HF.out hb)
  replace HY := Aside0.mk (blk_below HY.out hb)
  clear hb
  have x0 : w5.cell? ⟨xb, 0, none⟩ = some (.int .i64 f.id) := (blk_cell HF.out.blk 0).trans rfl
  have x1 : w5.cell? ⟨xb, 1, none⟩ = some (.int .i64 f.shape) := (blk_cell HF.out.blk 1).trans rfl
  have x2 : w5.cell? ⟨xb, 2, none⟩ = some (.slice A1 f.rings.length c1) := (blk_cell HF.out.blk 2).trans rfl
  have p0 : w5.cell? ⟨w.heap.size + 1 + 1, 0, none⟩ = some (.int .i64 p.f0) := (blk_cell HI.out.P 0).trans rfl
  have p1 : w5.cell? ⟨w.heap.size + 1 + 1, 1, none⟩ = some (.int .i64 p.f1) := (blk_cell HI.out.P 1).trans rfl
  have fl := blk_lt HF.out.blk
  have fm := blk_lt HI.out.P
  go_wp2_with fail
  clear x0 x1 x2 p0 p1
  clear fl fm
  replace HI := Aside0.mk (HI.out.next (below_alloc (Below.refl _ _) (.cells #[.int .i64 (boxV f).x0, .int .i64 (boxV f).y0, .int .i64 (boxV f).x1, .int .i64 (boxV f).y1] 30)))
  replace HF := Aside0.mk (FI.next HF.out (below_alloc (Below.refl _ _) (.cells #[.int .i64 (boxV f).x0, .int .i64 (boxV f).y0, .int .i64 (boxV f).x1, .int .i64 (boxV f).y1] 30)))
  replace HY := Aside0.mk (blk_below HY.out (below_alloc (Below.refl _ _) (.cells #[.int .i64 (boxV f).x0, .int .i64 (boxV f).y0, .int .i64 (boxV f).x1, .int .i64 (boxV f).y1] 30)))
  have HZ := Aside0.mk (blk_new w5 (.cells #[.int .i64 (boxV f).x0, .int .i64 (boxV f).y0, .int .i64 (boxV f).x1, .int .i64 (boxV f).y1] 30))
  generalize w5.alloc (.cells #[.int .i64 (boxV f).x0, .int .i64 (boxV f).y0, .int .i64 (boxV f).x1, .int .i64 (boxV f).y1] 30) = w6 at *
  generalize w5.heap.size = zb at *
  refine (Has_any f A1 c1 p _ HF.out.rs).mono ?_
  rintro e w7 ⟨rfl, hb⟩
  replace HI := Aside0.mk (HI.out.next hb)
  replace HF := Aside0.mk (FI.next HF.out hb)
  replace HY := Aside0.mk (blk_below HY.out hb)
  replace HZ := Aside0.mk (blk_below HZ.out hb)
  clear hb
  have f0 : w7.cell? ⟨w.heap.size, 0, none⟩ = some (.int .i64 f.id) := (blk_cell HI.out.F 0).trans rfl
  have f1 : w7.cell? ⟨w.heap.size, 1, none⟩ = some (.int .i64 f.shape) := (blk_cell HI.out.F 1).trans rfl
  have f2 : w7.cell? ⟨w.heap.size, 2, none⟩ = some (.slice A f.rings.length c) := (blk_cell HI.out.F 2).trans rfl
  have p0 : w7.cell? ⟨w.heap.size + 1 + 1, 0, none⟩ = some (.int .i64 p.f0) := (blk_cell HI.out.P 0).trans rfl
  have p1 : w7.cell? ⟨w.heap.size + 1 + 1, 1, none⟩ = some (.int .i64 p.f1) := (blk_cell HI.out.P 1).trans rfl
  go_wp2_with fail
  clear f0 f1 f2 p0 p1
  refine (rHas_any f A c p _ HI.out.rf).mono ?_
  rintro e w8 ⟨rfl, hb⟩
  replace HI := Aside0.mk (HI.out.next hb)
  replace HF := Aside0.mk (FI.next HF.out hb)
  replace HY := Aside0.mk (blk_below HY.out hb)
  replace HZ := Aside0.mk (blk_below HZ.out hb)
  clear hb
  have x0 : w8.cell? ⟨xb, 0, none⟩ = some (.int .i64 f.id) := (blk_cell HF.out.blk 0).trans rfl
  have x1 : w8.cell? ⟨xb, 1, none⟩ = some (.int .i64 f.shape) := (blk_cell HF.out.blk 1).trans rfl
  have x2 : w8.cell? ⟨xb, 2, none⟩ = some (.slice A1 f.rings.length c1) := (blk_cell HF.out.blk 2).trans rfl
  have b0 : w8.cell? ⟨w.heap.size + 1 + 1 + 1, 0, none⟩ = some (.int .i64 b.x0) := (blk_cell HI.out.X 0).trans rfl
  have b1 : w8.cell? ⟨w.heap.size + 1 + 1 + 1, 1, none⟩ = some (.int .i64 b.y0) := (blk_cell HI.out.X 1).trans rfl
  have b2 : w8.cell? ⟨w.heap.size + 1 + 1 + 1, 2, none⟩ = some (.int .i64 b.x1) := (blk_cell HI.out.X 2).trans rfl
  have b3 : w8.cell? ⟨w.heap.size + 1 + 1 + 1, 3, none⟩ = some (.int .i64 b.y1) := (blk_cell HI.out.X 3).trans rfl
  go_wp2_with fail
  clear x0 x1 x2 b0 b1 b2 b3
  refine (Meets_any f A1 c1 b _ HF.out.rs).mono ?_
  rintro e w9 ⟨rfl, hb⟩
  replace HI := Aside0.mk (HI.out.next hb)
  replace HF := Aside0.mk (FI.next HF.out hb)
  replace HY := Aside0.mk (blk_below HY.out hb)
  replace HZ := Aside0.mk (blk_below HZ.out hb)
  clear hb
  have f0 : w9.cell? ⟨w.heap.size, 0, none⟩ = some (.int .i64 f.id) := (blk_cell HI.out.F 0).trans rfl
  have f1 : w9.cell? ⟨w.heap.size, 1, none⟩ = some (.int .i64 f.shape) := (blk_cell HI.out.F 1).trans rfl
  have f2 : w9.cell? ⟨w.heap.size, 2, none⟩ = some (.slice A f.rings.length c) := (blk_cell HI.out.F 2).trans rfl
  have b0 : w9.cell? ⟨w.heap.size + 1 + 1 + 1, 0, none⟩ = some (.int .i64 b.x0) := (blk_cell HI.out.X 0).trans rfl
  have b1 : w9.cell? ⟨w.heap.size + 1 + 1 + 1, 1, none⟩ = some (.int .i64 b.y0) := (blk_cell HI.out.X 1).trans rfl
  have b2 : w9.cell? ⟨w.heap.size + 1 + 1 + 1, 2, none⟩ = some (.int .i64 b.x1) := (blk_cell HI.out.X 2).trans rfl
  have b3 : w9.cell? ⟨w.heap.size + 1 + 1 + 1, 3, none⟩ = some (.int .i64 b.y1) := (blk_cell HI.out.X 3).trans rfl
  go_wp2_with fail
  clear f0 f1 f2 b0 b1 b2 b3
  refine (rMeets_any f A c b _ HI.out.rf).mono ?_
  rintro e W ⟨rfl, hb⟩
  replace HI := Aside0.mk (HI.out.next hb)
  replace HF := Aside0.mk (FI.next HF.out hb)
  replace HY := Aside0.mk (blk_below HY.out hb)
  replace HZ := Aside0.mk (blk_below HZ.out hb)
  clear hb
  go_upto_region 8 with (fail)
  have f0 : W.cell? ⟨w.heap.size, 0, none⟩ = some (.int .i64 f.id) := (blk_cell HI.out.F 0).trans rfl
  have f1 : W.cell? ⟨w.heap.size, 1, none⟩ = some (.int .i64 f.shape) := (blk_cell HI.out.F 1).trans rfl
  have f2 : W.cell? ⟨w.heap.size, 2, none⟩ = some (.slice A f.rings.length c) := (blk_cell HI.out.F 2).trans rfl
  have g0 : W.cell? ⟨w.heap.size + 1, 0, none⟩ = some (.int .i64 g.id) := (blk_cell HI.out.G 0).trans rfl
  have g1 : W.cell? ⟨w.heap.size + 1, 1, none⟩ = some (.int .i64 g.shape) := (blk_cell HI.out.G 1).trans rfl
  have g2 : W.cell? ⟨w.heap.size + 1, 2, none⟩ = some (.slice B g.rings.length d) := (blk_cell HI.out.G 2).trans rfl
  have x0 : W.cell? ⟨xb, 0, none⟩ = some (.int .i64 f.id) := (blk_cell HF.out.blk 0).trans rfl
  have x1 : W.cell? ⟨xb, 1, none⟩ = some (.int .i64 f.shape) := (blk_cell HF.out.blk 1).trans rfl
  have x2 : W.cell? ⟨xb, 2, none⟩ = some (.slice A1 f.rings.length c1) := (blk_cell HF.out.blk 2).trans rfl
  have y0 : W.cell? ⟨yb, 0, none⟩ = some (.int .i64 (boxV f).x0) := (blk_cell HY.out 0).trans rfl
  have y1 : W.cell? ⟨yb, 1, none⟩ = some (.int .i64 (boxV f).y0) := (blk_cell HY.out 1).trans rfl
  have y2 : W.cell? ⟨yb, 2, none⟩ = some (.int .i64 (boxV f).x1) := (blk_cell HY.out 2).trans rfl
  have y3 : W.cell? ⟨yb, 3, none⟩ = some (.int .i64 (boxV f).y1) := (blk_cell HY.out 3).trans rfl
  have z0 : W.cell? ⟨zb, 0, none⟩ = some (.int .i64 (boxV f).x0) := (blk_cell HZ.out 0).trans rfl
  have z1 : W.cell? ⟨zb, 1, none⟩ = some (.int .i64 (boxV f).y0) := (blk_cell HZ.out 1).trans rfl
  have z2 : W.cell? ⟨zb, 2, none⟩ = some (.int .i64 (boxV f).x1) := (blk_cell HZ.out 2).trans rfl
  have z3 : W.cell? ⟨zb, 3, none⟩ = some (.int .i64 (boxV f).y1) := (blk_cell HZ.out 3).trans rfl
  refine be_ 56 [] (W := W) rfl (by kernel_rfl) (fun hHeld => ?_)
  refine tk_ 0 58 hHeld rfl rfl (by kernel_rfl) (fun _ _ _ h => h) (by rfl) (fun w' hS' => by
    have q0 := pw_cell_below hS' y0
    have q1 := pw_cell_below hS' y1
    have q2 := pw_cell_below hS' y2
    have q3 := pw_cell_below hS' y3
    go_simp
    all_goals with_reducible rfl) (by simp only [Act.put, List.setIfInBounds_toArray, List.set_cons_zero, List.set_cons_succ]; rfl) ?_
  refine tk_ 1 59 hHeld rfl rfl (by kernel_rfl) (fun _ _ _ h => h) (by rfl) (fun w' hS' => by
    have q0 := pw_cell_below hS' z0
    have q1 := pw_cell_below hS' z1
    have q2 := pw_cell_below hS' z2
    have q3 := pw_cell_below hS' z3
    go_simp
    all_goals with_reducible rfl) (by simp only [Act.put, List.setIfInBounds_toArray, List.set_cons_zero, List.set_cons_succ]; rfl) ?_
  refine pu_ 2 60 (v := .bool true) rfl rfl (by kernel_rfl) (fun _ _ _ h => h) (by rfl) (fun w' => by go_simp; all_goals (first | done | rfl | simp)) (by simp only [Act.put, List.setIfInBounds_toArray, List.set_cons_zero, List.set_cons_succ]; rfl) ?_
  refine pu_ 3 61 rfl rfl (by kernel_rfl) (fun _ _ _ h => h) (by rfl) (fun w' => by go_simp; all_goals with_reducible rfl) (by simp only [Act.put, List.setIfInBounds_toArray, List.set_cons_zero, List.set_cons_succ]; rfl) ?_
  refine pu_ 4 62 rfl rfl (by kernel_rfl) (fun _ _ _ h => h) (by rfl) (fun w' => by go_simp; all_goals with_reducible rfl) (by simp only [Act.put, List.setIfInBounds_toArray, List.set_cons_zero, List.set_cons_succ]; rfl) ?_
  refine pu_ 6 64 rfl rfl (by kernel_rfl) (fun _ _ _ h => h) (by rfl) (fun w' => by go_simp; all_goals with_reducible rfl) (by simp only [Act.put, List.setIfInBounds_toArray, List.set_cons_zero, List.set_cons_succ]; rfl) ?_
  refine cl_ 5 63 Try.func13 hHeld (numB_any (okE (mayB f)) _) rfl rfl (by kernel_rfl) (by decide) (by kernel_rfl) rfl (by rfl) rfl (by first | rfl | (simp only [List.map_toArray, List.map_cons, List.map_nil]; rfl)) (by simp only [Act.put, List.setIfInBounds_toArray, List.set_cons_zero, List.set_cons_succ]; rfl) (fun w1 hb hHeld => ?_)
  refine pu_ 7 65 (v := .bool true) rfl rfl (by kernel_rfl) (fun _ _ _ h => h) (by rfl) (fun w' => by go_simp; all_goals (first | done | rfl | simp)) (by simp only [Act.put, List.setIfInBounds_toArray, List.set_cons_zero, List.set_cons_succ]; rfl) ?_
  refine pu_ 8 66 rfl rfl (by kernel_rfl) (fun _ _ _ h => h) (by rfl) (fun w' => by go_simp; all_goals with_reducible rfl) (by simp only [Act.put, List.setIfInBounds_toArray, List.set_cons_zero, List.set_cons_succ]; rfl) ?_
  refine pu_ 9 67 rfl rfl (by kernel_rfl) (fun _ _ _ h => h) (by rfl) (fun w' => by go_simp; all_goals with_reducible rfl) (by simp only [Act.put, List.setIfInBounds_toArray, List.set_cons_zero, List.set_cons_succ]; rfl) ?_
  refine pu_ 10 68 rfl rfl (by kernel_rfl) (fun _ _ _ h => h) (by rfl) (fun w' => by go_simp; all_goals with_reducible rfl) (by simp only [Act.put, List.setIfInBounds_toArray, List.set_cons_zero, List.set_cons_succ]; rfl) ?_
  refine pu_ 11 69 rfl rfl (by kernel_rfl) (fun _ _ _ h => h) (by rfl) (fun w' => by go_simp; all_goals with_reducible rfl) (by simp only [Act.put, List.setIfInBounds_toArray, List.set_cons_zero, List.set_cons_succ]; rfl) ?_
  refine pu_ 12 70 (v := .bool true) rfl rfl (by kernel_rfl) (fun _ _ _ h => h) (by rfl) (fun w' => by go_simp; all_goals (first | done | rfl | simp)) (by simp only [Act.put, List.setIfInBounds_toArray, List.set_cons_zero, List.set_cons_succ]; rfl) ?_
  refine pu_ 13 71 rfl rfl (by kernel_rfl) (fun _ _ _ h => h) (by rfl) (fun w' => by go_simp; all_goals with_reducible rfl) (by simp only [Act.put, List.setIfInBounds_toArray, List.set_cons_zero, List.set_cons_succ]; rfl) ?_
  refine pu_ 14 72 rfl rfl (by kernel_rfl) (fun _ _ _ h => h) (by rfl) (fun w' => by go_simp; all_goals with_reducible rfl) (by simp only [Act.put, List.setIfInBounds_toArray, List.set_cons_zero, List.set_cons_succ]; rfl) ?_
  refine pu_ 15 73 rfl rfl (by kernel_rfl) (fun _ _ _ h => h) (by rfl) (fun w' => by go_simp; all_goals with_reducible rfl) (by simp only [Act.put, List.setIfInBounds_toArray, List.set_cons_zero, List.set_cons_succ]; rfl) ?_
  refine pu_ 17 75 rfl rfl (by kernel_rfl) (fun _ _ _ h => h) (by rfl) (fun w' => by go_simp; all_goals with_reducible rfl) (by simp only [Act.put, List.setIfInBounds_toArray, List.set_cons_zero, List.set_cons_succ]; rfl) ?_
  refine cl_ 16 74 Try.func13 hHeld (numB_any (okE (mayB f && ptP p)) _) rfl rfl (by kernel_rfl) (by decide) (by kernel_rfl) rfl (by rfl) rfl (by first | rfl | (simp only [List.map_toArray, List.map_cons, List.map_nil]; rfl)) (by simp only [Act.put, List.setIfInBounds_toArray, List.set_cons_zero, List.set_cons_succ]; rfl) (fun w1 hb hHeld => ?_)
  refine pu_ 18 76 (v := .bool true) rfl rfl (by kernel_rfl) (fun _ _ _ h => h) (by rfl) (fun w' => by go_simp; all_goals (first | done | rfl | simp)) (by simp only [Act.put, List.setIfInBounds_toArray, List.set_cons_zero, List.set_cons_succ]; rfl) ?_
  refine pu_ 19 77 rfl rfl (by kernel_rfl) (fun _ _ _ h => h) (by rfl) (fun w' => by go_simp; all_goals with_reducible rfl) (by simp only [Act.put, List.setIfInBounds_toArray, List.set_cons_zero, List.set_cons_succ]; rfl) ?_
  refine pu_ 20 78 rfl rfl (by kernel_rfl) (fun _ _ _ h => h) (by rfl) (fun w' => by go_simp; all_goals with_reducible rfl) (by simp only [Act.put, List.setIfInBounds_toArray, List.set_cons_zero, List.set_cons_succ]; rfl) ?_
  refine pu_ 21 79 rfl rfl (by kernel_rfl) (fun _ _ _ h => h) (by rfl) (fun w' => by go_simp; all_goals with_reducible rfl) (by simp only [Act.put, List.setIfInBounds_toArray, List.set_cons_zero, List.set_cons_succ]; rfl) ?_
  refine pu_ 22 80 rfl rfl (by kernel_rfl) (fun _ _ _ h => h) (by rfl) (fun w' => by go_simp; all_goals with_reducible rfl) (by simp only [Act.put, List.setIfInBounds_toArray, List.set_cons_zero, List.set_cons_succ]; rfl) ?_
  refine pu_ 23 81 (v := .bool true) rfl rfl (by kernel_rfl) (fun _ _ _ h => h) (by rfl) (fun w' => by go_simp; all_goals (first | done | rfl | simp)) (by simp only [Act.put, List.setIfInBounds_toArray, List.set_cons_zero, List.set_cons_succ]; rfl) ?_
  refine pu_ 24 82 rfl rfl (by kernel_rfl) (fun _ _ _ h => h) (by rfl) (fun w' => by go_simp; all_goals with_reducible rfl) (by simp only [Act.put, List.setIfInBounds_toArray, List.set_cons_zero, List.set_cons_succ]; rfl) ?_
  refine pu_ 25 83 rfl rfl (by kernel_rfl) (fun _ _ _ h => h) (by rfl) (fun w' => by go_simp; all_goals with_reducible rfl) (by simp only [Act.put, List.setIfInBounds_toArray, List.set_cons_zero, List.set_cons_succ]; rfl) ?_
  refine pu_ 26 84 rfl rfl (by kernel_rfl) (fun _ _ _ h => h) (by rfl) (fun w' => by go_simp; all_goals with_reducible rfl) (by simp only [Act.put, List.setIfInBounds_toArray, List.set_cons_zero, List.set_cons_succ]; rfl) ?_
  refine pu_ 28 86 rfl rfl (by kernel_rfl) (fun _ _ _ h => h) (by rfl) (fun w' => by go_simp; all_goals with_reducible rfl) (by simp only [Act.put, List.setIfInBounds_toArray, List.set_cons_zero, List.set_cons_succ]; rfl) ?_
  refine cl_ 27 85 Try.func13 hHeld (numB_any (okE (mayB f && bxMay b)) _) rfl rfl (by kernel_rfl) (by decide) (by kernel_rfl) rfl (by rfl) rfl (by first | rfl | (simp only [List.map_toArray, List.map_cons, List.map_nil]; rfl)) (by simp only [Act.put, List.setIfInBounds_toArray, List.set_cons_zero, List.set_cons_succ]; rfl) (fun w1 hb hHeld => ?_)
  refine pu_ 29 87 (v := .bool true) rfl rfl (by kernel_rfl) (fun _ _ _ h => h) (by rfl) (fun w' => by go_simp; all_goals (first | done | rfl | simp)) (by simp only [Act.put, List.setIfInBounds_toArray, List.set_cons_zero, List.set_cons_succ]; rfl) ?_
  refine pu_ 30 88 rfl rfl (by kernel_rfl) (fun _ _ _ h => h) (by rfl) (fun w' => by go_simp; all_goals with_reducible rfl) (by simp only [Act.put, List.setIfInBounds_toArray, List.set_cons_zero, List.set_cons_succ]; rfl) ?_
  refine pu_ 31 89 rfl rfl (by kernel_rfl) (fun _ _ _ h => h) (by rfl) (fun w' => by go_simp; all_goals with_reducible rfl) (by simp only [Act.put, List.setIfInBounds_toArray, List.set_cons_zero, List.set_cons_succ]; rfl) ?_
  refine tk_ 32 90 hHeld rfl rfl (by kernel_rfl) (fun _ _ _ h => h) (by rfl) (fun w' hS' => by
    have q0 := pw_cell_below hS' x0
    have q1 := pw_cell_below hS' x1
    have q2 := pw_cell_below hS' x2
    go_simp
    all_goals with_reducible rfl) (by simp only [Act.put, List.setIfInBounds_toArray, List.set_cons_zero, List.set_cons_succ]; rfl) ?_
  refine tk_ 34 92 hHeld rfl rfl (by kernel_rfl) (fun _ _ _ h => h) (by rfl) (fun w' hS' => by
    have q0 := pw_cell_below hS' f0
    have q1 := pw_cell_below hS' f1
    have q2 := pw_cell_below hS' f2
    go_simp
    all_goals with_reducible rfl) (by simp only [Act.put, List.setIfInBounds_toArray, List.set_cons_zero, List.set_cons_succ]; rfl) ?_
  refine cl_ 33 91 Try.func14 hHeld (may_any f A1 c1 _ (Kd.C_below HF.out.rs hHeld)) rfl rfl (by kernel_rfl) (by decide) (by kernel_rfl) rfl (by rfl) rfl (by first | rfl | (simp only [List.map_toArray, List.map_cons, List.map_nil]; rfl)) (by simp only [Act.put, List.setIfInBounds_toArray, List.set_cons_zero, List.set_cons_succ]; rfl) (fun w1 hb hHeld => ?_)
  refine cl_ 35 93 Try.func21 hHeld (rMayB_any f A c _ (Kd.C_below HI.out.rf hHeld)) rfl rfl (by kernel_rfl) (by decide) (by kernel_rfl) rfl (by rfl) rfl (by first | rfl | (simp only [List.map_toArray, List.map_cons, List.map_nil]; rfl)) (by simp only [Act.put, List.setIfInBounds_toArray, List.set_cons_zero, List.set_cons_succ]; rfl) (fun w1 hb hHeld => ?_)
  refine pu_ 36 94 (v := .bool true) rfl rfl (by kernel_rfl) (fun _ _ _ h => h) (by rfl) (fun w' => by go_simp; all_goals (first | done | rfl | simp)) (by simp only [Act.put, List.setIfInBounds_toArray, List.set_cons_zero, List.set_cons_succ]; rfl) ?_
  refine pu_ 37 95 rfl rfl (by kernel_rfl) (fun _ _ _ h => h) (by rfl) (fun w' => by go_simp; all_goals with_reducible rfl) (by simp only [Act.put, List.setIfInBounds_toArray, List.set_cons_zero, List.set_cons_succ]; rfl) ?_
  refine pu_ 38 96 rfl rfl (by kernel_rfl) (fun _ _ _ h => h) (by rfl) (fun w' => by go_simp; all_goals with_reducible rfl) (by simp only [Act.put, List.setIfInBounds_toArray, List.set_cons_zero, List.set_cons_succ]; rfl) ?_
  refine tk_ 39 97 hHeld rfl rfl (by kernel_rfl) (fun _ _ _ h => h) (by rfl) (fun w' hS' => by
    have q0 := pw_cell_below hS' x0
    have q1 := pw_cell_below hS' x1
    have q2 := pw_cell_below hS' x2
    go_simp
    all_goals with_reducible rfl) (by simp only [Act.put, List.setIfInBounds_toArray, List.set_cons_zero, List.set_cons_succ]; rfl) ?_
  refine tk_ 40 98 hHeld rfl rfl (by kernel_rfl) (fun _ _ _ h => h) (by rfl) (fun w' hS' => by
    have q0 := pw_cell_below hS' g0
    have q1 := pw_cell_below hS' g1
    have q2 := pw_cell_below hS' g2
    go_simp
    all_goals with_reducible rfl) (by simp only [Act.put, List.setIfInBounds_toArray, List.set_cons_zero, List.set_cons_succ]; rfl) ?_
  refine tk_ 42 100 hHeld rfl rfl (by kernel_rfl) (fun _ _ _ h => h) (by rfl) (fun w' hS' => by
    have q0 := pw_cell_below hS' f0
    have q1 := pw_cell_below hS' f1
    have q2 := pw_cell_below hS' f2
    go_simp
    all_goals with_reducible rfl) (by simp only [Act.put, List.setIfInBounds_toArray, List.set_cons_zero, List.set_cons_succ]; rfl) ?_
  refine tk_ 43 101 hHeld rfl rfl (by kernel_rfl) (fun _ _ _ h => h) (by rfl) (fun w' hS' => by
    have q0 := pw_cell_below hS' g0
    have q1 := pw_cell_below hS' g1
    have q2 := pw_cell_below hS' g2
    go_simp
    all_goals with_reducible rfl) (by simp only [Act.put, List.setIfInBounds_toArray, List.set_cons_zero, List.set_cons_succ]; rfl) ?_
  refine cl_ 41 99 Try.func22 hHeld (Same_any f A1 c1 g B d _ (Kd.C_below HF.out.rs hHeld) (Kd.C_below HI.out.rg hHeld)) rfl rfl (by kernel_rfl) (by decide) (by kernel_rfl) rfl (by rfl) rfl (by first | rfl | (simp only [List.map_toArray, List.map_cons, List.map_nil]; rfl)) (by simp only [Act.put, List.setIfInBounds_toArray, List.set_cons_zero, List.set_cons_succ]; rfl) (fun w1 hb hHeld => ?_)
  refine cl_ 44 102 Try.func23 hHeld (rSame_any f A c g B d _ (Kd.C_below HI.out.rf hHeld) (Kd.C_below HI.out.rg hHeld)) rfl rfl (by kernel_rfl) (by decide) (by kernel_rfl) rfl (by rfl) rfl (by first | rfl | (simp only [List.map_toArray, List.map_cons, List.map_nil]; rfl)) (by simp only [Act.put, List.setIfInBounds_toArray, List.set_cons_zero, List.set_cons_succ]; rfl) (fun w1 hb hHeld => ?_)
  refine pu_ 45 103 (v := .bool true) rfl rfl (by kernel_rfl) (fun _ _ _ h => h) (by rfl) (fun w' => by go_simp; all_goals (first | done | rfl | simp)) (by simp only [Act.put, List.setIfInBounds_toArray, List.set_cons_zero, List.set_cons_succ]; rfl) ?_
  refine pu_ 46 104 rfl rfl (by kernel_rfl) (fun _ _ _ h => h) (by rfl) (fun w' => by go_simp; all_goals with_reducible rfl) (by simp only [Act.put, List.setIfInBounds_toArray, List.set_cons_zero, List.set_cons_succ]; rfl) ?_
  refine pu_ 47 105 rfl rfl (by kernel_rfl) (fun _ _ _ h => h) (by rfl) (fun w' => by go_simp; all_goals with_reducible rfl) (by simp only [Act.put, List.setIfInBounds_toArray, List.set_cons_zero, List.set_cons_succ]; rfl) ?_
  refine tk_ 48 106 hHeld rfl rfl (by kernel_rfl) (fun _ _ _ h => h) (by rfl) (fun w' hS' => by
    have q0 := pw_cell_below hS' x0
    have q1 := pw_cell_below hS' x1
    have q2 := pw_cell_below hS' x2
    go_simp
    all_goals with_reducible rfl) (by simp only [Act.put, List.setIfInBounds_toArray, List.set_cons_zero, List.set_cons_succ]; rfl) ?_
  refine tk_ 49 107 hHeld rfl rfl (by kernel_rfl) (fun _ _ _ h => h) (by rfl) (fun w' hS' => by
    have q0 := pw_cell_below hS' f0
    have q1 := pw_cell_below hS' f1
    have q2 := pw_cell_below hS' f2
    go_simp
    all_goals with_reducible rfl) (by simp only [Act.put, List.setIfInBounds_toArray, List.set_cons_zero, List.set_cons_succ]; rfl) ?_
  refine cl_ 50 108 Try.func24 hHeld (sameSelf_any f A1 c1 A c _ (Kd.C_below HF.out.rs hHeld) (Kd.C_below HI.out.rf hHeld)) rfl rfl (by kernel_rfl) (by decide) (by kernel_rfl) rfl (by rfl) rfl (by first | rfl | (simp only [List.map_toArray, List.map_cons, List.map_nil]; rfl)) (by simp only [Act.put, List.setIfInBounds_toArray, List.set_cons_zero, List.set_cons_succ]; rfl) (fun w1 hb hHeld => ?_)
  refine pu_ 51 109 rfl rfl (by kernel_rfl) (fun _ _ _ h => h) (by rfl) (fun w' => by go_simp; all_goals with_reducible rfl) (by simp only [Act.put, List.setIfInBounds_toArray, List.set_cons_zero, List.set_cons_succ]; rfl) ?_
  refine pu_ 52 110 rfl rfl (by kernel_rfl) (fun _ _ _ h => h) (by rfl) (fun w' => by go_simp; all_goals with_reducible rfl) (by simp only [Act.put, List.setIfInBounds_toArray, List.set_cons_zero, List.set_cons_succ]; rfl) ?_
  refine cl_ 53 111 Try.func10 hHeld (awake_any _) rfl rfl (by kernel_rfl) (by decide) (by kernel_rfl) rfl (by rfl) rfl (by simp) (by simp only [Act.put, List.setIfInBounds_toArray, List.set_cons_zero, List.set_cons_succ]; rfl) (fun w1 hb hHeld => ?_)
  refine pu_ 54 112 rfl rfl (by kernel_rfl) (fun _ _ _ h => h) (by rfl) (fun w' => by go_simp; all_goals with_reducible rfl) (by simp only [Act.put, List.setIfInBounds_toArray, List.set_cons_zero, List.set_cons_succ]; rfl) ?_
  refine pu_ 55 8 rfl rfl (by kernel_rfl) (fun _ _ _ h => h) (by rfl) (fun w' => by go_simp; all_goals with_reducible rfl) (by simp only [Act.put, List.setIfInBounds_toArray, List.set_cons_zero, List.set_cons_succ]; rfl) ?_
  refine done_ (by kernel_rfl) ?_
  have hB := below_then HI.out.low HI.out.low.size hHeld
  clear hHeld
  go_wp2_with fail
  go_ret
  exact ⟨rfl, hB⟩
end Go.Proofs.Ytmednnpmkhgfpaa.SH
