/- Whether two features are alike, as the reference says it and as the statements do. -/
import Derived.Test.YtmednnpmkhgfpaaShZ
import Derived.Test.YtmednnpmkhgfpaaShW
namespace Go.Proofs.Ytmednnpmkhgfpaa.SH
open Go Go.RowKit Go.Proofs.YtmednnpmkhgfpaaW.PrintWords Go.Proofs.YtmednnpmkhgfpaaW.PrintLast Go.Proofs.YtmednnpmkhgfpaaW.PrintMore Go.Proofs.Ytmednnpmkhgfpaa.PShapes Go.Proofs.Ytmednnpmkhgfpaa.Geo
set_option linter.unusedVariables false
set_option linter.unusedSimpArgs false
attribute [local go_sem high] eqA23

set_option maxHeartbeats 8000000 in
set_option maxRecDepth 100000 in
theorem rSame_any (f : Ft) (A : Option Addr) (c : Nat) (g : Ft) (B : Option Addr) (d : Nat) (w : World) (h : RC w A f.rings) (h' : RC w B g.rings) :
    Calls Try.prog 23 #[.agg #[.int .i64 f.id, .int .i64 f.shape, .slice A f.rings.length c], .agg #[.int .i64 g.id, .int .i64 g.shape, .slice B g.rings.length d]] w fun e w' => e = .returned (.bool (sameB f g)) ∧ Below w.heap.size w w' := by
  have b0 := blk_alloc (blk_new w (.cells #[.int .i64 f.id, .int .i64 f.shape, .slice A f.rings.length c] 27)) (.cells #[.int .i64 g.id, .int .i64 g.shape, .slice B g.rings.length d] 27)
  have b1 := blk_new (w.alloc (.cells #[.int .i64 f.id, .int .i64 f.shape, .slice A f.rings.length c] 27)) (.cells #[.int .i64 g.id, .int .i64 g.shape, .slice B g.rings.length d] 27)
  simp only [World.size_alloc] at b1
  have hB := below_alloc (below_alloc (Below.refl w.heap.size w) (.cells #[.int .i64 f.id, .int .i64 f.shape, .slice A f.rings.length c] 27)) (.cells #[.int .i64 g.id, .int .i64 g.shape, .slice B g.rings.length d] 27)
  have HR := Aside0.mk (Kd.C_below h hB)
  have HR' := Aside0.mk (Kd.C_below h' hB)
  have hfl : (f.rings.length : Int) ≤ 9223372036854775807 := by have := h.2.1; omega
  clear h h'
  have HE := Aside0.mk (show sameB f g = (f.id == g.id && f.shape == g.shape && eqRs f.rings g.rings) from rfl)
  have HER := Aside0.mk (show eqRs f.rings g.rings = (decide (f.rings.length = g.rings.length) && (List.range f.rings.length).all fun k => eqR (rdR f.rings k) (rdR g.rings k)) from rfl)
  go_enter Try.func23, Try.ntmps23
  go_upto_region 1 with (fail)
  obtain ⟨W, hW⟩ : ∃ W, (w.alloc (.cells #[.int .i64 f.id, .int .i64 f.shape, .slice A f.rings.length c] 27)).alloc (.cells #[.int .i64 g.id, .int .i64 g.shape, .slice B g.rings.length d] 27) = W := ⟨_, rfl⟩
  rw [hW] at b0 b1 hB HR HR' ⊢
  clear hW
  have HB := Aside0.mk hB
  have B0 := Aside0.mk b0
  have B1 := Aside0.mk b1
  clear hB
  have f0 : W.cell? ⟨w.heap.size, 0, none⟩ = some (.int .i64 f.id) := (blk_cell b0 0).trans rfl
  have f1 : W.cell? ⟨w.heap.size, 1, none⟩ = some (.int .i64 f.shape) := (blk_cell b0 1).trans rfl
  have f2 : W.cell? ⟨w.heap.size, 2, none⟩ = some (.slice A f.rings.length c) := (blk_cell b0 2).trans rfl
  have g0 : W.cell? ⟨w.heap.size + 1, 0, none⟩ = some (.int .i64 g.id) := (blk_cell b1 0).trans rfl
  have g1 : W.cell? ⟨w.heap.size + 1, 1, none⟩ = some (.int .i64 g.shape) := (blk_cell b1 1).trans rfl
  have g2 : W.cell? ⟨w.heap.size + 1, 2, none⟩ = some (.slice B g.rings.length d) := (blk_cell b1 2).trans rfl
  clear b0 b1
  by_cases h1 : f.id = g.id
  rotate_left
  · have h1' : (f.id != g.id) = true := by simp [h1]
    have HV := Aside0.mk (show sameB f g = false from by rw [HE.out, show (f.id == g.id) = false by simp [h1]]; rfl)
    clear h1
    go_wp2_with fail
    go_ret
    exact ⟨by rw [HV.out]; first | done | rfl, HB.out⟩
  have h1' : (f.id != g.id) = false := by simp [h1]
  have HE1 := Aside0.mk (show sameB f g = (f.shape == g.shape && eqRs f.rings g.rings) by rw [HE.out, show (f.id == g.id) = true by simp [h1]]; rfl)
  clear h1
  by_cases h2 : f.shape = g.shape
  rotate_left
  · have h2' : (f.shape != g.shape) = true := by simp [h2]
    have HV := Aside0.mk (show sameB f g = false from by rw [HE1.out, show (f.shape == g.shape) = false by simp [h2]]; rfl)
    clear h2
    go_wp2_with fail
    go_ret
    exact ⟨by rw [HV.out]; first | done | rfl, HB.out⟩
  have h2' : (f.shape != g.shape) = false := by simp [h2]
  have HE2 := Aside0.mk (show sameB f g = eqRs f.rings g.rings by rw [HE1.out, show (f.shape == g.shape) = true by simp [h2]]; rfl)
  clear h2
  by_cases h3 : f.rings.length = g.rings.length
  rotate_left
  · have h3' : ((f.rings.length : Int) != g.rings.length) = true := by simp; omega
    have HV := Aside0.mk (show sameB f g = false from by rw [HE2.out, HER.out, decide_eq_false h3]; rfl)
    clear h3
    go_wp2_with fail
    go_ret
    exact ⟨by rw [HV.out]; first | done | rfl, HB.out⟩
  have h3' : ((f.rings.length : Int) != g.rings.length) = false := by simp; omega
  have HV := Aside0.mk (show sameB f g = (List.range f.rings.length).all fun k => eqR (rdR f.rings k) (rdR g.rings k) by rw [HE2.out, HER.out, decide_eq_true h3]; rfl)
  have HLn := Aside0.mk h3
  clear h3 HE HE1 HE2 HER
  go_wp2_with fail
  clear f0 f1 f2 g0 g1 g2 h1' h2' h3'
  go_loopw [5] (fun i wr => ∃ k : Nat, k ≤ f.rings.length ∧ i = .int .i64 k ∧ Aside0 (∀ j, j < k → eqR (rdR f.rings j) (rdR g.rings j) = true) ∧ Aside0 (Below W.heap.size W wr)) (fun i _ => f.rings.length - (intOf i).toNat)
  case atStart => exact ⟨0, Nat.zero_le _, rfl, ⟨fun j hj => absurd hj (by omega)⟩, ⟨Below.refl _ _⟩⟩
  case round =>
    obtain ⟨k, hk, rfl, HI, HBr⟩ := hrel
    have f2 : wr.cell? ⟨w.heap.size, 2, none⟩ = some (.slice A f.rings.length c) := (blk_cell (blk_below B0.out HBr.out) 2).trans rfl
    by_cases hlt : k < f.rings.length
    · obtain ⟨ad, A0, c0, e1, hx0, hc0, hp0⟩ := at_r HR.out k hlt
      obtain ⟨ad', A1, c1, e2, hy0, hc1, hq0⟩ := at_r HR'.out k (by have := HLn.out; omega)
      subst e1
      subst e2
      have hltm : (k : Int) < g.rings.length := by have := HLn.out; omega
      have g2 : wr.cell? ⟨w.heap.size + 1, 2, none⟩ = some (.slice (some ad') g.rings.length d) := (blk_cell (blk_below B1.out HBr.out) 2).trans rfl
      have hx := pw_cell_below HBr.out hx0
      have hy := pw_cell_below HBr.out hy0
      have HX := Aside0.mk hx0
      have HY := Aside0.mk hy0
      clear hx0 hy0
      have HN := Aside0.mk (fun (hf : eqR (rdR f.rings k) (rdR g.rings k) = false) => all_upto (F := fun k => eqR (rdR f.rings k) (rdR g.rings k)) HI.out hlt hf)
      have HS := Aside0.mk (fun (ht : eqR (rdR f.rings k) (rdR g.rings k) = true) j (hj : j < k + 1) => show eqR (rdR f.rings j) (rdR g.rings j) = true by
        rcases Nat.lt_succ_iff_lt_or_eq.1 hj with h | rfl
        · exact HI.out j h
        · exact ht)
      have hpl : (rdR f.rings k).length ≤ 9223372036854775807 := by have := hp0.2.1; omega
      have HP := Aside0.mk hp0
      have HQ := Aside0.mk hq0
      clear hp0 hq0
      generalize rdR f.rings k = p at *
      generalize rdR g.rings k = q at *
      have HEP := Aside0.mk (show eqR p q = (decide (p.length = q.length) && (List.range p.length).all fun k => eqP (rdP p k) (rdP q k)) from rfl)
      by_cases hl : p.length = q.length
      · have hl' : ((p.length : Int) != q.length) = false := by simp; omega
        have HEQ := Aside0.mk (show eqR p q = (List.range p.length).all fun k => eqP (rdP p k) (rdP q k) from by rw [HEP.out, decide_eq_true hl]; rfl)
        have HLp := Aside0.mk hl
        clear hl
        go_wp2_with fail
        go_quiet (fail)
        clear f2 g2 hx hy hl'
        go_wp2_with fail
        go_loopw [6] (fun i wr2 => ∃ m : Nat, m ≤ p.length ∧ i = .int .i64 m ∧ Aside0 (∀ j, j < m → eqP (rdP p j) (rdP q j) = true) ∧ Aside0 (Below W.heap.size W wr2)) (fun i _ => p.length - (intOf i).toNat)
        case atStart => exact ⟨0, Nat.zero_le _, rfl, ⟨fun j hj => absurd hj (by omega)⟩, ⟨pw_below_drewN HBr.out _⟩⟩
        case round =>
          obtain ⟨m, hm, rfl, HJ, HBs⟩ := hrel
          have f2 : wr.cell? ⟨w.heap.size, 2, none⟩ = some (.slice (some ad) f.rings.length c) := (blk_cell (blk_below B0.out HBs.out) 2).trans rfl
          have hx := pw_cell_below HBs.out HX.out
          by_cases hlm : m < p.length
          · have g2 : wr.cell? ⟨w.heap.size + 1, 2, none⟩ = some (.slice (some ad') g.rings.length d) := (blk_cell (blk_below B1.out HBs.out) 2).trans rfl
            have hy := pw_cell_below HBs.out HY.out
            obtain ⟨ap, e1, p0, p1⟩ := at_p (Kd.C_below HP.out HBs.out) m hlm
            obtain ⟨aq, e2, q0, q1⟩ := at_p (Kd.C_below HQ.out HBs.out) m (by have := HLp.out; omega)
            subst e1
            subst e2
            have hlmq : (m : Int) < q.length := by have := HLp.out; omega
            have HNp := Aside0.mk (fun (hf : eqP (rdP p m) (rdP q m) = false) => all_upto (F := fun k => eqP (rdP p k) (rdP q k)) HJ.out hlm hf)
            have HSp := Aside0.mk (fun (ht : eqP (rdP p m) (rdP q m) = true) j (hj : j < m + 1) => show eqP (rdP p j) (rdP q j) = true by
              rcases Nat.lt_succ_iff_lt_or_eq.1 hj with h | rfl
              · exact HJ.out j h
              · exact ht)
            generalize rdP p m = s at *
            generalize rdP q m = t at *
            cases he : eqP s t
            · have hev : (s.f0 == t.f0 && s.f1 == t.f1) = false := he
              have HNv := Aside0.mk (HN.out (by rw [HEQ.out, HNp.out he]))
              clear he
              go_wp2_with fail
              go_quiet (fail)
              go_wp2_with fail
              go_ret
              exact ⟨by rw [HV.out, HNv.out]; first | done | rfl, below_then HB.out HB.out.size (pw_below_drewN HBs.out _)⟩
            · have hev : (s.f0 == t.f0 && s.f1 == t.f1) = true := he
              have HSv := Aside0.mk (HSp.out he)
              clear he
              go_wp2_with fail
              go_quiet (fail)
              go_wp2_with fail
              go_roundw
              case rel => exact ⟨m + 1, by omega, by go_num, HSv, ⟨pw_below_drewN HBs.out _⟩⟩
              case measure => simp [intOf]; omega
          · obtain rfl : m = p.length := by omega
            have HSk := Aside0.mk (HS.out (by rw [HEQ.out, all_done HJ.out]))
            go_wp2_with fail
            go_roundw
            case rel => exact ⟨k + 1, by omega, by go_num, HSk, HBs⟩
            case measure => simp [intOf]; omega
      · have hl' : ((p.length : Int) != q.length) = true := by simp; omega
        have HNv := Aside0.mk (HN.out (by rw [HEP.out, decide_eq_false hl]; rfl))
        clear hl
        go_wp2_with fail
        go_quiet (fail)
        go_wp2_with fail
        go_ret
        exact ⟨by rw [HV.out, HNv.out]; first | done | rfl, below_then HB.out HB.out.size (pw_below_drewN HBr.out _)⟩
    · obtain rfl : k = f.rings.length := by omega
      have HD := Aside0.mk (all_done HI.out)
      go_wp2_with fail
      go_ret
      exact ⟨by rw [HV.out, HD.out]; first | done | rfl, below_then HB.out HB.out.size HBr.out⟩
set_option maxHeartbeats 8000000 in
set_option maxRecDepth 100000 in
theorem sameFeature_any (f : Ft) (A : Option Addr) (c : Nat) (g : Ft) (B : Option Addr) (d : Nat) (w : World) (h : RC w A f.rings) (h' : RC w B g.rings) :
    Calls Try.prog 24 #[.agg #[.int .i64 f.id, .int .i64 f.shape, .slice A f.rings.length c], .agg #[.int .i64 g.id, .int .i64 g.shape, .slice B g.rings.length d]] w fun e w' => e = .returned (.bool (sameB f g)) ∧ Below w.heap.size w w' := by
  have b0 := blk_alloc (blk_new w (.cells #[.int .i64 f.id, .int .i64 f.shape, .slice A f.rings.length c] 27)) (.cells #[.int .i64 g.id, .int .i64 g.shape, .slice B g.rings.length d] 27)
  have b1 := blk_new (w.alloc (.cells #[.int .i64 f.id, .int .i64 f.shape, .slice A f.rings.length c] 27)) (.cells #[.int .i64 g.id, .int .i64 g.shape, .slice B g.rings.length d] 27)
  simp only [World.size_alloc] at b1
  have hB := below_alloc (below_alloc (Below.refl w.heap.size w) (.cells #[.int .i64 f.id, .int .i64 f.shape, .slice A f.rings.length c] 27)) (.cells #[.int .i64 g.id, .int .i64 g.shape, .slice B g.rings.length d] 27)
  have HR := Aside0.mk (Kd.C_below h hB)
  have HR' := Aside0.mk (Kd.C_below h' hB)
  have hfl : (f.rings.length : Int) ≤ 9223372036854775807 := by have := h.2.1; omega
  clear h h'
  have HE := Aside0.mk (show sameB f g = (f.id == g.id && f.shape == g.shape && eqRs f.rings g.rings) from rfl)
  have HER := Aside0.mk (show eqRs f.rings g.rings = (decide (f.rings.length = g.rings.length) && (List.range f.rings.length).all fun k => eqR (rdR f.rings k) (rdR g.rings k)) from rfl)
  go_enter Try.func24, Try.ntmps24
  go_upto_region 1 with (fail)
  obtain ⟨W, hW⟩ : ∃ W, (w.alloc (.cells #[.int .i64 f.id, .int .i64 f.shape, .slice A f.rings.length c] 27)).alloc (.cells #[.int .i64 g.id, .int .i64 g.shape, .slice B g.rings.length d] 27) = W := ⟨_, rfl⟩
  rw [hW] at b0 b1 hB HR HR' ⊢
  clear hW
  have HB := Aside0.mk hB
  have B0 := Aside0.mk b0
  have B1 := Aside0.mk b1
  clear hB
  have f0 : W.cell? ⟨w.heap.size, 0, none⟩ = some (.int .i64 f.id) := (blk_cell b0 0).trans rfl
  have f1 : W.cell? ⟨w.heap.size, 1, none⟩ = some (.int .i64 f.shape) := (blk_cell b0 1).trans rfl
  have f2 : W.cell? ⟨w.heap.size, 2, none⟩ = some (.slice A f.rings.length c) := (blk_cell b0 2).trans rfl
  have g0 : W.cell? ⟨w.heap.size + 1, 0, none⟩ = some (.int .i64 g.id) := (blk_cell b1 0).trans rfl
  have g1 : W.cell? ⟨w.heap.size + 1, 1, none⟩ = some (.int .i64 g.shape) := (blk_cell b1 1).trans rfl
  have g2 : W.cell? ⟨w.heap.size + 1, 2, none⟩ = some (.slice B g.rings.length d) := (blk_cell b1 2).trans rfl
  clear b0 b1
  by_cases h1 : f.id = g.id
  rotate_left
  · have h1' : (f.id != g.id) = true := by simp [h1]
    have HV := Aside0.mk (show sameB f g = false from by rw [HE.out, show (f.id == g.id) = false by simp [h1]]; rfl)
    clear h1
    go_wp2_with fail
    go_ret
    exact ⟨by rw [HV.out]; first | done | rfl, HB.out⟩
  have h1' : (f.id != g.id) = false := by simp [h1]
  have HE1 := Aside0.mk (show sameB f g = (f.shape == g.shape && eqRs f.rings g.rings) by rw [HE.out, show (f.id == g.id) = true by simp [h1]]; rfl)
  clear h1
  by_cases h2 : f.shape = g.shape
  rotate_left
  · have h2' : (f.shape != g.shape) = true := by simp [h2]
    have HV := Aside0.mk (show sameB f g = false from by rw [HE1.out, show (f.shape == g.shape) = false by simp [h2]]; rfl)
    clear h2
    go_wp2_with fail
    go_ret
    exact ⟨by rw [HV.out]; first | done | rfl, HB.out⟩
  have h2' : (f.shape != g.shape) = false := by simp [h2]
  have HE2 := Aside0.mk (show sameB f g = eqRs f.rings g.rings by rw [HE1.out, show (f.shape == g.shape) = true by simp [h2]]; rfl)
  clear h2
  by_cases h3 : f.rings.length = g.rings.length
  rotate_left
  · have h3' : ((f.rings.length : Int) != g.rings.length) = true := by simp; omega
    have HV := Aside0.mk (show sameB f g = false from by rw [HE2.out, HER.out, decide_eq_false h3]; rfl)
    clear h3
    go_wp2_with fail
    go_ret
    exact ⟨by rw [HV.out]; first | done | rfl, HB.out⟩
  have h3' : ((f.rings.length : Int) != g.rings.length) = false := by simp; omega
  have HV := Aside0.mk (show sameB f g = (List.range f.rings.length).all fun k => eqR (rdR f.rings k) (rdR g.rings k) by rw [HE2.out, HER.out, decide_eq_true h3]; rfl)
  have HLn := Aside0.mk h3
  clear h3 HE HE1 HE2 HER
  go_wp2_with fail
  clear f0 f1 f2 g0 g1 g2 h1' h2' h3'
  go_loopw [5] (fun i wr => ∃ k : Nat, k ≤ f.rings.length ∧ i = .int .i64 k ∧ Aside0 (∀ j, j < k → eqR (rdR f.rings j) (rdR g.rings j) = true) ∧ Aside0 (Below W.heap.size W wr)) (fun i _ => f.rings.length - (intOf i).toNat)
  case atStart => exact ⟨0, Nat.zero_le _, rfl, ⟨fun j hj => absurd hj (by omega)⟩, ⟨Below.refl _ _⟩⟩
  case round =>
    obtain ⟨k, hk, rfl, HI, HBr⟩ := hrel
    have f2 : wr.cell? ⟨w.heap.size, 2, none⟩ = some (.slice A f.rings.length c) := (blk_cell (blk_below B0.out HBr.out) 2).trans rfl
    by_cases hlt : k < f.rings.length
    · obtain ⟨ad, A0, c0, e1, hx0, hc0, hp0⟩ := at_r HR.out k hlt
      obtain ⟨ad', A1, c1, e2, hy0, hc1, hq0⟩ := at_r HR'.out k (by have := HLn.out; omega)
      subst e1
      subst e2
      have hltm : (k : Int) < g.rings.length := by have := HLn.out; omega
      have g2 : wr.cell? ⟨w.heap.size + 1, 2, none⟩ = some (.slice (some ad') g.rings.length d) := (blk_cell (blk_below B1.out HBr.out) 2).trans rfl
      have hx := pw_cell_below HBr.out hx0
      have hy := pw_cell_below HBr.out hy0
      have HX := Aside0.mk hx0
      have HY := Aside0.mk hy0
      clear hx0 hy0
      have HN := Aside0.mk (fun (hf : eqR (rdR f.rings k) (rdR g.rings k) = false) => all_upto (F := fun k => eqR (rdR f.rings k) (rdR g.rings k)) HI.out hlt hf)
      have HS := Aside0.mk (fun (ht : eqR (rdR f.rings k) (rdR g.rings k) = true) j (hj : j < k + 1) => show eqR (rdR f.rings j) (rdR g.rings j) = true by
        rcases Nat.lt_succ_iff_lt_or_eq.1 hj with h | rfl
        · exact HI.out j h
        · exact ht)
      have hpl : (rdR f.rings k).length ≤ 9223372036854775807 := by have := hp0.2.1; omega
      have HP := Aside0.mk hp0
      have HQ := Aside0.mk hq0
      clear hp0 hq0
      generalize rdR f.rings k = p at *
      generalize rdR g.rings k = q at *
      have HEP := Aside0.mk (show eqR p q = (decide (p.length = q.length) && (List.range p.length).all fun k => eqP (rdP p k) (rdP q k)) from rfl)
      by_cases hl : p.length = q.length
      · have hl' : ((p.length : Int) != q.length) = false := by simp; omega
        have HEQ := Aside0.mk (show eqR p q = (List.range p.length).all fun k => eqP (rdP p k) (rdP q k) from by rw [HEP.out, decide_eq_true hl]; rfl)
        have HLp := Aside0.mk hl
        clear hl
        go_wp2_with fail
        go_quiet (fail)
        clear f2 g2 hx hy hl'
        go_wp2_with fail
        go_loopw [6] (fun i wr2 => ∃ m : Nat, m ≤ p.length ∧ i = .int .i64 m ∧ Aside0 (∀ j, j < m → eqP (rdP p j) (rdP q j) = true) ∧ Aside0 (Below W.heap.size W wr2)) (fun i _ => p.length - (intOf i).toNat)
        case atStart => exact ⟨0, Nat.zero_le _, rfl, ⟨fun j hj => absurd hj (by omega)⟩, ⟨pw_below_drewN HBr.out _⟩⟩
        case round =>
          obtain ⟨m, hm, rfl, HJ, HBs⟩ := hrel
          have f2 : wr.cell? ⟨w.heap.size, 2, none⟩ = some (.slice (some ad) f.rings.length c) := (blk_cell (blk_below B0.out HBs.out) 2).trans rfl
          have hx := pw_cell_below HBs.out HX.out
          by_cases hlm : m < p.length
          · have g2 : wr.cell? ⟨w.heap.size + 1, 2, none⟩ = some (.slice (some ad') g.rings.length d) := (blk_cell (blk_below B1.out HBs.out) 2).trans rfl
            have hy := pw_cell_below HBs.out HY.out
            obtain ⟨ap, e1, p0, p1⟩ := at_p (Kd.C_below HP.out HBs.out) m hlm
            obtain ⟨aq, e2, q0, q1⟩ := at_p (Kd.C_below HQ.out HBs.out) m (by have := HLp.out; omega)
            subst e1
            subst e2
            have hlmq : (m : Int) < q.length := by have := HLp.out; omega
            have HNp := Aside0.mk (fun (hf : eqP (rdP p m) (rdP q m) = false) => all_upto (F := fun k => eqP (rdP p k) (rdP q k)) HJ.out hlm hf)
            have HSp := Aside0.mk (fun (ht : eqP (rdP p m) (rdP q m) = true) j (hj : j < m + 1) => show eqP (rdP p j) (rdP q j) = true by
              rcases Nat.lt_succ_iff_lt_or_eq.1 hj with h | rfl
              · exact HJ.out j h
              · exact ht)
            generalize rdP p m = s at *
            generalize rdP q m = t at *
            cases he : eqP s t
            · have hev : (s.f0 == t.f0 && s.f1 == t.f1) = false := he
              have HNv := Aside0.mk (HN.out (by rw [HEQ.out, HNp.out he]))
              clear he
              go_wp2_with fail
              go_quiet (fail)
              go_wp2_with fail
              go_ret
              exact ⟨by rw [HV.out, HNv.out]; first | done | rfl, below_then HB.out HB.out.size (pw_below_drewN HBs.out _)⟩
            · have hev : (s.f0 == t.f0 && s.f1 == t.f1) = true := he
              have HSv := Aside0.mk (HSp.out he)
              clear he
              go_wp2_with fail
              go_quiet (fail)
              go_wp2_with fail
              go_roundw
              case rel => exact ⟨m + 1, by omega, by go_num, HSv, ⟨pw_below_drewN HBs.out _⟩⟩
              case measure => simp [intOf]; omega
          · obtain rfl : m = p.length := by omega
            have HSk := Aside0.mk (HS.out (by rw [HEQ.out, all_done HJ.out]))
            go_wp2_with fail
            go_roundw
            case rel => exact ⟨k + 1, by omega, by go_num, HSk, HBs⟩
            case measure => simp [intOf]; omega
      · have hl' : ((p.length : Int) != q.length) = true := by simp; omega
        have HNv := Aside0.mk (HN.out (by rw [HEP.out, decide_eq_false hl]; rfl))
        clear hl
        go_wp2_with fail
        go_quiet (fail)
        go_wp2_with fail
        go_ret
        exact ⟨by rw [HV.out, HNv.out]; first | done | rfl, below_then HB.out HB.out.size (pw_below_drewN HBr.out _)⟩
    · obtain rfl : k = f.rings.length := by omega
      have HD := Aside0.mk (all_done HI.out)
      go_wp2_with fail
      go_ret
      exact ⟨by rw [HV.out, HD.out]; first | done | rfl, below_then HB.out HB.out.size HBr.out⟩
end Go.Proofs.Ytmednnpmkhgfpaa.SH
