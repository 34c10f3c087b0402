/- What shape.Has answers. -/
import Derived.Test.YtmednnpmkhgfpaaShH
namespace Go.Proofs.Ytmednnpmkhgfpaa.SH
open Go Go.RowKit Go.Proofs.YtmednnpmkhgfpaaW.PrintWords Go.Proofs.Ytmednnpmkhgfpaa.PShapes Go.Proofs.Ytmednnpmkhgfpaa.Geo
open Go.Proofs.Ytmednnpmkhgfpaa.GW (pointMay_any)
set_option linter.unusedVariables false
set_option linter.unusedSimpArgs false
attribute [local go_sem high] eqA23

theorem ring_pts {ps : List S23} {least : Int} {closed : Bool} (h : ringB ps least closed = true) : ∀ p ∈ ps, ptP p = true := by
  intro p hp
  obtain ⟨k, hk, rfl⟩ := List.mem_iff_getElem.1 hp
  have := (ring_iff.1 h).2.2 k hk
  unfold okAt at this
  rw [Bool.and_eq_true] at this
  have h1 := this.1
  unfold rdP at h1
  simpa [hk] using h1
theorem may_iff {f : Ft} : mayB f = true ↔ 1 ≤ f.id ∧ f.id ≤ 65535 ∧ 1 ≤ f.rings.length ∧ f.rings.length ≤ 4 ∧
    ((f.shape = 0 ∧ f.rings.length = 1 ∧ (rdR f.rings 0).length = 1 ∧ ptP (rdP (rdR f.rings 0) 0) = true) ∨ (f.shape = 1 ∧ f.rings.length = 1 ∧ ringB (rdR f.rings 0) 2 false = true) ∨ (f.shape = 2 ∧ ∀ ps ∈ f.rings, ringB ps 3 true = true)) := by
  unfold mayB
  simp only [Bool.and_eq_true, decide_eq_true_eq, and_assoc]
  by_cases h0 : f.shape = 0
  · simp [h0, and_assoc]
  · by_cases h1 : f.shape = 1
    · simp [h1]
    · by_cases h2 : f.shape = 2
      · simp [h2]
      · simp [h0, h1, h2]
theorem one_ring {rs : List (List S23)} (h : rs.length = 1) {ps : List S23} (hp : ps ∈ rs) : ps = rdR rs 0 := by
  match rs, h with
  | [x], _ => rw [List.mem_singleton] at hp; exact hp
theorem may_pts {f : Ft} (h : mayB f = true) : MayPts f.rings := by
  obtain ⟨_, _, _, _, ⟨_, hl, h1, hp⟩ | ⟨_, hl, hr⟩ | ⟨_, hr⟩⟩ := may_iff.1 h
  · intro ps hps p hpp
    rw [one_ring hl hps] at hpp
    obtain ⟨k, hk, rfl⟩ := List.mem_iff_getElem.1 hpp
    have : k = 0 := by omega
    subst this
    unfold rdP at hp
    simpa [hk] using hp
  · intro ps hps p hpp
    rw [one_ring hl hps] at hpp
    exact ring_pts hr p hpp
  · intro ps hps p hpp
    exact ring_pts (hr ps hps) p hpp
theorem may_ne {f : Ft} (h : mayB f = true) (h2 : f.shape = 2) : ∀ ps ∈ f.rings, 0 < ps.length := by
  obtain ⟨_, _, _, _, ⟨h0, _⟩ | ⟨h1, _⟩ | ⟨_, hr⟩⟩ := may_iff.1 h
  · omega
  · omega
  · intro ps hps
    have := (ring_iff.1 (hr ps hps)).1
    omega
theorem may_zero {f : Ft} (h : mayB f = true) (h0 : f.shape = 0) : 0 < f.rings.length ∧ 0 < (rdR f.rings 0).length := by
  obtain ⟨_, _, hl, _, ⟨_, _, h1, _⟩ | ⟨h1, _⟩ | ⟨h1, _⟩⟩ := may_iff.1 h
  · omega
  · omega
  · omega
def okE (b : Bool) : Int := if b = true then 0 else 400
def hasV (f : Ft) (p : S23) : Bool := mayB f && ptP p && hasB f p
set_option maxHeartbeats 8000000 in
set_option maxRecDepth 100000 in
theorem Has_any (f : Ft) (A : Option Addr) (c : Nat) (p : S23) (w : World) (h : RC w A f.rings) :
    Calls Try.prog 12 #[.agg #[.int .i64 f.id, .int .i64 f.shape, .slice A f.rings.length c], .agg #[.int .i64 p.f0, .int .i64 p.f1]] w fun e w' => e = .returned (.tuple #[.bool (hasV f p), .int .i64 (okE (mayB f && ptP p))]) ∧ Below w.heap.size w w' := by
  have HR := Aside0.mk h
  clear h
  have b0 := blk_alloc (blk_new w (.cells #[.int .i64 f.id, .int .i64 f.shape, .slice A f.rings.length c] 27)) (.cells #[.int .i64 p.f0, .int .i64 p.f1] 23)
  have b1 := blk_new (w.alloc (.cells #[.int .i64 f.id, .int .i64 f.shape, .slice A f.rings.length c] 27)) (.cells #[.int .i64 p.f0, .int .i64 p.f1] 23)
  simp only [World.size_alloc] at b1
  have hB := below_alloc (below_alloc (Below.refl w.heap.size w) (.cells #[.int .i64 f.id, .int .i64 f.shape, .slice A f.rings.length c] 27)) (.cells #[.int .i64 p.f0, .int .i64 p.f1] 23)
  have HE := Aside0.mk (show hasV f p = (mayB f && ptP p && hasB f p) from rfl)
  have HM := Aside0.mk (fun h => may_pts (f := f) h)
  have HN := Aside0.mk (fun h => may_ne (f := f) h)
  have HZ := Aside0.mk (fun h => may_zero (f := f) h)
  go_enter Try.func12, Try.ntmps12
  go_upto_region 1 with (fail)
  obtain ⟨W, hW⟩ : ∃ W, (w.alloc (.cells #[.int .i64 f.id, .int .i64 f.shape, .slice A f.rings.length c] 27)).alloc (.cells #[.int .i64 p.f0, .int .i64 p.f1] 23) = W := ⟨_, rfl⟩
  rw [hW] at b0 b1 hB ⊢
  clear hW
  have HB := Aside0.mk hB
  have B0 := Aside0.mk b0
  have B1 := Aside0.mk b1
  clear hB
  have f0 : W.cell? ⟨w.heap.size, 0, none⟩ = some (.int .i64 f.id) := (blk_cell b0 0).trans rfl
  have f1 : W.cell? ⟨w.heap.size, 1, none⟩ = some (.int .i64 f.shape) := (blk_cell b0 1).trans rfl
  have f2 : W.cell? ⟨w.heap.size, 2, none⟩ = some (.slice A f.rings.length c) := (blk_cell b0 2).trans rfl
  clear b0 b1
  go_wp2_with fail
  refine (may_any f A c W (Kd.C_below HR.out HB.out)).mono ?_
  rintro e W1 ⟨rfl, hb⟩
  have B2 := Aside0.mk (blk_below B0.out hb)
  have B3 := Aside0.mk (blk_below B1.out hb)
  have HB1 := Aside0.mk (below_then HB.out HB.out.size hb)
  clear hb f0 f1 f2
  cases hm : mayB f
  · have HMf := Aside0.mk hm
    clear hm
    go_wp2_with fail
    go_ret2
    exact ⟨by rw [HE.out, HMf.out]; rfl, HB1.out⟩
  · have HMf := Aside0.mk hm
    clear hm
    have p0 : W1.cell? ⟨w.heap.size + 1, 0, none⟩ = some (.int .i64 p.f0) := (blk_cell B3.out 0).trans rfl
    have p1 : W1.cell? ⟨w.heap.size + 1, 1, none⟩ = some (.int .i64 p.f1) := (blk_cell B3.out 1).trans rfl
    go_wp2_with fail
    refine (pointMay_any p.f0 p.f1 W1).mono ?_
    rintro e W2 ⟨rfl, hb⟩
    have B4 := Aside0.mk (blk_below B2.out hb)
    have B5 := Aside0.mk (blk_below B3.out hb)
    have HB2 := Aside0.mk (below_then HB1.out HB1.out.size hb)
    clear hb p0 p1
    cases hp : ptB p.f0 p.f1
    · have HPf := Aside0.mk (show ptP p = false from hp)
      clear hp
      go_wp2_with fail
      go_ret2
      exact ⟨by rw [HE.out, HMf.out, HPf.out]; rfl, HB2.out⟩
    · have HPf := Aside0.mk (show ptP p = true from hp)
      clear hp
      have p0 : W2.cell? ⟨w.heap.size + 1, 0, none⟩ = some (.int .i64 p.f0) := (blk_cell B5.out 0).trans rfl
      have p1 : W2.cell? ⟨w.heap.size + 1, 1, none⟩ = some (.int .i64 p.f1) := (blk_cell B5.out 1).trans rfl
      go_wp2_with fail
      refine (has_any w.heap.size f A c p W2 ((blk_cell B4.out 0).trans rfl) ((blk_cell B4.out 1).trans rfl) ((blk_cell B4.out 2).trans rfl) (Kd.C_below HR.out HB2.out) (HM.out HMf.out) HPf.out (HN.out HMf.out) (HZ.out HMf.out)).mono ?_
      rintro e W3 ⟨rfl, hb⟩
      have HB3 := Aside0.mk (below_then HB2.out HB2.out.size hb)
      clear hb p0 p1
      go_wp2_with fail
      go_ret2
      exact ⟨by rw [HE.out, HMf.out, HPf.out]; rfl, HB3.out⟩
end Go.Proofs.Ytmednnpmkhgfpaa.SH
