/- What furlonglaw4.square gives; a ring more; what furlonglaw4.awake answers: yes. -/
import Derived.Test.YtmednnpmkhgfpaaShY
import Derived.Test.YtmednnpmkhgfpaaShZ
import Derived.Test.YtmednnpmkhgfpaaShV
namespace Go.Proofs.Ytmednnpmkhgfpaa.SH
open Go Go.RowKit Go.Proofs.YtmednnpmkhgfpaaW.PrintWords Go.Proofs.YtmednnpmkhgfpaaW.PrintLast Go.Proofs.YtmednnpmkhgfpaaW.PrintMore Go.Proofs.Ytmednnpmkhgfpaa.PShapes Go.Proofs.Ytmednnpmkhgfpaa.Geo
set_option linter.unusedVariables false
set_option linter.unusedSimpArgs false
attribute [local go_sem high] eqA23

theorem eqA30 (d : Nat) (w : World) (x0 y0 x1 y1 x2 y2 x3 y3 : Int) :
    (Op.equalIn (d + 2) 30 (.agg #[.int .i64 x0, .int .i64 x1, .int .i64 x2, .int .i64 x3]) (.agg #[.int .i64 y0, .int .i64 y1, .int .i64 y2, .int .i64 y3])).run Try.prog w = .ok (x0 == y0 && (x1 == y1 && (x2 == y2 && (x3 == y3)))) w := by
  refine eqA_of Try.underlying30 (by kernel_rfl) ?_
  refine eqf_cons (by rfl) (by go_simp; rfl) (by go_simp; rfl) (by go_simp) ?_
  refine eqf_cons (by rfl) (by go_simp; rfl) (by go_simp; rfl) (by go_simp) ?_
  refine eqf_cons (by rfl) (by go_simp; rfl) (by go_simp; rfl) (by go_simp) ?_
  exact eqf_last (by rfl) (by go_simp; rfl) (by go_simp; rfl) (by go_simp)
attribute [local go_sem high] eqA30
/-- Rings of the call's own, made from base on. -/
abbrev Own4 (w : World) (base : Nat) (ok : Nat → Prop) (v : Value) (rs : List (List S23)) : Prop := Kd.N (Kd.slice 23 k23) 31 w base ok v rs
theorem square_any (id : Int) (b : Bx) (w : World) : Calls Try.prog 11 #[.int .i64 id, .agg #[.int .i64 b.x0, .int .i64 b.y0, .int .i64 b.x1, .int .i64 b.y1]] w fun e w' => ∃ A c, e = .returned (.agg #[.int .i64 id, .int .i64 2, .slice A 1 c]) ∧ Own4 w' w.heap.size (fun k => w.heap.size ≤ k) (.slice A 1 c) [sq b] ∧ Below w.heap.size w w' := by
  refine (furlonglaw4_square.calls id b.x0 b.y0 b.x1 b.y1 id 2 [sq b] w rfl).mono ?_
  rintro e w' ⟨v, rfl, hN, hb⟩
  obtain ⟨A, c, rfl⟩ := Kd.N_slice hN
  exact ⟨A, c, rfl, hN, hb⟩
theorem Own4.reads {w : World} {base : Nat} {ok : Nat → Prop} {A : Option Addr} {n c : Nat} {rs : List (List S23)} (h : Own4 w base ok (.slice A n c) rs) : RC w A rs ∧ n = rs.length ∧ n ≤ c := by
  obtain ⟨h1, h2, h3⟩ := Kd.N_reads' h
  exact ⟨h3, h1, h2⟩
theorem num_any (x : Int) (w : World) : Calls Try.prog 13 #[.int .i64 x] w fun e w' => e = .returned (.int .i64 x) ∧ w' = w := by
  go_enter Try.func13, Try.ntmps13
  go_wp2
  go_ret
  exact ⟨rfl, rfl⟩
theorem pc_block {W : World} {g : Nat} {cs : Array Value} {t : TypeId} {ps : List S23} (h : W.heap[g]? = some (.cells cs t (0, 0))) (hl : ps.length ≤ 9223372036854775807) (hc : ∀ j, j < ps.length → cs[j * 2]? = some (.int .i64 (rdP ps j).f0) ∧ cs[j * 2 + 1]? = some (.int .i64 (rdP ps j).f1)) : PC W (some ⟨g, 0, none⟩) ps := by
  refine ⟨rfl, hl, fun _ => ⟨⟨g, 0, none⟩, rfl, fun j p hp => ⟨[.int .i64 p.f0, .int .i64 p.f1], rfl, k23_mk W p, fun i u hu => ?_⟩⟩⟩
  have hj := (List.getElem?_eq_some_iff.1 hp).1
  have e : p = rdP ps j := by unfold rdP; rw [List.getD_eq_getElem?_getD, hp]; rfl
  obtain ⟨h0, h1⟩ := hc j hj
  rw [← e] at h0 h1
  have hi : i = 0 ∨ i = 1 := by
    have := (List.getElem?_eq_some_iff.1 hu).1
    simp at this
    omega
  have hk : ∀ k v, cs[k]? = some v → W.cell? ((⟨g, 0, none⟩ : Addr).add k) = some v := fun k v hv => by
    rw [add_at, Nat.zero_add]
    exact (blk_cell h k).trans hv
  rcases hi with rfl | rfl
  · cases hu; exact hk _ _ h0
  · cases hu; exact hk _ _ h1
/-- a ring that lies in a block of its own -/
theorem fk_block {W : World} {g : Nat} {cs : Array Value} {t : TypeId} {ps : List S23} {c : Nat} (h : W.heap[g]? = some (.cells cs t (0, 0))) (hl : ps.length ≤ 9223372036854775807) (hcap : ps.length ≤ c) (hc : ∀ j, j < ps.length → cs[j * 2]? = some (.int .i64 (rdP ps j).f0) ∧ cs[j * 2 + 1]? = some (.int .i64 (rdP ps j).f1)) :
    Kd.FK (Kd.slice 23 k23) W (fun k => k = g) ps [.slice (some ⟨g, 0, none⟩) ps.length c] :=
  Kd.FK_slice_mk hcap fun W' hW => pc_block ((hW g rfl (blk_lt h)).trans h) hl hc
def tri : List S23 := [⟨12, 12⟩, ⟨18, 12⟩, ⟨15, 18⟩]
def fAw : Ft := ⟨7, 2, [sq ⟨10, 10, 20, 20⟩, tri]⟩
theorem aw_may : mayB fAw = true := by kernel_rfl
theorem aw_box : boxV fAw = ⟨10, 10, 20, 20⟩ := by kernel_rfl
theorem aw_has1 : hasV fAw ⟨11, 15⟩ = true := by kernel_rfl
theorem aw_has2 : hasV fAw ⟨15, 14⟩ = false := by kernel_rfl
theorem aw_has3 : hasV fAw ⟨15, 12⟩ = true := by kernel_rfl
theorem aw_meets1 : meetsV fAw ⟨15, 13, 15, 14⟩ = false := by kernel_rfl
theorem aw_meets2 : meetsV fAw ⟨0, 0, 30, 30⟩ = true := by kernel_rfl
theorem aw_zero : mayB ⟨0, 0, []⟩ = false := by kernel_rfl
theorem aw_nil : mayB ⟨1, 0, [[]]⟩ = false := by kernel_rfl
theorem aw_same : sameB fAw fAw = true := by kernel_rfl
theorem box_aw (A : Option Addr) (c : Nat) (w : World) (h : RC w A fAw.rings) : Calls Try.prog 17 #[.agg #[.int .i64 7, .int .i64 2, .slice A 2 c]] w fun e w' => e = .returned (.tuple #[.agg #[.int .i64 10, .int .i64 10, .int .i64 20, .int .i64 20], .int .i64 0]) ∧ Below w.heap.size w w' := by
  have h2 := Box_any fAw A c w h
  rw [aw_box, aw_may] at h2
  exact h2
theorem aw_ok (p : S23) (hp : ptP p = true) : (mayB fAw && ptP p) = true := by rw [aw_may, hp]; rfl
theorem aw_okB (b : Bx) (hb : bxMay b = true) : (mayB fAw && bxMay b) = true := by rw [aw_may, hb]; rfl
theorem has_aw1 (A : Option Addr) (c : Nat) (w : World) (h : RC w A fAw.rings) : Calls Try.prog 12 #[.agg #[.int .i64 7, .int .i64 2, .slice A 2 c], .agg #[.int .i64 11, .int .i64 15]] w fun e w' => e = .returned (.tuple #[.bool true, .int .i64 0]) ∧ Below w.heap.size w w' := by
  have h2 := Has_any fAw A c ⟨11, 15⟩ w h
  rw [aw_has1, aw_ok _ (by kernel_rfl)] at h2
  exact h2
theorem has_aw2 (A : Option Addr) (c : Nat) (w : World) (h : RC w A fAw.rings) : Calls Try.prog 12 #[.agg #[.int .i64 7, .int .i64 2, .slice A 2 c], .agg #[.int .i64 15, .int .i64 14]] w fun e w' => e = .returned (.tuple #[.bool false, .int .i64 0]) ∧ Below w.heap.size w w' := by
  have h2 := Has_any fAw A c ⟨15, 14⟩ w h
  rw [aw_has2, aw_ok _ (by kernel_rfl)] at h2
  exact h2
theorem has_aw3 (A : Option Addr) (c : Nat) (w : World) (h : RC w A fAw.rings) : Calls Try.prog 12 #[.agg #[.int .i64 7, .int .i64 2, .slice A 2 c], .agg #[.int .i64 15, .int .i64 12]] w fun e w' => e = .returned (.tuple #[.bool true, .int .i64 0]) ∧ Below w.heap.size w w' := by
  have h2 := Has_any fAw A c ⟨15, 12⟩ w h
  rw [aw_has3, aw_ok _ (by kernel_rfl)] at h2
  exact h2
theorem meets_aw1 (A : Option Addr) (c : Nat) (w : World) (h : RC w A fAw.rings) : Calls Try.prog 15 #[.agg #[.int .i64 7, .int .i64 2, .slice A 2 c], .agg #[.int .i64 15, .int .i64 13, .int .i64 15, .int .i64 14]] w fun e w' => e = .returned (.tuple #[.bool false, .int .i64 0]) ∧ Below w.heap.size w w' := by
  have h2 := Meets_any fAw A c ⟨15, 13, 15, 14⟩ w h
  rw [aw_meets1, aw_okB _ (by kernel_rfl)] at h2
  exact h2
theorem meets_aw2 (A : Option Addr) (c : Nat) (w : World) (h : RC w A fAw.rings) : Calls Try.prog 15 #[.agg #[.int .i64 7, .int .i64 2, .slice A 2 c], .agg #[.int .i64 0, .int .i64 0, .int .i64 30, .int .i64 30]] w fun e w' => e = .returned (.tuple #[.bool true, .int .i64 0]) ∧ Below w.heap.size w w' := by
  have h2 := Meets_any fAw A c ⟨0, 0, 30, 30⟩ w h
  rw [aw_meets2, aw_okB _ (by kernel_rfl)] at h2
  exact h2
theorem may_aw (A : Option Addr) (c : Nat) (w : World) (h : RC w A fAw.rings) : Calls Try.prog 14 #[.agg #[.int .i64 7, .int .i64 2, .slice A 2 c]] w fun e w' => e = .returned (.bool true) ∧ Below w.heap.size w w' := by
  have h2 := may_any fAw A c w h
  rw [aw_may] at h2
  exact h2
theorem same_aw (A : Option Addr) (c : Nat) (w : World) (h : RC w A fAw.rings) : Calls Try.prog 22 #[.agg #[.int .i64 7, .int .i64 2, .slice A 2 c], .agg #[.int .i64 7, .int .i64 2, .slice A 2 c]] w fun e w' => e = .returned (.bool true) ∧ Below w.heap.size w w' := by
  have h2 := Same_any fAw A c fAw A c w h h
  rw [aw_same] at h2
  exact h2
theorem rc_nil (w : World) : RC w none [] := ⟨rfl, Nat.zero_le _, fun h => absurd h (Nat.lt_irrefl _)⟩
theorem pc_nil (w : World) : PC w none [] := ⟨rfl, Nat.zero_le _, fun h => absurd h (Nat.lt_irrefl _)⟩
theorem box_zero (w : World) : Calls Try.prog 17 #[.agg #[.int .i64 0, .int .i64 0, .slice none 0 0]] w fun e w' => e = .returned (.tuple #[.agg #[.int .i64 0, .int .i64 0, .int .i64 0, .int .i64 0], .int .i64 400]) ∧ Below w.heap.size w w' := by
  have h2 := Box_any ⟨0, 0, []⟩ none 0 w (rc_nil w)
  rw [show boxV ⟨0, 0, []⟩ = zB by kernel_rfl, aw_zero] at h2
  exact h2
theorem may_nil (g : Nat) (w : World) (h : w.heap[g]? = some (.cells #[.slice none 0 0] 31 (0, 0))) : Calls Try.prog 14 #[.agg #[.int .i64 1, .int .i64 0, .slice (some ⟨g, 0, none⟩) 1 1]] w fun e w' => e = .returned (.bool false) ∧ Below w.heap.size w w' := by
  have hr : RC w (some ⟨g, 0, none⟩) [[]] := ⟨rfl, by show (1 : Nat) ≤ _; omega, fun _ => ⟨⟨g, 0, none⟩, rfl, fun j p hp => by
    have hj : j = 0 := by have := (List.getElem?_eq_some_iff.1 hp).1; simp at this; exact this
    subst hj
    cases hp
    refine ⟨[.slice none 0 0], rfl, ⟨none, 0, rfl, Nat.le_refl _, pc_nil w⟩, fun i u hu => ?_⟩
    have hi : i = 0 := by have := (List.getElem?_eq_some_iff.1 hu).1; simp at this; exact this
    subst hi
    cases hu
    exact (blk_cell h 0).trans rfl⟩⟩
  have h2 := may_any ⟨1, 0, [[]]⟩ (some ⟨g, 0, none⟩) 1 w hr
  rw [aw_nil] at h2
  exact h2
set_option maxHeartbeats 8000000 in
set_option maxRecDepth 100000 in
theorem awake_any (w : World) : Calls Try.prog 10 #[] w fun e w' => e = .returned (.bool true) ∧ Below w.heap.size w w' := by
  go_enter Try.func10, Try.ntmps10
  go_wp2_with fail
  refine (square_any 7 ⟨10, 10, 20, 20⟩ w).mono ?_
  rintro e w1 ⟨A0, c0, rfl, hN, hb⟩
  have HB1 := Aside0.mk hb
  have HN := Aside0.mk hN
  have hle := hb.size
  clear hb hN
  have HX := Aside0.mk (blk_new w1 (.cells #[.int .i64 7, .int .i64 2, .slice A0 1 c0] 27))
  have HT := Aside0.mk (show ((w1.alloc (.cells #[.int .i64 7, .int .i64 2, .slice A0 1 c0] 27)).alloc (.cells #[.int .i64 12, .int .i64 12, .int .i64 18, .int .i64 12, .int .i64 15, .int .i64 18] 23)).heap[w1.heap.size + 1]? = some (.cells #[.int .i64 12, .int .i64 12, .int .i64 18, .int .i64 12, .int .i64 15, .int .i64 18] 23 (0, 0)) by
    have := blk_new (w1.alloc (.cells #[.int .i64 7, .int .i64 2, .slice A0 1 c0] 27)) (.cells #[.int .i64 12, .int .i64 12, .int .i64 18, .int .i64 12, .int .i64 15, .int .i64 18] 23)
    rwa [World.size_alloc] at this)
  have HFk := Aside0.mk (fk_block (ps := tri) (c := 3) HT.out (by show (3 : Nat) ≤ _; omega) (Nat.le_refl 3) (fun j hj => by
    have hj3 : j < 3 := hj
    have h3 : j = 0 ∨ j = 1 ∨ j = 2 := by omega
    rcases h3 with rfl | rfl | rfl <;> exact ⟨rfl, rfl⟩))
  have HOl := Aside0.mk (Kd.N_alloc (Kd.N_alloc (Kd.N_elderB HN.out w1.heap.size (Nat.le_refl _)) (.cells #[.int .i64 7, .int .i64 2, .slice A0 1 c0] 27)) (.cells #[.int .i64 12, .int .i64 12, .int .i64 18, .int .i64 12, .int .i64 15, .int .i64 18] 23))
  have HBl := Aside0.mk (below_alloc (below_alloc HB1.out (.cells #[.int .i64 7, .int .i64 2, .slice A0 1 c0] 27)) (.cells #[.int .i64 12, .int .i64 12, .int .i64 18, .int .i64 12, .int .i64 15, .int .i64 18] 23))
  have HLt := Aside0.mk (Kd.N_lt HN.out)
  have HX2 := Aside0.mk (blk_alloc HX.out (.cells #[.int .i64 12, .int .i64 12, .int .i64 18, .int .i64 12, .int .i64 15, .int .i64 18] 23))
  go_wp2_with ((with_reducible refine gate_builtin (b := .append) (xs := #[.tmp 19, .tmp 24]) rfl ?_); go_must (change wpList _ _ _ _ _ (((w1.alloc (.cells #[.int .i64 7, .int .i64 2, .slice A0 1 c0] 27)).alloc (.cells #[.int .i64 12, .int .i64 12, .int .i64 18, .int .i64 12, .int .i64 15, .int .i64 18] 23)).alloc (.cells #[.slice (some ⟨w1.heap.size + 1, 0, none⟩) 3 3] 31)); refine Kd.N_append (Kd.slice 23 k23) (w0 := w) w.heap.size rfl (.tmp 19) (.tmp 24) 25 31 (.slice none 0 0) 24 rfl Try.underlying25 info31 rfl (by decide) (by omega) (.slice A0 1 c0) [sq ⟨10, 10, 20, 20⟩] tri [.slice (some ⟨w1.heap.size + 1, 0, none⟩) 3 3] (fun k => w.heap.size ≤ k ∧ k ≠ w1.heap.size) (fun k => k = w1.heap.size + 1) rfl (by simp [go_sem]) HFk.out (fun k hk => ⟨⟨by omega, by omega⟩, fun e => by have := HLt.out k e.symm; omega⟩) (fun k hk => by simp only [World.size_alloc] at hk; omega) HOl.out HBl.out HBl.out.size (by decide) ?_; intro v2 w2 hN2 hb2 hg hat; obtain ⟨A, c, rfl⟩ := Kd.N_slice hN2; have HN2 := Aside0.mk hN2; have HB2 := Aside0.mk hb2; have hF2 := blk_grown HX2.out hg (fun e => Nat.lt_irrefl _ (HLt.out _ e.symm)); clear hN2 hb2 hg hat; have q0 : w2.cell? ⟨w1.heap.size, 0, none⟩ = some (.int .i64 7) := (blk_cell hF2 0).trans rfl; have q1 : w2.cell? ⟨w1.heap.size, 1, none⟩ = some (.int .i64 2) := (blk_cell hF2 1).trans rfl; have q2 : w2.cell? ⟨w1.heap.size, 2, none⟩ = some (.slice A0 1 c0) := (blk_cell hF2 2).trans rfl; have qf := blk_frozen hF2 2; have ql := blk_lt hF2; have HF2 := Aside0.mk hF2; clear hF2))
  obtain ⟨fb, hfb⟩ : ∃ fb, w1.heap.size = fb := ⟨_, rfl⟩
  have HF := Aside0.mk (blk_put HF2.out 2 (.slice A 2 c) rfl)
  have HO3 := Aside0.mk (Kd.N_far (p := ⟨w1.heap.size, 2, none⟩) HN2.out (fun _ hk => hk.2) (.slice A 2 c))
  have HC := Aside0.mk (Own4.reads HO3.out).1
  have HB := Aside0.mk (HB2.out.setCell (p := ⟨w1.heap.size, 2, none⟩) (by show w.heap.size ≤ w1.heap.size; exact hle) (.slice A 2 c))
  clear HN HX HT HFk HOl HBl HLt HX2 HN2 HB2 HF2 HO3 q0 q1 q2 qf ql HB1
  rw [hfb] at *
  generalize w2.setCell ⟨fb, 2, none⟩ (.slice A 2 c) = W3 at *
  change Aside0 (W3.heap[fb]? = some (.cells #[.int .i64 7, .int .i64 2, .slice A 2 c] 27 (0, 0))) at HF
  change Aside0 (RC W3 A fAw.rings) at HC
  clear hfb
  refine (box_aw A c W3 HC.out).mono ?_
  rintro e W4 ⟨rfl, hb⟩
  replace HF := Aside0.mk (blk_below HF.out hb)
  replace HC := Aside0.mk (Kd.C_below HC.out hb)
  replace HB := Aside0.mk (below_then HB.out HB.out.size hb)
  clear hb
  have f0 : W4.cell? ⟨fb, 0, none⟩ = some (.int .i64 7) := (blk_cell HF.out 0).trans rfl
  have f1 : W4.cell? ⟨fb, 1, none⟩ = some (.int .i64 2) := (blk_cell HF.out 1).trans rfl
  have f2 : W4.cell? ⟨fb, 2, none⟩ = some (.slice A 2 c) := (blk_cell HF.out 2).trans rfl
  have fl := blk_lt HF.out
  go_wp2_with fail
  clear f0 f1 f2 fl
  have HG := Aside0.mk (blk_new W4 (.cells #[.int .i64 10, .int .i64 10, .int .i64 20, .int .i64 20] 30))
  replace HF := Aside0.mk (blk_alloc HF.out (.cells #[.int .i64 10, .int .i64 10, .int .i64 20, .int .i64 20] 30))
  replace HC := Aside0.mk (Kd.C_below HC.out (below_alloc (Below.refl _ _) (.cells #[.int .i64 10, .int .i64 10, .int .i64 20, .int .i64 20] 30)))
  replace HB := Aside0.mk (below_alloc HB.out (.cells #[.int .i64 10, .int .i64 10, .int .i64 20, .int .i64 20] 30))
  generalize W4.alloc (.cells #[.int .i64 10, .int .i64 10, .int .i64 20, .int .i64 20] 30) = W5 at *
  generalize W4.heap.size = gb at *
  refine (has_aw1 A c _ HC.out).mono ?_
  rintro e W6 ⟨rfl, hb⟩
  replace HF := Aside0.mk (blk_below HF.out hb)
  replace HG := Aside0.mk (blk_below HG.out hb)
  replace HC := Aside0.mk (Kd.C_below HC.out hb)
  replace HB := Aside0.mk (below_then HB.out HB.out.size hb)
  clear hb
  have f0 : W6.cell? ⟨fb, 0, none⟩ = some (.int .i64 7) := (blk_cell HF.out 0).trans rfl
  have f1 : W6.cell? ⟨fb, 1, none⟩ = some (.int .i64 2) := (blk_cell HF.out 1).trans rfl
  have f2 : W6.cell? ⟨fb, 2, none⟩ = some (.slice A 2 c) := (blk_cell HF.out 2).trans rfl
  have fl := blk_lt HF.out
  have g0 : W6.cell? ⟨gb, 0, none⟩ = some (.int .i64 10) := (blk_cell HG.out 0).trans rfl
  have g1 : W6.cell? ⟨gb, 1, none⟩ = some (.int .i64 10) := (blk_cell HG.out 1).trans rfl
  have g2 : W6.cell? ⟨gb, 2, none⟩ = some (.int .i64 20) := (blk_cell HG.out 2).trans rfl
  have g3 : W6.cell? ⟨gb, 3, none⟩ = some (.int .i64 20) := (blk_cell HG.out 3).trans rfl
  have gl := blk_lt HG.out
  go_wp2_with fail
  clear f0 f1 f2 fl g0 g1 g2 g3 gl
  refine (has_aw2 A c _ HC.out).mono ?_
  rintro e W7 ⟨rfl, hb⟩
  replace HF := Aside0.mk (blk_below HF.out hb)
  replace HG := Aside0.mk (blk_below HG.out hb)
  replace HC := Aside0.mk (Kd.C_below HC.out hb)
  replace HB := Aside0.mk (below_then HB.out HB.out.size hb)
  clear hb
  have f0 : W7.cell? ⟨fb, 0, none⟩ = some (.int .i64 7) := (blk_cell HF.out 0).trans rfl
  have f1 : W7.cell? ⟨fb, 1, none⟩ = some (.int .i64 2) := (blk_cell HF.out 1).trans rfl
  have f2 : W7.cell? ⟨fb, 2, none⟩ = some (.slice A 2 c) := (blk_cell HF.out 2).trans rfl
  have fl := blk_lt HF.out
  have g0 : W7.cell? ⟨gb, 0, none⟩ = some (.int .i64 10) := (blk_cell HG.out 0).trans rfl
  have g1 : W7.cell? ⟨gb, 1, none⟩ = some (.int .i64 10) := (blk_cell HG.out 1).trans rfl
  have g2 : W7.cell? ⟨gb, 2, none⟩ = some (.int .i64 20) := (blk_cell HG.out 2).trans rfl
  have g3 : W7.cell? ⟨gb, 3, none⟩ = some (.int .i64 20) := (blk_cell HG.out 3).trans rfl
  have gl := blk_lt HG.out
  go_wp2_with fail
  clear f0 f1 f2 fl g0 g1 g2 g3 gl
  refine (has_aw3 A c _ HC.out).mono ?_
  rintro e W8 ⟨rfl, hb⟩
  replace HF := Aside0.mk (blk_below HF.out hb)
  replace HG := Aside0.mk (blk_below HG.out hb)
  replace HC := Aside0.mk (Kd.C_below HC.out hb)
  replace HB := Aside0.mk (below_then HB.out HB.out.size hb)
  clear hb
  have f0 : W8.cell? ⟨fb, 0, none⟩ = some (.int .i64 7) := (blk_cell HF.out 0).trans rfl
  have f1 : W8.cell? ⟨fb, 1, none⟩ = some (.int .i64 2) := (blk_cell HF.out 1).trans rfl
  have f2 : W8.cell? ⟨fb, 2, none⟩ = some (.slice A 2 c) := (blk_cell HF.out 2).trans rfl
  have fl := blk_lt HF.out
  have g0 : W8.cell? ⟨gb, 0, none⟩ = some (.int .i64 10) := (blk_cell HG.out 0).trans rfl
  have g1 : W8.cell? ⟨gb, 1, none⟩ = some (.int .i64 10) := (blk_cell HG.out 1).trans rfl
  have g2 : W8.cell? ⟨gb, 2, none⟩ = some (.int .i64 20) := (blk_cell HG.out 2).trans rfl
  have g3 : W8.cell? ⟨gb, 3, none⟩ = some (.int .i64 20) := (blk_cell HG.out 3).trans rfl
  have gl := blk_lt HG.out
  go_wp2_with fail
  clear f0 f1 f2 fl g0 g1 g2 g3 gl
  refine (meets_aw1 A c _ HC.out).mono ?_
  rintro e W9 ⟨rfl, hb⟩
  replace HF := Aside0.mk (blk_below HF.out hb)
  replace HG := Aside0.mk (blk_below HG.out hb)
  replace HC := Aside0.mk (Kd.C_below HC.out hb)
  replace HB := Aside0.mk (below_then HB.out HB.out.size hb)
  clear hb
  have f0 : W9.cell? ⟨fb, 0, none⟩ = some (.int .i64 7) := (blk_cell HF.out 0).trans rfl
  have f1 : W9.cell? ⟨fb, 1, none⟩ = some (.int .i64 2) := (blk_cell HF.out 1).trans rfl
  have f2 : W9.cell? ⟨fb, 2, none⟩ = some (.slice A 2 c) := (blk_cell HF.out 2).trans rfl
  have fl := blk_lt HF.out
  have g0 : W9.cell? ⟨gb, 0, none⟩ = some (.int .i64 10) := (blk_cell HG.out 0).trans rfl
  have g1 : W9.cell? ⟨gb, 1, none⟩ = some (.int .i64 10) := (blk_cell HG.out 1).trans rfl
  have g2 : W9.cell? ⟨gb, 2, none⟩ = some (.int .i64 20) := (blk_cell HG.out 2).trans rfl
  have g3 : W9.cell? ⟨gb, 3, none⟩ = some (.int .i64 20) := (blk_cell HG.out 3).trans rfl
  have gl := blk_lt HG.out
  go_wp2_with fail
  clear f0 f1 f2 fl g0 g1 g2 g3 gl
  refine (meets_aw2 A c _ HC.out).mono ?_
  rintro e W10 ⟨rfl, hb⟩
  replace HF := Aside0.mk (blk_below HF.out hb)
  replace HG := Aside0.mk (blk_below HG.out hb)
  replace HC := Aside0.mk (Kd.C_below HC.out hb)
  replace HB := Aside0.mk (below_then HB.out HB.out.size hb)
  clear hb
  have f0 : W10.cell? ⟨fb, 0, none⟩ = some (.int .i64 7) := (blk_cell HF.out 0).trans rfl
  have f1 : W10.cell? ⟨fb, 1, none⟩ = some (.int .i64 2) := (blk_cell HF.out 1).trans rfl
  have f2 : W10.cell? ⟨fb, 2, none⟩ = some (.slice A 2 c) := (blk_cell HF.out 2).trans rfl
  have fl := blk_lt HF.out
  have g0 : W10.cell? ⟨gb, 0, none⟩ = some (.int .i64 10) := (blk_cell HG.out 0).trans rfl
  have g1 : W10.cell? ⟨gb, 1, none⟩ = some (.int .i64 10) := (blk_cell HG.out 1).trans rfl
  have g2 : W10.cell? ⟨gb, 2, none⟩ = some (.int .i64 20) := (blk_cell HG.out 2).trans rfl
  have g3 : W10.cell? ⟨gb, 3, none⟩ = some (.int .i64 20) := (blk_cell HG.out 3).trans rfl
  have gl := blk_lt HG.out
  go_wp2_with fail
  clear f0 f1 f2 fl g0 g1 g2 g3 gl
  refine (box_zero _).mono ?_
  rintro e W11 ⟨rfl, hb⟩
  replace HF := Aside0.mk (blk_below HF.out hb)
  replace HG := Aside0.mk (blk_below HG.out hb)
  replace HC := Aside0.mk (Kd.C_below HC.out hb)
  replace HB := Aside0.mk (below_then HB.out HB.out.size hb)
  clear hb
  have f0 : W11.cell? ⟨fb, 0, none⟩ = some (.int .i64 7) := (blk_cell HF.out 0).trans rfl
  have f1 : W11.cell? ⟨fb, 1, none⟩ = some (.int .i64 2) := (blk_cell HF.out 1).trans rfl
  have f2 : W11.cell? ⟨fb, 2, none⟩ = some (.slice A 2 c) := (blk_cell HF.out 2).trans rfl
  have fl := blk_lt HF.out
  have g0 : W11.cell? ⟨gb, 0, none⟩ = some (.int .i64 10) := (blk_cell HG.out 0).trans rfl
  have g1 : W11.cell? ⟨gb, 1, none⟩ = some (.int .i64 10) := (blk_cell HG.out 1).trans rfl
  have g2 : W11.cell? ⟨gb, 2, none⟩ = some (.int .i64 20) := (blk_cell HG.out 2).trans rfl
  have g3 : W11.cell? ⟨gb, 3, none⟩ = some (.int .i64 20) := (blk_cell HG.out 3).trans rfl
  have gl := blk_lt HG.out
  go_wp2_with ((go_at_call 13; refine (num_any _ _).mono ?_; rintro e w' ⟨rfl, rfl⟩))
  clear f0 f1 f2 fl g0 g1 g2 g3 gl
  replace HF := Aside0.mk (blk_alloc HF.out (.cells #[.int .i64 0, .int .i64 0, .int .i64 0, .int .i64 0] 30))
  replace HG := Aside0.mk (blk_alloc HG.out (.cells #[.int .i64 0, .int .i64 0, .int .i64 0, .int .i64 0] 30))
  replace HC := Aside0.mk (Kd.C_below HC.out (below_alloc (Below.refl _ _) (.cells #[.int .i64 0, .int .i64 0, .int .i64 0, .int .i64 0] 30)))
  replace HB := Aside0.mk (below_alloc HB.out (.cells #[.int .i64 0, .int .i64 0, .int .i64 0, .int .i64 0] 30))
  generalize W11.alloc (.cells #[.int .i64 0, .int .i64 0, .int .i64 0, .int .i64 0] 30) = V at *
  refine (may_aw A c _ HC.out).mono ?_
  rintro e W12 ⟨rfl, hb⟩
  replace HF := Aside0.mk (blk_below HF.out hb)
  replace HG := Aside0.mk (blk_below HG.out hb)
  replace HC := Aside0.mk (Kd.C_below HC.out hb)
  replace HB := Aside0.mk (below_then HB.out HB.out.size hb)
  clear hb
  have f0 : W12.cell? ⟨fb, 0, none⟩ = some (.int .i64 7) := (blk_cell HF.out 0).trans rfl
  have f1 : W12.cell? ⟨fb, 1, none⟩ = some (.int .i64 2) := (blk_cell HF.out 1).trans rfl
  have f2 : W12.cell? ⟨fb, 2, none⟩ = some (.slice A 2 c) := (blk_cell HF.out 2).trans rfl
  have fl := blk_lt HF.out
  have g0 : W12.cell? ⟨gb, 0, none⟩ = some (.int .i64 10) := (blk_cell HG.out 0).trans rfl
  have g1 : W12.cell? ⟨gb, 1, none⟩ = some (.int .i64 10) := (blk_cell HG.out 1).trans rfl
  have g2 : W12.cell? ⟨gb, 2, none⟩ = some (.int .i64 20) := (blk_cell HG.out 2).trans rfl
  have g3 : W12.cell? ⟨gb, 3, none⟩ = some (.int .i64 20) := (blk_cell HG.out 3).trans rfl
  have gl := blk_lt HG.out
  go_wp2_with fail
  clear f0 f1 f2 fl g0 g1 g2 g3 gl
  refine (same_aw A c _ HC.out).mono ?_
  rintro e W13 ⟨rfl, hb⟩
  replace HF := Aside0.mk (blk_below HF.out hb)
  replace HG := Aside0.mk (blk_below HG.out hb)
  replace HC := Aside0.mk (Kd.C_below HC.out hb)
  replace HB := Aside0.mk (below_then HB.out HB.out.size hb)
  clear hb
  have f0 : W13.cell? ⟨fb, 0, none⟩ = some (.int .i64 7) := (blk_cell HF.out 0).trans rfl
  have f1 : W13.cell? ⟨fb, 1, none⟩ = some (.int .i64 2) := (blk_cell HF.out 1).trans rfl
  have f2 : W13.cell? ⟨fb, 2, none⟩ = some (.slice A 2 c) := (blk_cell HF.out 2).trans rfl
  have fl := blk_lt HF.out
  have g0 : W13.cell? ⟨gb, 0, none⟩ = some (.int .i64 10) := (blk_cell HG.out 0).trans rfl
  have g1 : W13.cell? ⟨gb, 1, none⟩ = some (.int .i64 10) := (blk_cell HG.out 1).trans rfl
  have g2 : W13.cell? ⟨gb, 2, none⟩ = some (.int .i64 20) := (blk_cell HG.out 2).trans rfl
  have g3 : W13.cell? ⟨gb, 3, none⟩ = some (.int .i64 20) := (blk_cell HG.out 3).trans rfl
  have gl := blk_lt HG.out
  go_wp2_with fail
  clear f0 f1 f2 fl g0 g1 g2 g3 gl
  refine (may_nil W13.heap.size _ (blk_new W13 _)).mono ?_
  rintro e Y ⟨rfl, hb⟩
  have HZ := Aside0.mk (below_then (below_alloc HB.out (.cells #[.slice none 0 0] 31)) (below_alloc HB.out (.cells #[.slice none 0 0] 31)).size hb)
  clear hb
  go_wp2_with fail
  go_ret
  exact ⟨rfl, HZ.out⟩
end Go.Proofs.Ytmednnpmkhgfpaa.SH
