/- What furlonglaw4.ShapeTurned answers: yes. -/
import Derived.Test.YtmednnpmkhgfpaaShAw
import Derived.Test.YtmednnpmkhgfpaaShU
namespace Go.Proofs.Ytmednnpmkhgfpaa.SH
open Go Go.RowKit Go.Proofs.YtmednnpmkhgfpaaW.PrintWords Go.Proofs.YtmednnpmkhgfpaaW.PrintLast Go.Proofs.YtmednnpmkhgfpaaW.PrintMore Go.Proofs.Ytmednnpmkhgfpaa.PShapes Go.Proofs.Ytmednnpmkhgfpaa.Geo
set_option linter.unusedVariables false
set_option linter.unusedSimpArgs false
attribute [local go_sem high] eqA23 eqA30

/-- the ring's points as far as they are turned -/
def turnP (r : List S23) (c j : Nat) : List S23 := (List.range j).map fun i => rdP r (turnI r.length c i)
theorem turnP_add (r : List S23) (c j : Nat) : turnP r c (j + 1) = turnP r c j ++ [rdP r (turnI r.length c j)] := by unfold turnP; rw [List.range_succ, List.map_append]; rfl
theorem turnP_len (r : List S23) (c j : Nat) : (turnP r c j).length = j := by simp [turnP]
theorem turnP_all (r : List S23) (c : Nat) : turnP r c r.length = turnL r c := rfl
def revT (cOf : Nat → Nat) (rs : List (List S23)) (j : Nat) : List (List S23) := (rs.reverse.take j).map fun r => turnL r (cOf r.length)
theorem revT_len (cOf : Nat → Nat) (rs : List (List S23)) (j : Nat) (h : j ≤ rs.length) : (revT cOf rs j).length = j := by simp [revT]; omega
theorem revT_add (cOf : Nat → Nat) (rs : List (List S23)) (j k : Nat) (h : j + k + 1 = rs.length) : revT cOf rs (j + 1) = revT cOf rs j ++ [turnL (rdR rs k) (cOf (rdR rs k).length)] := by
  unfold revT
  rw [List.take_succ_eq_append_getElem (by simp; omega), List.map_append]
  congr 1
  have e : rs.reverse[j]'(by simp; omega) = rdR rs k := by
    rw [List.getElem_reverse]
    unfold rdR
    have : rs.length - 1 - j = k := by omega
    simp [this, show k < rs.length by omega]
  simp only [List.map_cons, List.map_nil]
  rw [e]
theorem revT_all (cOf : Nat → Nat) (rs : List (List S23)) : revT cOf rs rs.length = turned cOf rs := by
  unfold revT turned
  rw [List.take_of_length_le (by simp)]
/-- rows of points: what they are told by is their own block -/
theorem n_tight {W : World} {base : Nat} {ok : Nat → Prop} {v : Value} {ps : List S23} (h : Kd.N k23 23 W base ok v ps) : Kd.N k23 23 W base (fun k => some k = v.ownBlock) v ps := by
  obtain ⟨h0, rows, hl, hR, hf⟩ := h
  refine ⟨fun k hk => hk.symm, rows, hl, hR, fun j x c hx hc => ?_⟩
  have := k23_open (Kd.FK_now (hf j x c hx hc))
  subst this
  exact k23_mkF _ _ x
/-- from which place a ring of n points begins -/
def cBy (x : Int) (n : Nat) : Nat := ((IntKind.u64.wrap x).tmod n).toNat
theorem cBy_lt (x : Int) (n : Nat) (h : 0 < n) : cBy x n < n ∧ (IntKind.u64.wrap x).tmod n = (cBy x n : Int) := by
  unfold cBy
  have h0 : 0 ≤ IntKind.u64.wrap x := by rw [IntKind.wrap_u64]; omega
  rw [Int.tmod_eq_emod_of_nonneg h0]
  have h1 := Int.emod_nonneg (IntKind.u64.wrap x) (show (n : Int) ≠ 0 by omega)
  have h2 := Int.emod_lt_of_pos (IntKind.u64.wrap x) (show (0 : Int) < n by omega)
  omega
theorem turnI_mod {n c j : Nat} (hc : c < n) (hj : j < n) : ((c : Int) + n - j).tmod n = (turnI n c j : Int) := by
  rw [Int.tmod_eq_emod_of_nonneg (by omega)]
  unfold turnI
  split
  · rename_i h
    rw [show (c : Int) + n - j = ((c - j : Nat) : Int) + n by omega, Int.add_emod_right, Int.emod_eq_of_lt (by omega) (by omega)]
  · rename_i h
    rw [Int.emod_eq_of_lt (by omega) (by omega)]
    omega
theorem small_w {z : Int} (h0 : 0 ≤ z) (h1 : z ≤ 1000) : IntKind.i64.wrap z = z ∧ wrap64 z = z := ⟨IntWalk.i64_in _ ⟨by omega, by omega⟩, by unfold wrap64; omega⟩
theorem turn_words {n cc m ti : Nat} (hn : n ≤ 16) (hc : cc < n) (hm : m < n) (ht : ti < n) :
    IntKind.u64.wrap (n : Int) = n ∧ (IntKind.i64.wrap (cc : Int) = cc ∧ wrap64 (cc : Int) = cc) ∧ (IntKind.i64.wrap ((cc : Int) + n) = (cc : Int) + n ∧ wrap64 ((cc : Int) + n) = (cc : Int) + n) ∧ (IntKind.i64.wrap ((cc : Int) + n - m) = (cc : Int) + n - m ∧ wrap64 ((cc : Int) + n - m) = (cc : Int) + n - m) ∧
    (IntKind.i64.wrap (ti : Int) = ti ∧ wrap64 (ti : Int) = ti) ∧ (n : Int) ≠ 0 ∧ ((n : Int) == 0) = false ∧ (ti : Int) < n ∧ (m : Int) < n ∧ (0 : Int) ≤ ti :=
  ⟨by rw [IntKind.wrap_u64]; omega, small_w (by omega) (by omega), small_w (by omega) (by omega), small_w (by omega) (by omega), small_w (by omega) (by omega), by omega, by simp; omega, by omega, by omega, by omega⟩
/-- between two rings: what is turned so far lies behind the new feature's box -/
structure TI (w1 : World) (id shape : Int) (v : Value) (rs : List (List S23)) (W : World) : Prop where
  box : W.heap[w1.heap.size]? = some (.cells #[.int .i64 id, .int .i64 shape, v] 27 (0, 0))
  own : Own4 W w1.heap.size (fun k => w1.heap.size ≤ k ∧ k ≠ w1.heap.size) v rs
  low : Below w1.heap.size w1 W
/-- between two points -/
structure TJ (w1 : World) (id shape : Int) (v : Value) (rs : List (List S23)) (u : Value) (ps : List S23) (W : World) : Prop where
  box : W.heap[w1.heap.size]? = some (.cells #[.int .i64 id, .int .i64 shape, v] 27 (0, 0))
  own : Own4 W w1.heap.size (fun k => (w1.heap.size ≤ k ∧ k ≠ w1.heap.size) ∧ some k ≠ u.ownBlock) v rs
  pts : Kd.N k23 23 W w1.heap.size (fun k => w1.heap.size ≤ k ∧ k ≠ w1.heap.size) u ps
  low : Below w1.heap.size w1 W
theorem TJ.alloc {w1 : World} {id shape : Int} {v u : Value} {rs : List (List S23)} {ps : List S23} {W : World} (h : TJ w1 id shape v rs u ps W) (o : Obj) : TJ w1 id shape v rs u ps (W.alloc o) :=
  ⟨blk_alloc h.box o, Kd.N_alloc h.own o, Kd.N_alloc h.pts o, below_alloc h.low o⟩
theorem TJ.add {w1 : World} {id shape : Int} {v u u1 : Value} {rs : List (List S23)} {ps ps1 : List S23} {W W1 : World} (h : TJ w1 id shape v rs u ps W) (hN : Kd.N k23 23 W1 w1.heap.size (fun k => w1.heap.size ≤ k ∧ k ≠ w1.heap.size) u1 ps1) (hb : Below w1.heap.size w1 W1) (hg : W.grownBy W1 u.ownBlock) (hat : u1.ownBlock = u.ownBlock ∨ ∃ b, u1.ownBlock = some b ∧ W.heap.size ≤ b) : TJ w1 id shape v rs u1 ps1 W1 :=
  ⟨blk_grown h.box hg (fun e => (h.pts.1 _ e.symm).2 rfl), Kd.N_after h.own hg hat, hN, hb⟩
theorem Has_len (f : Ft) (A : Option Addr) (c : Nat) (p : S23) (n : Nat) (w : World) (hn : n = f.rings.length) (h : RC w A f.rings) :
    Calls Try.prog 12 #[.agg #[.int .i64 f.id, .int .i64 f.shape, .slice A n c], .agg #[.int .i64 p.f0, .int .i64 p.f1]] w fun e w' => e = .returned (.tuple #[.bool (hasV f p), .int .i64 (okE (mayB f && ptP p))]) ∧ Below w.heap.size w w' := by subst hn; exact Has_any f A c p w h
theorem Meets_len (f : Ft) (A : Option Addr) (c : Nat) (b : Bx) (n : Nat) (w : World) (hn : n = f.rings.length) (h : RC w A f.rings) :
    Calls Try.prog 15 #[.agg #[.int .i64 f.id, .int .i64 f.shape, .slice A n c], .agg #[.int .i64 b.x0, .int .i64 b.y0, .int .i64 b.x1, .int .i64 b.y1]] w fun e w' => e = .returned (.tuple #[.bool (meetsV f b), .int .i64 (okE (mayB f && bxMay b))]) ∧ Below w.heap.size w w' := by subst hn; exact Meets_any f A c b w h
theorem May_len (f : Ft) (A : Option Addr) (c n : Nat) (w : World) (hn : n = f.rings.length) (h : RC w A f.rings) :
    Calls Try.prog 14 #[.agg #[.int .i64 f.id, .int .i64 f.shape, .slice A n c]] w fun e w' => e = .returned (.bool (mayB f)) ∧ Below w.heap.size w w' := by subst hn; exact may_any f A c w h
set_option maxHeartbeats 16000000 in
set_option maxRecDepth 100000 in
theorem turned_law (f : Ft) (A : Option Addr) (c : Nat) (x : Int) (p : S23) (b : Bx) (w : World) (h : RC w A f.rings) : Calls Try.prog 4 #[.agg #[.int .i64 f.id, .int .i64 f.shape, .slice A f.rings.length c], .int .i64 x, .agg #[.int .i64 p.f0, .int .i64 p.f1], .agg #[.int .i64 b.x0, .int .i64 b.y0, .int .i64 b.x1, .int .i64 b.y1]] w fun e w' => e = .returned (.bool true) ∧ Below w.heap.size w w' := by
  have h0 := blk_alloc (blk_alloc (blk_new w (.cells #[.int .i64 f.id, .int .i64 f.shape, .slice A f.rings.length c] 27)) (.cells #[.int .i64 p.f0, .int .i64 p.f1] 23)) (.cells #[.int .i64 b.x0, .int .i64 b.y0, .int .i64 b.x1, .int .i64 b.y1] 30)
  have h1 := blk_alloc (blk_new (w.alloc (.cells #[.int .i64 f.id, .int .i64 f.shape, .slice A f.rings.length c] 27)) (.cells #[.int .i64 p.f0, .int .i64 p.f1] 23)) (.cells #[.int .i64 b.x0, .int .i64 b.y0, .int .i64 b.x1, .int .i64 b.y1] 30)
  have h2 := blk_new ((w.alloc (.cells #[.int .i64 f.id, .int .i64 f.shape, .slice A f.rings.length c] 27)).alloc (.cells #[.int .i64 p.f0, .int .i64 p.f1] 23)) (.cells #[.int .i64 b.x0, .int .i64 b.y0, .int .i64 b.x1, .int .i64 b.y1] 30)
  simp only [World.size_alloc] at h1 h2
  have hB := below_alloc (below_alloc (below_alloc (Below.refl w.heap.size w) (.cells #[.int .i64 f.id, .int .i64 f.shape, .slice A f.rings.length c] 27)) (.cells #[.int .i64 p.f0, .int .i64 p.f1] 23)) (.cells #[.int .i64 b.x0, .int .i64 b.y0, .int .i64 b.x1, .int .i64 b.y1] 30)
  have HR := Aside0.mk (Kd.C_below h hB)
  clear h
  go_enter Try.func4, Try.ntmps4
  go_wp2_with fail
  refine (awake_any _).mono ?_
  rintro e w0 ⟨rfl, hb⟩
  have H0 := Aside0.mk (blk_below h0 hb)
  have H1 := Aside0.mk (blk_below h1 hb)
  have H2 := Aside0.mk (blk_below h2 hb)
  have HB := Aside0.mk (below_then hB hB.size hb)
  replace HR := Aside0.mk (Kd.C_below HR.out hb)
  clear hb h0 h1 h2 hB
  have f0 : w0.cell? ⟨w.heap.size, 0, none⟩ = some (.int .i64 f.id) := (blk_cell H0.out 0).trans rfl
  have f1 : w0.cell? ⟨w.heap.size, 1, none⟩ = some (.int .i64 f.shape) := (blk_cell H0.out 1).trans rfl
  have f2 : w0.cell? ⟨w.heap.size, 2, none⟩ = some (.slice A f.rings.length c) := (blk_cell H0.out 2).trans rfl
  by_cases s2 : f.shape = 2
  rotate_left
  · have s2' : (f.shape != 2) = true := by simp [s2]
    clear s2
    go_wp2_with fail
    go_ret
    exact ⟨rfl, HB.out⟩
  have s2' : (f.shape != 2) = false := by simp [s2]
  have HS2 := Aside0.mk s2
  clear s2
  go_wp2_with fail
  clear f0 f1 f2
  refine (may_any f A c w0 HR.out).mono ?_
  rintro e w1 ⟨rfl, hb⟩
  replace H0 := Aside0.mk (blk_below H0.out hb)
  replace H1 := Aside0.mk (blk_below H1.out hb)
  replace H2 := Aside0.mk (blk_below H2.out hb)
  replace HB := Aside0.mk (below_then HB.out HB.out.size hb)
  replace HR := Aside0.mk (Kd.C_below HR.out hb)
  clear hb
  cases hm : mayB f
  · clear hm
    go_wp2_with fail
    go_ret
    exact ⟨rfl, HB.out⟩
  have HM := Aside0.mk hm
  have hfl := (may_iff.1 hm)
  have hrl : 1 ≤ f.rings.length ∧ f.rings.length ≤ 4 := ⟨hfl.2.2.1, hfl.2.2.2.1⟩
  have HRl := Aside0.mk (show ∀ r ∈ f.rings, 3 ≤ r.length ∧ r.length ≤ 16 from by
    rcases hfl.2.2.2.2 with ⟨h0, _⟩ | ⟨h1, _⟩ | ⟨_, hr⟩
    · have := HS2.out; omega
    · have := HS2.out; omega
    · intro r hr'
      have := ring_iff.1 (hr r hr')
      exact ⟨by have := this.1; omega, this.2.1⟩)
  clear hm hfl
  have f0 : w1.cell? ⟨w.heap.size, 0, none⟩ = some (.int .i64 f.id) := (blk_cell H0.out 0).trans rfl
  have f1 : w1.cell? ⟨w.heap.size, 1, none⟩ = some (.int .i64 f.shape) := (blk_cell H0.out 1).trans rfl
  have f2 : w1.cell? ⟨w.heap.size, 2, none⟩ = some (.slice A f.rings.length c) := (blk_cell H0.out 2).trans rfl
  have fl := blk_lt H0.out
  have e1 : IntKind.i64.wrap ((f.rings.length : Int) - 1) = (f.rings.length : Int) - 1 := IntWalk.i64_in _ ⟨by omega, by omega⟩
  have e2 : wrap64 ((f.rings.length : Int) - 1) = (f.rings.length : Int) - 1 := by unfold wrap64; omega
  go_wp2_with fail
  clear f0 f1 f2 fl e1 e2
  have HG0 := Aside0.mk (show TI w1 f.id f.shape (.slice none 0 0) (revT (cBy x) f.rings 0) (w1.alloc (.cells #[.int .i64 f.id, .int .i64 f.shape, .slice none 0 0] 27)) from ⟨blk_new w1 _, Kd.N_nil _ _ _ _ _, below_alloc (Below.refl _ _) _⟩)
  generalize w1.alloc (.cells #[.int .i64 f.id, .int .i64 f.shape, .slice none 0 0] 27) = W0 at *
  have hL := hrl
  have HBl := Aside0.mk (blk_lt H0.out)
  go_loopw [10] (fun i wr => ∃ (j : Nat) (z : Int) (B : Option Addr) (d : Nat), j ≤ f.rings.length ∧ i = .int .i64 z ∧ z = (f.rings.length : Int) - 1 - j ∧ Aside0 (TI w1 f.id f.shape (.slice B j d) (revT (cBy x) f.rings j) wr)) (fun i _ => (intOf i + 1).toNat)
  case atStart => exact ⟨0, _, none, 0, by omega, rfl, by omega, HG0⟩
  case round =>
    obtain ⟨j, z, B, d, hj, rfl, hz, HT⟩ := hrel
    by_cases hlt : j < f.rings.length
    · obtain ⟨k, hk⟩ : ∃ k : Nat, z = k := ⟨f.rings.length - 1 - j, by omega⟩
      subst hk
      have hkL : k < f.rings.length := by omega
      have hkL' : (k : Int) < f.rings.length := by omega
      have hjk : j + k + 1 = f.rings.length := by omega
      obtain ⟨ad, A0, ca, e1, hx, hcap, hp⟩ := at_r (Kd.C_below HR.out HT.out.low) k hkL
      subst e1
      have f2 : wr.cell? ⟨w.heap.size, 2, none⟩ = some (.slice (some ad) f.rings.length c) := (blk_cell (blk_below H0.out HT.out.low) 2).trans rfl
      have hrn := HRl.out _ (rdR_mem hkL)
      have HAdd := Aside0.mk (revT_add (cBy x) f.rings j k hjk)
      have HPW := Aside0.mk (show ∀ W, Below w1.heap.size w1 W → PC W A0 (rdR f.rings k) from fun W hW => by
        obtain ⟨ad', A0', ca', e1, hx', hc', hp'⟩ := at_r HR.out k hkL
        cases e1
        have := (pw_cell_below HT.out.low hx').symm.trans hx
        injection this with this
        injection this with e2 e3 e4
        subst e2
        exact Kd.C_below hp' hW)
      clear hz hp hcap
      generalize rdR f.rings k = r at *
      obtain ⟨hcn, hcv⟩ := cBy_lt x r.length (by omega)
      obtain ⟨cc, hcc⟩ : ∃ cc, cBy x r.length = cc := ⟨_, rfl⟩
      rw [hcc] at hcn hcv HAdd
      have HCv := Aside0.mk hcv
      clear hcv
      have HJ0 := Aside0.mk (show TJ w1 f.id f.shape (.slice B j d) (revT (cBy x) f.rings j) (.slice none 0 0) (turnP r cc 0) wr from ⟨HT.out.box, Kd.N_apart_nil HT.out.own, Kd.N_nil _ _ _ _ _, HT.out.low⟩)
      have hk0 : (0 : Int) ≤ k := by omega
      have hgeq : decide ((k : Int) ≥ 0) = true := decide_eq_true (by omega)
      go_wp2
      clear hx f2 HT
      go_loopw [12, 13] (fun u i wi => ∃ (m : Nat) (T : Option Addr) (d2 : Nat), m ≤ r.length ∧ u = .slice T m d2 ∧ i = .int .i64 m ∧ Aside0 (TJ w1 f.id f.shape (.slice B j d) (revT (cBy x) f.rings j) (.slice T m d2) (turnP r cc m) wi)) (fun _ i _ => r.length - (intOf i).toNat)
      case atStart => exact ⟨0, none, 0, by omega, rfl, rfl, HJ0⟩
      case round =>
        clear HJ0
        obtain ⟨m, T, d2, hm, rfl, rfl, HJ⟩ := hrel
        rename_i wr_ _ _ _ _ _ _ _ _ _ _ _ _ _ _ _ _ _ _ _ _ _ _ _ _ _ _ _
        by_cases hlm : m < r.length
        · have hti := turnI_lt hcn hlm
          obtain ⟨ad1, e2, q0, q1⟩ := at_p (HPW.out _ HJ.out.low) _ hti
          subst e2
          have HMod := Aside0.mk (turnI_mod hcn hlm)
          have HTp := Aside0.mk (turnP_add r cc m)
          generalize rdP r (turnI r.length cc m) = q at *
          generalize turnI r.length cc m = ti at *
          have HLn := Aside0.mk (show ((turnP r cc m).length + 1) * 16 ≤ 140737488355328 from by rw [turnP_len]; omega)
          have HFr := Aside0.mk (show ∀ k, wr.heap.size ≤ k → w1.heap.size ≤ k ∧ k ≠ w1.heap.size from fun k hk => by have := HJ.out.low.size; have := blk_lt HJ.out.box; exact ⟨by omega, by omega⟩)
          have HL1 := Aside0.mk (show (turnP r cc m ++ [q]).length = m + 1 from by rw [List.length_append, turnP_len]; rfl)
          obtain ⟨v1, ⟨v2, _⟩, ⟨v3, _⟩, ⟨v4, _⟩, ⟨v5, _⟩, v6, v7, v8, v9, v10⟩ := turn_words (n := r.length) hrn.2 hcn hlm hti
          have hcv := HCv.out
          have hmod := HMod.out
          rename_i z1 z2 z3 z4
          clear z1 z2 z3 z4
          have hrb : r.length ≤ 16 := hrn.2
          clear hti hrn hL hrl hj hjk hkL
          go_wp2_with ((with_reducible refine gate_builtin (b := .append) (xs := #[.tmp 56, .tmp 75]) rfl ?_); go_must (change wpList _ _ _ _ _ (wr.alloc (.cells #[.int .i64 q.f0, .int .i64 q.f1] 23)); refine Kd.N_append k23 (w0 := w1) w1.heap.size rfl (.tmp 56) (.tmp 75) 31 23 (.agg #[.int .i64 0, .int .i64 0]) 16 rfl Try.underlying31 info23 rfl (by decide) (by decide) (.slice T m d2) (turnP r cc m) q [.int .i64 q.f0, .int .i64 q.f1] (fun k => w1.heap.size ≤ k ∧ k ≠ w1.heap.size) (fun _ => False) rfl rfl (k23_mkF _ _ q) (fun _ h => h.elim) HFr.out HJ.out.pts HJ.out.low HJ.out.low.size HLn.out ?_; intro u3 w3 ho hb hg hat; obtain ⟨T3, d3, rfl⟩ := Kd.N_slice ho; rw [HL1.out] at ho hat ⊢; rw [← HTp.out] at ho; have HJ3 := Aside0.mk (HJ.out.add ho hb hg hat); clear ho hb hg hat))
          go_roundw
          case rel => exact ⟨m + 1, T3, d3, by omega, rfl, by go_num, HJ3⟩
          case measure => first | (simp [intOf]; done) | (simp [intOf]; omega)
        · obtain rfl : m = r.length := by omega
          rw [turnP_all] at HJ
          have HJd := Aside0.mk HJ.out
          have hTn := Aside0.mk (n_tight HJ.out.pts)
          have g2 : wr.cell? ⟨w1.heap.size, 2, none⟩ = some (.slice B j d) := (blk_cell HJ.out.box 2).trans rfl
          have gf := blk_frozen HJ.out.box
          have gl := blk_lt HJ.out.box
          have HLr := Aside0.mk (show ((revT (cBy x) f.rings j).length + 1) * 24 ≤ 140737488355328 from by rw [revT_len _ _ _ hj]; omega)
          have HL2 := Aside0.mk (show (revT (cBy x) f.rings j ++ [turnL r cc]).length = j + 1 from by rw [List.length_append, revT_len _ _ _ hj]; rfl)
          have HFr := Aside0.mk (show ∀ k, wr.heap.size ≤ k → w1.heap.size ≤ k ∧ k ≠ w1.heap.size from fun k hk => by have := HJd.out.low.size; exact ⟨by omega, by omega⟩)
          have HOkp := Aside0.mk (show ∀ k, some k = (Value.slice T r.length d2).ownBlock → (w1.heap.size ≤ k ∧ k ≠ w1.heap.size) ∧ some k ≠ (Value.slice B j d).ownBlock from fun k hk => ⟨HJd.out.pts.1 k hk.symm, fun e => (HJd.out.own.1 k e.symm).2 hk⟩)
          have HFk := Aside0.mk (show Kd.FK (Kd.slice 23 k23) wr (fun k => some k = (Value.slice T r.length d2).ownBlock) (turnL r cc) [.slice T (turnL r cc).length d2] from Kd.FK_slice_mk (by have := (Kd.N_reads' HJd.out.pts).2.1; rw [turnL_len]; exact this) (by have := Kd.N_F hTn.out; rw [turnL_len]; exact this))
          rw [turnL_len] at HFk
          have HOw := Aside0.mk (Kd.N_mono HJd.out.own (ok' := fun k => w1.heap.size ≤ k ∧ k ≠ w1.heap.size) (fun k hk => hk.1))
          have hkb : (k : Int) ≤ 4 := by omega
          clear HJ hm hL hrl hrn hlm
          go_wp2_with ((with_reducible refine gate_builtin (b := .append) (xs := #[.tmp 78, .tmp 80]) rfl ?_); go_must (change wpList _ _ _ _ _ (wr.alloc (.cells #[.slice T r.length d2] 31)); refine Kd.N_append (Kd.slice 23 k23) (w0 := w1) w1.heap.size rfl (.tmp 78) (.tmp 80) 25 31 (.slice none 0 0) 24 rfl Try.underlying25 info31 rfl (by decide) (by decide) (.slice B j d) (revT (cBy x) f.rings j) (turnL r cc) [.slice T r.length d2] (fun k => w1.heap.size ≤ k ∧ k ≠ w1.heap.size) (fun k => some k = (Value.slice T r.length d2).ownBlock) rfl rfl HFk.out HOkp.out HFr.out HOw.out HJd.out.low HJd.out.low.size HLr.out ?_; intro v5 w5 ho hb hg hat; obtain ⟨B5, d5, rfl⟩ := Kd.N_slice ho; rw [HL2.out] at ho hat ⊢; rw [← HAdd.out] at ho; have HN5 := Aside0.mk ho; have HB5 := Aside0.mk hb; have hX5 := blk_grown HJd.out.box hg (fun e => (HOw.out.1 _ e.symm).2 rfl); clear ho hb hg hat g2 gf gl; have g2 : w5.cell? ⟨w1.heap.size, 2, none⟩ = some (.slice B j d) := (blk_cell hX5 2).trans rfl; have gf := blk_frozen hX5; have gl := blk_lt hX5; have HX5 := Aside0.mk hX5; clear hX5))
          go_roundw
          case rel => exact ⟨j + 1, (k : Int) - 1, B5, d5, by omega, by go_num, by omega, ⟨⟨blk_put HX5.out 2 (.slice B5 (j + 1) d5) rfl, Kd.N_far (p := ⟨w1.heap.size, 2, none⟩) HN5.out (fun _ hk => hk.2) _, HB5.out.setCell (p := ⟨w1.heap.size, 2, none⟩) (Nat.le_refl _) _⟩⟩⟩
          case measure => first | (simp [intOf]; done) | (simp [intOf]; omega)
    · obtain rfl : j = f.rings.length := by omega
      subst hz
      have hcs : ∀ r ∈ f.rings, cBy x r.length < r.length := fun r hr => (cBy_lt x r.length (by have := (HRl.out r hr).1; omega)).1
      have HHas := Aside0.mk (show hasV ⟨f.id, f.shape, turned (cBy x) f.rings⟩ p = hasV f p by unfold hasV; rw [may_turned HS2.out HM.out hcs, HM.out, has_turned HS2.out hcs])
      have HMeet := Aside0.mk (show meetsV ⟨f.id, f.shape, turned (cBy x) f.rings⟩ b = meetsV f b by unfold meetsV; rw [may_turned HS2.out HM.out hcs, HM.out, meets_turned HS2.out hcs])
      have HMay := Aside0.mk (may_turned HS2.out HM.out hcs)
      have HGl := Aside0.mk (show f.rings.length = (turned (cBy x) f.rings).length by simp [turned])
      have HG := Aside0.mk HT.out.box
      have HRG := Aside0.mk (show RC wr B (turned (cBy x) f.rings) from by have h1 := (Own4.reads HT.out.own).1; rwa [revT_all] at h1)
      replace H0 := Aside0.mk (blk_below H0.out HT.out.low)
      replace H1 := Aside0.mk (blk_below H1.out HT.out.low)
      replace H2 := Aside0.mk (blk_below H2.out HT.out.low)
      replace HR := Aside0.mk (Kd.C_below HR.out HT.out.low)
      replace HB := Aside0.mk (below_then HB.out HB.out.size HT.out.low)
      clear HT hcs hrl hL HRl
      have f0 : wr.cell? ⟨w.heap.size, 0, none⟩ = some (.int .i64 f.id) := (blk_cell H0.out 0).trans rfl
      have f1 : wr.cell? ⟨w.heap.size, 1, none⟩ = some (.int .i64 f.shape) := (blk_cell H0.out 1).trans rfl
      have f2 : wr.cell? ⟨w.heap.size, 2, none⟩ = some (.slice A f.rings.length c) := (blk_cell H0.out 2).trans rfl
      have g0 : wr.cell? ⟨w1.heap.size, 0, none⟩ = some (.int .i64 f.id) := (blk_cell HG.out 0).trans rfl
      have g1 : wr.cell? ⟨w1.heap.size, 1, none⟩ = some (.int .i64 f.shape) := (blk_cell HG.out 1).trans rfl
      have g2 : wr.cell? ⟨w1.heap.size, 2, none⟩ = some (.slice B f.rings.length d) := (blk_cell HG.out 2).trans rfl
      have p0 : wr.cell? ⟨w.heap.size + 1, 0, none⟩ = some (.int .i64 p.f0) := (blk_cell H1.out 0).trans rfl
      have p1 : wr.cell? ⟨w.heap.size + 1, 1, none⟩ = some (.int .i64 p.f1) := (blk_cell H1.out 1).trans rfl
      have b0 : wr.cell? ⟨w.heap.size + 1 + 1, 0, none⟩ = some (.int .i64 b.x0) := (blk_cell H2.out 0).trans rfl
      have b1 : wr.cell? ⟨w.heap.size + 1 + 1, 1, none⟩ = some (.int .i64 b.y0) := (blk_cell H2.out 1).trans rfl
      have b2 : wr.cell? ⟨w.heap.size + 1 + 1, 2, none⟩ = some (.int .i64 b.x1) := (blk_cell H2.out 2).trans rfl
      have b3 : wr.cell? ⟨w.heap.size + 1 + 1, 3, none⟩ = some (.int .i64 b.y1) := (blk_cell H2.out 3).trans rfl
      have hneg : ¬ (0 : Int) ≤ (f.rings.length : Int) - 1 - f.rings.length := by omega
      go_wp2_with fail
      clear f0 f1 f2 g0 g1 g2 p0 p1 b0 b1 b2 b3 hneg
      refine (Has_any f A c p wr HR.out).mono ?_
      rintro e wa ⟨rfl, hb⟩
      replace H0 := Aside0.mk (blk_below H0.out hb)
      replace H1 := Aside0.mk (blk_below H1.out hb)
      replace H2 := Aside0.mk (blk_below H2.out hb)
      replace HG := Aside0.mk (blk_below HG.out hb)
      replace HB := Aside0.mk (below_then HB.out HB.out.size hb)
      replace HR := Aside0.mk (Kd.C_below HR.out hb)
      replace HRG := Aside0.mk (Kd.C_below HRG.out hb)
      clear hb
      have f0 : wa.cell? ⟨w.heap.size, 0, none⟩ = some (.int .i64 f.id) := (blk_cell H0.out 0).trans rfl
      have f1 : wa.cell? ⟨w.heap.size, 1, none⟩ = some (.int .i64 f.shape) := (blk_cell H0.out 1).trans rfl
      have f2 : wa.cell? ⟨w.heap.size, 2, none⟩ = some (.slice A f.rings.length c) := (blk_cell H0.out 2).trans rfl
      have g0 : wa.cell? ⟨w1.heap.size, 0, none⟩ = some (.int .i64 f.id) := (blk_cell HG.out 0).trans rfl
      have g1 : wa.cell? ⟨w1.heap.size, 1, none⟩ = some (.int .i64 f.shape) := (blk_cell HG.out 1).trans rfl
      have g2 : wa.cell? ⟨w1.heap.size, 2, none⟩ = some (.slice B f.rings.length d) := (blk_cell HG.out 2).trans rfl
      have p0 : wa.cell? ⟨w.heap.size + 1, 0, none⟩ = some (.int .i64 p.f0) := (blk_cell H1.out 0).trans rfl
      have p1 : wa.cell? ⟨w.heap.size + 1, 1, none⟩ = some (.int .i64 p.f1) := (blk_cell H1.out 1).trans rfl
      have b0 : wa.cell? ⟨w.heap.size + 1 + 1, 0, none⟩ = some (.int .i64 b.x0) := (blk_cell H2.out 0).trans rfl
      have b1 : wa.cell? ⟨w.heap.size + 1 + 1, 1, none⟩ = some (.int .i64 b.y0) := (blk_cell H2.out 1).trans rfl
      have b2 : wa.cell? ⟨w.heap.size + 1 + 1, 2, none⟩ = some (.int .i64 b.x1) := (blk_cell H2.out 2).trans rfl
      have b3 : wa.cell? ⟨w.heap.size + 1 + 1, 3, none⟩ = some (.int .i64 b.y1) := (blk_cell H2.out 3).trans rfl
      go_wp2_with fail
      clear f0 f1 f2 g0 g1 g2 p0 p1 b0 b1 b2 b3
      refine (Has_len ⟨f.id, f.shape, turned (cBy x) f.rings⟩ B d p f.rings.length wa HGl.out HRG.out).mono ?_
      rintro e wb ⟨rfl, hb⟩
      replace H0 := Aside0.mk (blk_below H0.out hb)
      replace H1 := Aside0.mk (blk_below H1.out hb)
      replace H2 := Aside0.mk (blk_below H2.out hb)
      replace HG := Aside0.mk (blk_below HG.out hb)
      replace HB := Aside0.mk (below_then HB.out HB.out.size hb)
      replace HR := Aside0.mk (Kd.C_below HR.out hb)
      replace HRG := Aside0.mk (Kd.C_below HRG.out hb)
      clear hb
      have f0 : wb.cell? ⟨w.heap.size, 0, none⟩ = some (.int .i64 f.id) := (blk_cell H0.out 0).trans rfl
      have f1 : wb.cell? ⟨w.heap.size, 1, none⟩ = some (.int .i64 f.shape) := (blk_cell H0.out 1).trans rfl
      have f2 : wb.cell? ⟨w.heap.size, 2, none⟩ = some (.slice A f.rings.length c) := (blk_cell H0.out 2).trans rfl
      have g0 : wb.cell? ⟨w1.heap.size, 0, none⟩ = some (.int .i64 f.id) := (blk_cell HG.out 0).trans rfl
      have g1 : wb.cell? ⟨w1.heap.size, 1, none⟩ = some (.int .i64 f.shape) := (blk_cell HG.out 1).trans rfl
      have g2 : wb.cell? ⟨w1.heap.size, 2, none⟩ = some (.slice B f.rings.length d) := (blk_cell HG.out 2).trans rfl
      have p0 : wb.cell? ⟨w.heap.size + 1, 0, none⟩ = some (.int .i64 p.f0) := (blk_cell H1.out 0).trans rfl
      have p1 : wb.cell? ⟨w.heap.size + 1, 1, none⟩ = some (.int .i64 p.f1) := (blk_cell H1.out 1).trans rfl
      have b0 : wb.cell? ⟨w.heap.size + 1 + 1, 0, none⟩ = some (.int .i64 b.x0) := (blk_cell H2.out 0).trans rfl
      have b1 : wb.cell? ⟨w.heap.size + 1 + 1, 1, none⟩ = some (.int .i64 b.y0) := (blk_cell H2.out 1).trans rfl
      have b2 : wb.cell? ⟨w.heap.size + 1 + 1, 2, none⟩ = some (.int .i64 b.x1) := (blk_cell H2.out 2).trans rfl
      have b3 : wb.cell? ⟨w.heap.size + 1 + 1, 3, none⟩ = some (.int .i64 b.y1) := (blk_cell H2.out 3).trans rfl
      go_wp2_with fail
      clear f0 f1 f2 g0 g1 g2 p0 p1 b0 b1 b2 b3
      refine (Meets_any f A c b wb HR.out).mono ?_
      rintro e wc ⟨rfl, hb⟩
      replace H0 := Aside0.mk (blk_below H0.out hb)
      replace H1 := Aside0.mk (blk_below H1.out hb)
      replace H2 := Aside0.mk (blk_below H2.out hb)
      replace HG := Aside0.mk (blk_below HG.out hb)
      replace HB := Aside0.mk (below_then HB.out HB.out.size hb)
      replace HR := Aside0.mk (Kd.C_below HR.out hb)
      replace HRG := Aside0.mk (Kd.C_below HRG.out hb)
      clear hb
      have f0 : wc.cell? ⟨w.heap.size, 0, none⟩ = some (.int .i64 f.id) := (blk_cell H0.out 0).trans rfl
      have f1 : wc.cell? ⟨w.heap.size, 1, none⟩ = some (.int .i64 f.shape) := (blk_cell H0.out 1).trans rfl
      have f2 : wc.cell? ⟨w.heap.size, 2, none⟩ = some (.slice A f.rings.length c) := (blk_cell H0.out 2).trans rfl
      have g0 : wc.cell? ⟨w1.heap.size, 0, none⟩ = some (.int .i64 f.id) := (blk_cell HG.out 0).trans rfl
      have g1 : wc.cell? ⟨w1.heap.size, 1, none⟩ = some (.int .i64 f.shape) := (blk_cell HG.out 1).trans rfl
      have g2 : wc.cell? ⟨w1.heap.size, 2, none⟩ = some (.slice B f.rings.length d) := (blk_cell HG.out 2).trans rfl
      have p0 : wc.cell? ⟨w.heap.size + 1, 0, none⟩ = some (.int .i64 p.f0) := (blk_cell H1.out 0).trans rfl
      have p1 : wc.cell? ⟨w.heap.size + 1, 1, none⟩ = some (.int .i64 p.f1) := (blk_cell H1.out 1).trans rfl
      have b0 : wc.cell? ⟨w.heap.size + 1 + 1, 0, none⟩ = some (.int .i64 b.x0) := (blk_cell H2.out 0).trans rfl
      have b1 : wc.cell? ⟨w.heap.size + 1 + 1, 1, none⟩ = some (.int .i64 b.y0) := (blk_cell H2.out 1).trans rfl
      have b2 : wc.cell? ⟨w.heap.size + 1 + 1, 2, none⟩ = some (.int .i64 b.x1) := (blk_cell H2.out 2).trans rfl
      have b3 : wc.cell? ⟨w.heap.size + 1 + 1, 3, none⟩ = some (.int .i64 b.y1) := (blk_cell H2.out 3).trans rfl
      go_wp2_with fail
      clear f0 f1 f2 g0 g1 g2 p0 p1 b0 b1 b2 b3
      refine (Meets_len ⟨f.id, f.shape, turned (cBy x) f.rings⟩ B d b f.rings.length wc HGl.out HRG.out).mono ?_
      rintro e wd ⟨rfl, hb⟩
      replace H0 := Aside0.mk (blk_below H0.out hb)
      replace H1 := Aside0.mk (blk_below H1.out hb)
      replace H2 := Aside0.mk (blk_below H2.out hb)
      replace HG := Aside0.mk (blk_below HG.out hb)
      replace HB := Aside0.mk (below_then HB.out HB.out.size hb)
      replace HR := Aside0.mk (Kd.C_below HR.out hb)
      replace HRG := Aside0.mk (Kd.C_below HRG.out hb)
      clear hb
      have f0 : wd.cell? ⟨w.heap.size, 0, none⟩ = some (.int .i64 f.id) := (blk_cell H0.out 0).trans rfl
      have f1 : wd.cell? ⟨w.heap.size, 1, none⟩ = some (.int .i64 f.shape) := (blk_cell H0.out 1).trans rfl
      have f2 : wd.cell? ⟨w.heap.size, 2, none⟩ = some (.slice A f.rings.length c) := (blk_cell H0.out 2).trans rfl
      have g0 : wd.cell? ⟨w1.heap.size, 0, none⟩ = some (.int .i64 f.id) := (blk_cell HG.out 0).trans rfl
      have g1 : wd.cell? ⟨w1.heap.size, 1, none⟩ = some (.int .i64 f.shape) := (blk_cell HG.out 1).trans rfl
      have g2 : wd.cell? ⟨w1.heap.size, 2, none⟩ = some (.slice B f.rings.length d) := (blk_cell HG.out 2).trans rfl
      have p0 : wd.cell? ⟨w.heap.size + 1, 0, none⟩ = some (.int .i64 p.f0) := (blk_cell H1.out 0).trans rfl
      have p1 : wd.cell? ⟨w.heap.size + 1, 1, none⟩ = some (.int .i64 p.f1) := (blk_cell H1.out 1).trans rfl
      have b0 : wd.cell? ⟨w.heap.size + 1 + 1, 0, none⟩ = some (.int .i64 b.x0) := (blk_cell H2.out 0).trans rfl
      have b1 : wd.cell? ⟨w.heap.size + 1 + 1, 1, none⟩ = some (.int .i64 b.y0) := (blk_cell H2.out 1).trans rfl
      have b2 : wd.cell? ⟨w.heap.size + 1 + 1, 2, none⟩ = some (.int .i64 b.x1) := (blk_cell H2.out 2).trans rfl
      have b3 : wd.cell? ⟨w.heap.size + 1 + 1, 3, none⟩ = some (.int .i64 b.y1) := (blk_cell H2.out 3).trans rfl
      rw [HHas.out, HMeet.out, HMay.out, HM.out]
      go_wp2_with fail
      clear f0 f1 f2 g0 g1 g2 p0 p1 b0 b1 b2 b3
      refine (May_len ⟨f.id, f.shape, turned (cBy x) f.rings⟩ B d f.rings.length wd HGl.out HRG.out).mono ?_
      rintro e we ⟨rfl, hb⟩
      rw [HMay.out]
      have HBe := Aside0.mk (below_then HB.out HB.out.size hb)
      clear hb
      generalize hasV f p = v1 at *
      generalize meetsV f b = v2 at *
      generalize okE (true && ptP p) = v3 at *
      generalize okE (true && bxMay b) = v4 at *
      go_wp2_with ((go_at_call 13; refine (num_any _ _).mono ?_; rintro e w' ⟨rfl, rfl⟩))
      go_ret
      exact ⟨by first | rfl | simp, HBe.out⟩
end Go.Proofs.Ytmednnpmkhgfpaa.SH
