/- The reference's left, has, Has. -/
import Derived.Test.YtmednnpmkhgfpaaShRb
import Derived.Test.YtmednnpmkhgfpaaShW
import Derived.Test.YtmednnpmkhgfpaaShT
section
namespace Go.Proofs.Ytmednnpmkhgfpaa.SH
open Go Go.RowKit Go.Proofs.YtmednnpmkhgfpaaW.PrintWords Go.Proofs.YtmednnpmkhgfpaaW.PrintLast Go.Proofs.YtmednnpmkhgfpaaW.PrintMore Go.Proofs.Ytmednnpmkhgfpaa.PShapes Go.Proofs.Ytmednnpmkhgfpaa.Geo
open Go.Proofs.Ytmednnpmkhgfpaa.GW (rPointMay_any rTurn0_any rOn_any)
set_option linter.unusedVariables false
set_option linter.unusedSimpArgs false
attribute [local go_sem high] eqA23

theorem sg_swap (a b p : S23) : turnZ b.f0 b.f1 a.f0 a.f1 p.f0 p.f1 = -(turnZ a.f0 a.f1 b.f0 b.f1 p.f0 p.f1) := turn_back _ _ _ _ _ _
theorem over_eq {p a b : S23} (h : decide (p.f1 < a.f1) = decide (p.f1 < b.f1)) : overP p a b = false := by unfold overP; rw [if_pos (by rw [h]; simp)]
theorem over_lt {p a b : S23} (h : decide (p.f1 < a.f1) ≠ decide (p.f1 < b.f1)) (h1 : a.f1 < b.f1) : overP p a b = decide (turnZ a.f0 a.f1 b.f0 b.f1 p.f0 p.f1 > 0) := by
  unfold overP
  rw [if_neg (by simpa using h), if_neg (by omega)]
theorem over_gt {p a b : S23} (h : decide (p.f1 < a.f1) ≠ decide (p.f1 < b.f1)) (h1 : ¬ a.f1 < b.f1) : overP p a b = decide (turnZ a.f0 a.f1 b.f0 b.f1 p.f0 p.f1 < 0) := by
  have h2 : b.f1 < a.f1 := by
    by_cases e : a.f1 = b.f1
    · rw [e] at h; exact absurd rfl h
    · omega
  unfold overP
  rw [if_neg (by simpa using h), if_pos h2, sg_swap]
  exact decide_eq_decide.2 (by omega)
set_option maxHeartbeats 4000000 in
set_option maxRecDepth 100000 in
theorem rLeft_any (p a b : S23) (w : World) (hp : ptP p = true) (ha : ptP a = true) (hb : ptP b = true) :
    Calls Try.prog 62 #[.agg #[.int .i64 p.f0, .int .i64 p.f1], .agg #[.int .i64 a.f0, .int .i64 a.f1, .int .i64 b.f0, .int .i64 b.f1]] w fun e w' => e = .returned (.bool (overP p a b)) ∧ Below w.heap.size w w' := by
  have HC := Aside0.mk (rTurn0_any a.f0 a.f1 b.f0 b.f1 p.f0 p.f1 · ha hb hp)
  clear ha hb hp
  have HB := Aside0.mk (below_alloc (below_alloc (Below.refl w.heap.size w) (.cells #[.int .i64 p.f0, .int .i64 p.f1] 23)) (.cells #[.int .i64 a.f0, .int .i64 a.f1, .int .i64 b.f0, .int .i64 b.f1] 81))
  have h1 := blk_new (w.alloc (.cells #[.int .i64 p.f0, .int .i64 p.f1] 23)) (.cells #[.int .i64 a.f0, .int .i64 a.f1, .int .i64 b.f0, .int .i64 b.f1] 81)
  simp only [World.size_alloc] at h1
  have H1 := Aside0.mk h1
  clear h1
  by_cases he : decide (p.f1 < a.f1) = decide (p.f1 < b.f1)
  · have HV := Aside0.mk (over_eq he)
    have he' : (decide (a.f1 > p.f1) == decide (b.f1 > p.f1)) = true := by show (decide (p.f1 < a.f1) == decide (p.f1 < b.f1)) = true; rw [he]; simp
    clear he
    go_enter Try.func62, Try.ntmps62
    go_wp2_with fail
    go_ret
    exact ⟨by rw [HV.out]; first | done | rfl, HB.out⟩
  · have he' : (decide (a.f1 > p.f1) == decide (b.f1 > p.f1)) = false := by
      show (decide (p.f1 < a.f1) == decide (p.f1 < b.f1)) = false
      cases h : (decide (p.f1 < a.f1) == decide (p.f1 < b.f1))
      · rfl
      · exact absurd (by simpa using h) he
    have HL := Aside0.mk (fun h => over_lt (p := p) (a := a) (b := b) he h)
    have HG := Aside0.mk (fun h => over_gt (p := p) (a := a) (b := b) he h)
    clear he
    go_enter Try.func62, Try.ntmps62
    go_wp2_with fail
    refine (HC.out _).mono ?_
    rintro e w1 ⟨rfl, hb⟩
    have H2 := Aside0.mk (blk_below H1.out hb)
    have HB1 := Aside0.mk (below_then HB.out HB.out.size hb)
    clear hb he'
    have f1 : w1.cell? ⟨w.heap.size + 1, 1, none⟩ = some (.int .i64 a.f1) := (blk_cell H2.out 1).trans rfl
    have f3 : w1.cell? ⟨w.heap.size + 1, 3, none⟩ = some (.int .i64 b.f1) := (blk_cell H2.out 3).trans rfl
    by_cases h1 : a.f1 < b.f1
    · have HV := Aside0.mk (HL.out h1)
      go_wp2_with fail
      go_ret
      exact ⟨by rw [HV.out]; first | done | rfl, HB1.out⟩
    · have HV := Aside0.mk (HG.out (by omega))
      go_wp2_with fail
      go_ret
      exact ⟨by rw [HV.out]; first | done | rfl, HB1.out⟩
theorem rOnP_any (p a b : S23) (w : World) (hp : ptP p = true) (ha : ptP a = true) (hb : ptP b = true) :
    Calls Try.prog 61 #[.agg #[.int .i64 p.f0, .int .i64 p.f1], .agg #[.int .i64 a.f0, .int .i64 a.f1], .agg #[.int .i64 b.f0, .int .i64 b.f1]] w fun e w' => e = .returned (.bool (onP p a b)) ∧ Below w.heap.size w w' := rOn_any p.f0 p.f1 a.f0 a.f1 b.f0 b.f1 w hp ha hb
def onS (p : S23) (s : S81) : Bool := onP p s.f0 s.f1
def oddS (p : S23) (l : List S81) : Bool := l.foldl (fun o s => o != overP p s.f0 s.f1) false
theorem oddS_add (p : S23) (l : List S81) (s : S81) : oddS p (l ++ [s]) = (oddS p l != overP p s.f0 s.f1) := by simp [oddS]
def rdS (l : List S81) (k : Nat) : S81 := l.getD k z81
theorem take_S (l : List S81) (k : Nat) (hk : k < l.length) : l.take (k + 1) = l.take k ++ [rdS l k] := by
  rw [List.take_succ_eq_append_getElem hk]; unfold rdS; simp [hk]
theorem rdS_mem {l : List S81} {k : Nat} (h : k < l.length) : rdS l k ∈ l := by unfold rdS; simp [h]
def AtS (w : World) (ad : Addr) (s : S81) : Prop := w.cell? ad = some (.int .i64 s.f0.f0) ∧ w.cell? ⟨ad.block, ad.off + 1, none⟩ = some (.int .i64 s.f0.f1) ∧ w.cell? ⟨ad.block, ad.off + 2, none⟩ = some (.int .i64 s.f1.f0) ∧ w.cell? ⟨ad.block, ad.off + 3, none⟩ = some (.int .i64 s.f1.f1)
theorem at_s {w : World} {A : Option Addr} {l : List S81} (h : Kd.C k81 w A l.length l) (k : Nat) (hk : k < l.length) : ∃ ad, A = some ad ∧ AtS w (ad.add (k * 4)) (rdS l k) := by
  obtain ⟨ad, e, h1, h2, h3, h4⟩ := at_T81 h (k : Int) (by omega) (by omega)
  exact ⟨ad, e, h1, h2, h3, h4⟩
/-- the reference: has a feature a place -/
def hasRef (f : Ft) (p : S23) : Bool := (sdsOf f.shape f.rings).any (onS p) || (oddS p (sdsOf f.shape f.rings) && f.shape == 2)
theorem hasRef_on {f : Ft} {p : S23} {k : Nat} (hk : k < (sdsOf f.shape f.rings).length) (h : onS p (rdS (sdsOf f.shape f.rings) k) = true) : hasRef f p = true := by
  unfold hasRef
  rw [List.any_eq_true.2 ⟨_, rdS_mem hk, h⟩]; rfl
theorem hasRef_end {f : Ft} {p : S23} (h : ∀ k, k < (sdsOf f.shape f.rings).length → onS p (rdS (sdsOf f.shape f.rings) k) = false) : hasRef f p = (oddS p (sdsOf f.shape f.rings) && f.shape == 2) := by
  unfold hasRef
  rw [show (sdsOf f.shape f.rings).any (onS p) = false from List.any_eq_false.2 fun x hx => by
    obtain ⟨k, hk, rfl⟩ := List.mem_iff_getElem.1 hx
    have := h k hk
    unfold rdS at this
    simpa [hk] using this]
  rfl
/-- what is needed to walk the sides of a feature -/
structure FtOk (f : Ft) : Prop where
  ne : f.shape = 0 ∨ f.shape = 2 → ∀ ps ∈ f.rings, 0 < ps.length
  len : f.rings.length ≤ 4
  pts : ∀ ps ∈ f.rings, ps.length ≤ 16
  may : ∀ s ∈ sdsOf f.shape f.rings, ptP s.f0 = true ∧ ptP s.f1 = true
theorem rSides_ok (f : Ft) (A : Option Addr) (c : Nat) (w : World) (h : RC w A f.rings) (ho : FtOk f) :
    Calls Try.prog 47 #[.agg #[.int .i64 f.id, .int .i64 f.shape, .slice A f.rings.length c]] w fun e w' => ∃ (B : Option Addr) (d : Nat), e = .returned (.slice B (sdsOf f.shape f.rings).length d) ∧ Kd.C k81 w' B (sdsOf f.shape f.rings).length (sdsOf f.shape f.rings) ∧ Below w.heap.size w w' := by
  refine (rSides_any f A c w h ho.ne ho.len ho.pts).mono ?_
  rintro e w' ⟨v0, rfl, hR, hb⟩
  obtain ⟨B, d, rfl, hl, hr⟩ := Kd.R_reads hR
  exact ⟨B, d, rfl, hr, hb⟩
set_option maxHeartbeats 8000000 in
set_option maxRecDepth 100000 in
theorem rHas0_any (f : Ft) (A : Option Addr) (c : Nat) (p : S23) (w : World) (h : RC w A f.rings) (ho : FtOk f) (hp : ptP p = true) :
    Calls Try.prog 46 #[.agg #[.int .i64 f.id, .int .i64 f.shape, .slice A f.rings.length c], .agg #[.int .i64 p.f0, .int .i64 p.f1]] w fun e w' => e = .returned (.bool (hasRef f p)) ∧ Below w.heap.size w w' := by
  have h0 := blk_alloc (blk_new w (.cells #[.int .i64 f.id, .int .i64 f.shape, .slice A f.rings.length c] 27)) (.cells #[.int .i64 p.f0, .int .i64 p.f1] 23)
  have h1 := blk_new (w.alloc (.cells #[.int .i64 f.id, .int .i64 f.shape, .slice A f.rings.length c] 27)) (.cells #[.int .i64 p.f0, .int .i64 p.f1] 23)
  simp only [World.size_alloc] at h1
  have hB := below_alloc (below_alloc (Below.refl w.heap.size w) (.cells #[.int .i64 f.id, .int .i64 f.shape, .slice A f.rings.length c] 27)) (.cells #[.int .i64 p.f0, .int .i64 p.f1] 23)
  have HR := Aside0.mk (Kd.C_below h hB)
  have HO := Aside0.mk ho
  have HPt := Aside0.mk hp
  have HSl := Aside0.mk (sds_len f.shape f.rings ho.pts)
  have HLe := Aside0.mk ho.len
  clear h ho hp
  go_enter Try.func46, Try.ntmps46
  go_wp2_with fail
  refine (rSides_ok f A c _ HR.out HO.out).mono ?_
  rintro e w1 ⟨B, d, rfl, hC, hb⟩
  have H0 := Aside0.mk (blk_below h0 hb)
  have H1 := Aside0.mk (blk_below h1 hb)
  have HB := Aside0.mk (below_then hB hB.size hb)
  have HC := Aside0.mk hC
  clear hb h0 h1 hB hC HR
  have HMay := Aside0.mk HO.out.may
  have HOn := Aside0.mk (fun k hk h => hasRef_on (f := f) (p := p) (k := k) hk h)
  have HEnd := Aside0.mk (hasRef_end (f := f) (p := p))
  have hml : ((sdsOf f.shape f.rings).length : Int) ≤ 1000 := by have := HSl.out; have := HLe.out; omega
  generalize sdsOf f.shape f.rings = l at *
  clear HSl HLe
  go_wp2_with fail
  go_loopw [6, 7] (fun o i wr => ∃ k : Nat, k ≤ l.length ∧ o = .bool (oddS p (l.take k)) ∧ i = .int .i64 (k : Int) ∧ Aside0 (∀ j, j < k → onS p (rdS l j) = false) ∧ Aside0 (Below w1.heap.size w1 wr)) (fun _ i _ => l.length - (intOf i).toNat)
  case atStart => exact ⟨0, Nat.zero_le _, rfl, rfl, ⟨fun j hj => absurd hj (by omega)⟩, ⟨Below.refl _ _⟩⟩
  case round =>
    obtain ⟨k, hk, rfl, rfl, HI, HB2⟩ := hrel
    have HX0 := Aside0.mk (blk_below H0.out HB2.out)
    have HX1 := Aside0.mk (blk_below H1.out HB2.out)
    by_cases hlt : k < l.length
    · obtain ⟨ad, e1, hs0⟩ := at_s HC.out k hlt
      subst e1
      have HTk := Aside0.mk (take_S l k hlt)
      have HN := Aside0.mk (fun h => HOn.out k hlt h)
      have HMk := Aside0.mk (HMay.out _ (rdS_mem hlt))
      have HS := Aside0.mk (fun (ht : onS p (rdS l k) = false) j (hj : j < k + 1) => show onS p (rdS l j) = false by
        rcases Nat.lt_succ_iff_lt_or_eq.1 hj with h | rfl
        · exact HI.out j h
        · exact ht)
      have HS0 := Aside0.mk hs0
      clear hs0
      obtain ⟨s, hs⟩ : ∃ s, rdS l k = s := ⟨_, rfl⟩
      rw [hs] at HTk HN HMk HS HS0
      have HSk := Aside0.mk hs
      clear hs
      obtain ⟨a, b⟩ := s
      have p0 := (blk_cell HX1.out 0).trans rfl
      have p1 := (blk_cell HX1.out 1).trans rfl
      go_upto_region 6 with (fail)
      have HS1 := Aside0.mk (show AtS wr (ad.add (k * 4)) ⟨a, b⟩ from ⟨pw_cell_below HB2.out HS0.out.1, pw_cell_below HB2.out HS0.out.2.1, pw_cell_below HB2.out HS0.out.2.2.1, pw_cell_below HB2.out HS0.out.2.2.2⟩)
      refine be_ 12 [] (W := wr) rfl (by kernel_rfl) (fun hHeld => ?_)
      refine tk_ 0 16 hHeld rfl rfl (by kernel_rfl) (fun _ _ _ h => h) (by rfl) (fun w' hS' => by
        have q0 := pw_cell_below hS' p0
        have q1 := pw_cell_below hS' p1
        go_simp
        all_goals with_reducible rfl) (by simp only [Act.put, List.setIfInBounds_toArray, List.set_cons_zero, List.set_cons_succ]; rfl) ?_
      refine pu_ 1 17 rfl rfl (by kernel_rfl) (fun _ _ _ h => h) (by rfl) (fun w' => by go_simp; all_goals with_reducible rfl) (by simp only [Act.put, List.setIfInBounds_toArray, List.set_cons_zero, List.set_cons_succ]; rfl) ?_
      refine pu_ 2 18 rfl rfl (by kernel_rfl) (fun _ _ _ h => h) (by rfl) (fun w' => by go_simp; all_goals with_reducible rfl) (by simp only [Act.put, List.setIfInBounds_toArray, List.set_cons_zero, List.set_cons_succ]; rfl) ?_
      refine pu_ 3 19 rfl rfl (by kernel_rfl) (fun _ _ _ h => h) (by rfl) (fun w' => by go_simp; all_goals with_reducible rfl) (by simp only [Act.put, List.setIfInBounds_toArray, List.set_cons_zero, List.set_cons_succ]; rfl) ?_
      refine pu_ 4 20 rfl rfl (by kernel_rfl) (fun _ _ _ h => h) (by rfl) (fun w' => by go_simp; all_goals with_reducible rfl) (by simp only [Act.put, List.setIfInBounds_toArray, List.set_cons_zero, List.set_cons_succ]; rfl) ?_
      refine tk_ 5 21 hHeld rfl rfl (by kernel_rfl) (fun _ _ _ h => h) (by rfl) (fun w' hS' => by
        have s0 := pw_cell_below hS' HS1.out.1
        have s1 := pw_cell_below hS' HS1.out.2.1
        have s2 := pw_cell_below hS' HS1.out.2.2.1
        have s3 := pw_cell_below hS' HS1.out.2.2.2
        go_simp
        all_goals with_reducible rfl) (by simp only [Act.put, List.setIfInBounds_toArray, List.set_cons_zero, List.set_cons_succ]; rfl) ?_
      refine pu_ 6 22 rfl rfl (by kernel_rfl) (fun _ _ _ h => h) (by rfl) (fun w' => by go_simp; all_goals with_reducible rfl) (by simp only [Act.put, List.setIfInBounds_toArray, List.set_cons_zero, List.set_cons_succ]; rfl) ?_
      refine pu_ 7 23 rfl rfl (by kernel_rfl) (fun _ _ _ h => h) (by rfl) (fun w' => by go_simp; all_goals with_reducible rfl) (by simp only [Act.put, List.setIfInBounds_toArray, List.set_cons_zero, List.set_cons_succ]; rfl) ?_
      refine pu_ 8 24 rfl rfl (by kernel_rfl) (fun _ _ _ h => h) (by rfl) (fun w' => by go_simp; all_goals with_reducible rfl) (by simp only [Act.put, List.setIfInBounds_toArray, List.set_cons_zero, List.set_cons_succ]; rfl) ?_
      refine pu_ 9 25 rfl rfl (by kernel_rfl) (fun _ _ _ h => h) (by rfl) (fun w' => by go_simp; all_goals with_reducible rfl) (by simp only [Act.put, List.setIfInBounds_toArray, List.set_cons_zero, List.set_cons_succ]; rfl) ?_
      refine tk_ 10 26 hHeld rfl rfl (by kernel_rfl) (fun _ _ _ h => h) (by rfl) (fun w' hS' => by
        have s0 := pw_cell_below hS' HS1.out.1
        have s1 := pw_cell_below hS' HS1.out.2.1
        have s2 := pw_cell_below hS' HS1.out.2.2.1
        have s3 := pw_cell_below hS' HS1.out.2.2.2
        go_simp
        all_goals with_reducible rfl) (by simp only [Act.put, List.setIfInBounds_toArray, List.set_cons_zero, List.set_cons_succ]; rfl) ?_
      refine cl_ 11 27 Try.func61 hHeld (rOnP_any p a b _ HPt.out HMk.out.1 HMk.out.2) rfl rfl (by kernel_rfl) (by decide) (by kernel_rfl) rfl (by rfl) rfl (by first | rfl | (simp only [List.map_toArray, List.map_cons, List.map_nil]; rfl)) (by simp only [Act.put, List.setIfInBounds_toArray, List.set_cons_zero, List.set_cons_succ]; rfl) (fun w4 hb4 hHeld => ?_)
      refine done_ (by kernel_rfl) ?_
      have HB3 := Aside0.mk (below_then HB2.out HB2.out.size hHeld)
      clear hHeld p0 p1
      cases hon : onP p a b
      · have HSv := Aside0.mk (HS.out hon)
        clear hon HN HS
        have HX3 := Aside0.mk (blk_below H1.out HB3.out)
        have p0 := (blk_cell HX3.out 0).trans rfl
        have p1 := (blk_cell HX3.out 1).trans rfl
        go_upto_region 8 with (fail)
        have HS4 := Aside0.mk (show AtS w4 (ad.add (k * 4)) ⟨a, b⟩ from ⟨pw_cell_below HB3.out HS0.out.1, pw_cell_below HB3.out HS0.out.2.1, pw_cell_below HB3.out HS0.out.2.2.1, pw_cell_below HB3.out HS0.out.2.2.2⟩)
        refine be_ 6 [] (W := w4) rfl (by kernel_rfl) (fun hHeld => ?_)
        refine tk_ 0 28 hHeld rfl rfl (by kernel_rfl) (fun _ _ _ h => h) (by rfl) (fun w' hS' => by
          have q0 := pw_cell_below hS' p0
          have q1 := pw_cell_below hS' p1
          go_simp
          all_goals with_reducible rfl) (by simp only [Act.put, List.setIfInBounds_toArray, List.set_cons_zero, List.set_cons_succ]; rfl) ?_
        refine pu_ 1 29 rfl rfl (by kernel_rfl) (fun _ _ _ h => h) (by rfl) (fun w' => by go_simp; all_goals with_reducible rfl) (by simp only [Act.put, List.setIfInBounds_toArray, List.set_cons_zero, List.set_cons_succ]; rfl) ?_
        refine pu_ 2 30 rfl rfl (by kernel_rfl) (fun _ _ _ h => h) (by rfl) (fun w' => by go_simp; all_goals with_reducible rfl) (by simp only [Act.put, List.setIfInBounds_toArray, List.set_cons_zero, List.set_cons_succ]; rfl) ?_
        refine pu_ 3 31 rfl rfl (by kernel_rfl) (fun _ _ _ h => h) (by rfl) (fun w' => by go_simp; all_goals with_reducible rfl) (by simp only [Act.put, List.setIfInBounds_toArray, List.set_cons_zero, List.set_cons_succ]; rfl) ?_
        refine tk_ 4 32 hHeld rfl rfl (by kernel_rfl) (fun _ _ _ h => h) (by rfl) (fun w' hS' => by
          have s0 := pw_cell_below hS' HS4.out.1
          have s1 := pw_cell_below hS' HS4.out.2.1
          have s2 := pw_cell_below hS' HS4.out.2.2.1
          have s3 := pw_cell_below hS' HS4.out.2.2.2
          go_simp
          all_goals with_reducible rfl) (by simp only [Act.put, List.setIfInBounds_toArray, List.set_cons_zero, List.set_cons_succ]; rfl) ?_
        refine cl_ 5 33 Try.func62 hHeld (rLeft_any p a b _ HPt.out HMk.out.1 HMk.out.2) rfl rfl (by kernel_rfl) (by decide) (by kernel_rfl) rfl (by rfl) rfl (by first | rfl | (simp only [List.map_toArray, List.map_cons, List.map_nil]; rfl)) (by simp only [Act.put, List.setIfInBounds_toArray, List.set_cons_zero, List.set_cons_succ]; rfl) (fun w5 hb5 hHeld => ?_)
        refine done_ (by kernel_rfl) ?_
        have HB5 := Aside0.mk (below_then HB3.out HB3.out.size hHeld)
        clear hHeld p0 p1
        have HAd := Aside0.mk (show oddS p (l.take (k + 1)) = (oddS p (l.take k) != overP p a b) from by rw [HTk.out, oddS_add])
        cases hov : overP p a b
        · rw [hov] at HAd
          have HAe := Aside0.mk (show oddS p (l.take (k + 1)) = oddS p (l.take k) from by rw [HAd.out]; simp)
          clear hov HAd
          go_wp2_with fail
          go_roundw
          case rel => exact ⟨k + 1, by omega, by rw [HAe.out], by go_num, HSv, HB5⟩
          case measure => simp [intOf]; omega
        · rw [hov] at HAd
          have HAe := Aside0.mk (show oddS p (l.take (k + 1)) = !oddS p (l.take k) from by rw [HAd.out]; simp)
          clear hov HAd
          go_wp2_with fail
          go_roundw
          case rel => exact ⟨k + 1, by omega, by rw [HAe.out], by go_num, HSv, HB5⟩
          case measure => simp [intOf]; omega
      · have HV := Aside0.mk (HN.out hon)
        clear hon HN HS
        go_wp2_with fail
        go_ret
        exact ⟨by rw [HV.out]; first | done | rfl, below_then HB.out HB.out.size HB3.out⟩
    · obtain rfl : k = l.length := by omega
      have HV := Aside0.mk (HEnd.out HI.out)
      rw [List.take_length]
      have f1 : wr.cell? ⟨w.heap.size, 1, none⟩ = some (.int .i64 f.shape) := (blk_cell HX0.out 1).trans rfl
      cases ho : oddS p l
      · rw [ho] at HV
        clear ho
        go_wp2_with fail
        go_ret
        exact ⟨by rw [HV.out]; first | done | rfl, below_then HB.out HB.out.size HB2.out⟩
      · rw [ho] at HV
        clear ho
        go_wp2_with fail
        go_ret
        exact ⟨by rw [HV.out]; first | done | rfl, below_then HB.out HB.out.size HB2.out⟩
end Go.Proofs.Ytmednnpmkhgfpaa.SH
end
section
/- Plain law: what the reference says of features is P4.1 and P4.2. -/
namespace Go.Proofs.Ytmednnpmkhgfpaa.SH
open Go Go.RowKit Go.Proofs.YtmednnpmkhgfpaaW.PrintWords Go.Proofs.Ytmednnpmkhgfpaa.PShapes Go.Proofs.Ytmednnpmkhgfpaa.Geo
set_option linter.unusedVariables false
set_option linter.unusedSimpArgs false

theorem eqP_symm (p q : S23) : eqP p q = eqP q p := by
  unfold eqP
  rw [Bool.eq_iff_iff]
  simp only [Bool.and_eq_true, beq_iff_eq]
  exact ⟨fun ⟨a, b⟩ => ⟨a.symm, b.symm⟩, fun ⟨a, b⟩ => ⟨a.symm, b.symm⟩⟩
theorem ok_iff (ps : List S23) (closed : Bool) (hn : 1 ≤ ps.length) :
    (∀ k, k < ps.length → okAt ps closed k = true) ↔ (∀ k, k < ps.length → okRef ps k = true) ∧ (closed = true → eqP (rdP ps 0) (rdP ps (ps.length - 1)) = false) := by
  unfold okAt okRef
  constructor
  · intro h
    refine ⟨fun k hk => ?_, fun hc => ?_⟩
    · have h1 := h k hk
      rw [Bool.and_eq_true] at h1 ⊢
      refine ⟨h1.1, ?_⟩
      by_cases h0 : 0 < k
      · have h2 := h (k - 1) (by omega)
        rw [show nxt ps.length (k - 1) = k by unfold nxt; rw [if_neg (by omega)]; omega, decide_eq_true h0, Bool.true_or, Bool.true_and, Bool.and_eq_true] at h2
        rw [decide_eq_true h0, Bool.true_and, eqP_symm]
        exact h2.2
      · rw [decide_eq_false h0]; rfl
    · have h2 := h (ps.length - 1) (by omega)
      rw [show nxt ps.length (ps.length - 1) = 0 by unfold nxt; rw [if_pos (by omega)], hc, Bool.or_true, Bool.true_and, Bool.and_eq_true] at h2
      rw [eqP_symm]
      simpa using h2.2
  · rintro ⟨h, hc⟩ k hk
    have h1 := h k hk
    rw [Bool.and_eq_true] at h1 ⊢
    refine ⟨h1.1, ?_⟩
    by_cases hk1 : k + 1 = ps.length
    · rw [show nxt ps.length k = 0 by unfold nxt; rw [if_pos hk1]]
      cases closed
      · rfl
      · have := hc rfl
        rw [show ps.length - 1 = k by omega, eqP_symm] at this
        rw [this]; simp
    · have h2 := h (k + 1) (by omega)
      rw [show nxt ps.length k = k + 1 by unfold nxt; rw [if_neg hk1], decide_eq_true (by omega : 0 < k + 1), Bool.true_or, Bool.true_and, eqP_symm]
      rw [decide_eq_true (by omega : 0 < k + 1), Bool.true_and, Bool.and_eq_true, Nat.add_sub_cancel] at h2
      exact h2.2
theorem refR_iff {shape : Int} {ps : List S23} : refR shape ps = true ↔ ps.length ≤ 16 ∧ (∀ k, k < ps.length → okRef ps k = true) ∧ endRef shape ps = true := by
  unfold refR
  rw [Bool.and_eq_true, Bool.and_eq_true, decide_eq_true_iff, List.all_eq_true]
  simp only [List.mem_range]
  constructor
  · rintro ⟨⟨a, b⟩, c⟩; exact ⟨by omega, b, c⟩
  · rintro ⟨a, b, c⟩; exact ⟨⟨by omega, b⟩, c⟩
theorem refR0 (ps : List S23) : refR 0 ps = (decide (ps.length = 1) && ptP (rdP ps 0)) := by
  rw [Bool.eq_iff_iff, refR_iff, Bool.and_eq_true, decide_eq_true_iff]
  have e : endRef 0 ps = decide ((ps.length : Int) = 1) := rfl
  rw [e, decide_eq_true_iff]
  constructor
  · rintro ⟨_, h, h1⟩
    have h2 := h 0 (by omega)
    unfold okRef at h2
    rw [Bool.and_eq_true] at h2
    exact ⟨by omega, h2.1⟩
  · rintro ⟨h, h1⟩
    refine ⟨by omega, fun k hk => ?_, by omega⟩
    obtain rfl : k = 0 := by omega
    unfold okRef
    rw [h1]; rfl
theorem refR1 (ps : List S23) : refR 1 ps = ringB ps 2 false := by
  rw [Bool.eq_iff_iff, refR_iff, ring_iff]
  have e : endRef 1 ps = decide (2 ≤ (ps.length : Int)) := rfl
  rw [e, decide_eq_true_iff]
  constructor
  · rintro ⟨h, h1, h2⟩
    exact ⟨h2, h, (ok_iff ps false (by omega)).2 ⟨h1, fun h => by cases h⟩⟩
  · rintro ⟨h, h1, h2⟩
    exact ⟨h1, ((ok_iff ps false (by omega)).1 h2).1, h⟩
theorem refR2 (ps : List S23) : refR 2 ps = ringB ps 3 true := by
  rw [Bool.eq_iff_iff, refR_iff, ring_iff]
  have e : endRef 2 ps = (decide (3 ≤ (ps.length : Int)) && !eqP (rdP ps 0) (rdP ps (ps.length - 1))) := rfl
  rw [e, Bool.and_eq_true, decide_eq_true_iff, Bool.not_eq_true']
  constructor
  · rintro ⟨h, h1, h2, h3⟩
    exact ⟨h2, h, (ok_iff ps true (by omega)).2 ⟨h1, fun _ => h3⟩⟩
  · rintro ⟨h, h1, h2⟩
    have h3 := (ok_iff ps true (by omega)).1 h2
    exact ⟨h1, h3.1, h, h3.2 rfl⟩
theorem refR_none {shape : Int} (h0 : shape ≠ 0) (h1 : shape ≠ 1) (h2 : shape ≠ 2) (ps : List S23) : refR shape ps = false := by
  unfold refR endRef
  rw [if_neg h0, if_neg h1, if_neg h2, Bool.and_false]
theorem all_one {F : List S23 → Bool} {rs : List (List S23)} (h : rs.length = 1) : rs.all F = F (rdR rs 0) := by
  match rs, h with
  | [x], _ => simp [rdR]
theorem refF_may (f : Ft) : refF f = mayB f := by
  obtain ⟨id, shape, rs⟩ := f
  unfold refF mayB
  dsimp only
  by_cases h1 : id < 1
  · rw [decide_eq_true h1, decide_eq_false (by omega : ¬ 1 ≤ id)]; rfl
  by_cases h2 : 65535 < id
  · rw [decide_eq_true h2, decide_eq_false (by omega : ¬ id ≤ 65535)]; simp
  by_cases h3 : (rs.length : Int) < 1
  · rw [decide_eq_true h3, decide_eq_false (by omega : ¬ 1 ≤ rs.length)]; simp
  by_cases h4 : 4 < (rs.length : Int)
  · rw [decide_eq_true h4, decide_eq_false (by omega : ¬ rs.length ≤ 4)]; simp
  rw [decide_eq_false h1, decide_eq_false h2, decide_eq_false h3, decide_eq_false h4, decide_eq_true (by omega : 1 ≤ id), decide_eq_true (by omega : id ≤ 65535), decide_eq_true (by omega : 1 ≤ rs.length), decide_eq_true (by omega : rs.length ≤ 4)]
  simp only [Bool.or_false, Bool.false_or, Bool.true_and, Bool.and_true]
  have hne : rs ≠ [] := by intro e; rw [e] at h3; simp at h3
  have hb : ((rs.length : Int) == 1) = decide (rs.length = 1) := by
    rw [Bool.eq_iff_iff]; simp; omega
  rw [hb]
  by_cases s0 : shape = 0
  · subst s0
    rw [if_pos rfl]
    by_cases l1 : rs.length = 1
    · rw [decide_eq_true l1, all_one l1, refR0]; rfl
    · rw [decide_eq_false l1]; rfl
  by_cases s1 : shape = 1
  · subst s1
    rw [if_neg (by decide), if_pos rfl]
    by_cases l1 : rs.length = 1
    · rw [decide_eq_true l1, all_one l1, refR1]; rfl
    · rw [decide_eq_false l1]; rfl
  by_cases s2 : shape = 2
  · subst s2
    rw [if_neg (by decide), if_neg (by decide), if_pos rfl]
    rw [show refR 2 = fun ps => ringB ps 3 true from funext refR2]; rfl
  rw [if_neg s0, if_neg s1, if_neg s2]
  rw [show rs.all (refR shape) = false from by
    match rs, hne with
    | x :: l, _ => rw [List.all_cons, refR_none s0 s1 s2]; rfl]
  simp
def toP (s : S81) : Pair := (s.f0, s.f1)
theorem sdIn_map (ps : List S23) : (sdIn ps (ps.length - 1)).map toP = ringIn ps := by unfold sdIn ringIn; rw [List.map_map]; rfl
theorem sdR_map {shape : Int} (h0 : shape ≠ 0) (ps : List S23) : (sdR shape ps).map toP = ringSt shape ps := by
  unfold sdR ringSt
  rw [List.map_append, sdIn_map]
  unfold sdEnd ringEnd
  rw [if_neg h0]
  by_cases h2 : shape = 2
  · rw [if_pos h2, if_pos h2]; rfl
  · rw [if_neg h2, if_neg h2]; rfl
theorem sds_map {shape : Int} (h0 : shape ≠ 0) (rs : List (List S23)) : (sdsOf shape rs).map toP = stsOf shape rs := by
  unfold sdsOf stsOf
  rw [List.map_flatMap, show (fun a => (sdR shape a).map toP) = ringSt shape from funext (sdR_map h0)]
theorem sds_zero {f : Ft} (hm : mayB f = true) (h0 : f.shape = 0) : sdsOf f.shape f.rings = [⟨rdP (rdR f.rings 0) 0, rdP (rdR f.rings 0) 0⟩] ∧ f.rings.flatten = [rdP (rdR f.rings 0) 0] ∧ ptP (rdP (rdR f.rings 0) 0) = true := by
  obtain ⟨id, shape, rs⟩ := f
  obtain ⟨_, _, _, _, ⟨_, h1, h2, h3⟩ | ⟨h1, _⟩ | ⟨h1, _⟩⟩ := may_iff.1 hm
  · dsimp only at h0 h1 h2 h3 ⊢
    subst h0
    match rs, h1, h2, h3 with
    | [[q]], _, _, h3 => exact ⟨rfl, rfl, h3⟩
  · dsimp only at h0 h1; omega
  · dsimp only at h0 h1; omega
theorem sds_may {f : Ft} (hm : mayB f = true) : ∀ s ∈ sdsOf f.shape f.rings, ptP s.f0 = true ∧ ptP s.f1 = true := by
  intro s hs
  by_cases h0 : f.shape = 0
  · obtain ⟨e, _, hp⟩ := sds_zero hm h0
    rw [e, List.mem_singleton] at hs
    subst hs
    exact ⟨hp, hp⟩
  · have h1 : toP s ∈ stsOf f.shape f.rings := by rw [← sds_map h0]; exact List.mem_map_of_mem hs
    exact (sts_may hm h1).2
theorem may_ok {f : Ft} (hm : mayB f = true) : FtOk f := by
  have hq := may_iff.1 hm
  refine ⟨fun h ps hps => ?_, hq.2.2.2.1, fun ps hps => ?_, sds_may hm⟩
  · rcases h with h | h
    · have h1 := may_zero hm h
      rcases hq.2.2.2.2 with ⟨_, h2, _⟩ | ⟨h2, _⟩ | ⟨h2, _⟩
      · rw [one_ring h2 hps]; exact h1.2
      · omega
      · omega
    · exact may_ne hm h ps hps
  · rcases hq.2.2.2.2 with ⟨_, h2, h3, _⟩ | ⟨_, h2, h3⟩ | ⟨_, h3⟩
    · rw [one_ring h2 hps]; omega
    · rw [one_ring h2 hps]; exact (ring_iff.1 h3).2.1
    · exact (ring_iff.1 (h3 ps hps)).2.1
theorem odd_map (p : S23) (l : List S81) : oddS p l = oddOf p (l.map toP) := by unfold oddS oddOf; rw [List.foldl_map]; rfl
theorem on_map (p : S23) (l : List S81) : l.any (onS p) = onAny p (l.map toP) := by unfold onAny; rw [List.any_map]; rfl
theorem on_self {p q : S23} (hp : ptP p = true) (hq : ptP q = true) : onP p q q = eqP q p := by
  rw [Bool.eq_iff_iff, eqP_iff]
  unfold onP onB
  rw [Bool.and_eq_true]
  constructor
  · rintro ⟨_, h⟩
    have h1 := (in_iff (b := ⟨min q.f0 q.f0, min q.f1 q.f1, max q.f0 q.f0, max q.f1 q.f1⟩) (p := p) (by rw [bxMay_iff]; rw [ptP_iff] at hq; dsimp only; omega)).1 h
    dsimp only at h1
    obtain ⟨a, b⟩ := p
    obtain ⟨c, d⟩ := q
    dsimp only at h1
    rw [S23.mk.injEq]
    omega
  · rintro rfl
    refine ⟨decide_eq_true (turn_self _ _ _ _), ?_⟩
    refine (in_iff (b := ⟨min q.f0 q.f0, min q.f1 q.f1, max q.f0 q.f0, max q.f1 q.f1⟩) (p := q) (by rw [bxMay_iff]; rw [ptP_iff] at hq; dsimp only; omega)).2 ?_
    dsimp only
    omega
theorem hasRef_is {f : Ft} {p : S23} (hm : mayB f = true) (hp : ptP p = true) : hasRef f p = hasB f p := by
  unfold hasRef hasB
  by_cases h0 : f.shape = 0
  · obtain ⟨e, _, hq⟩ := sds_zero hm h0
    rw [if_pos h0, e, h0]
    simp only [List.any_cons, List.any_nil, Bool.or_false]
    rw [show ((0 : Int) == 2) = false from rfl, Bool.and_false, Bool.or_false]
    exact on_self hp hq
  · rw [if_neg h0, on_map, odd_map, sds_map h0]
end Go.Proofs.Ytmednnpmkhgfpaa.SH
end
section
/- The reference's Has, corners. -/
namespace Go.Proofs.Ytmednnpmkhgfpaa.SH
open Go Go.RowKit Go.Proofs.YtmednnpmkhgfpaaW.PrintWords Go.Proofs.YtmednnpmkhgfpaaW.PrintLast Go.Proofs.YtmednnpmkhgfpaaW.PrintMore Go.Proofs.Ytmednnpmkhgfpaa.PShapes Go.Proofs.Ytmednnpmkhgfpaa.Geo
open Go.Proofs.Ytmednnpmkhgfpaa.GW (rPointMay_any rBoxMay_any)
set_option linter.unusedVariables false
set_option linter.unusedSimpArgs false
attribute [local go_sem high] eqA23

theorem rMayB_any (f : Ft) (A : Option Addr) (c : Nat) (w : World) (h : RC w A f.rings) :
    Calls Try.prog 21 #[.agg #[.int .i64 f.id, .int .i64 f.shape, .slice A f.rings.length c]] w fun e w' => e = .returned (.bool (mayB f)) ∧ Below w.heap.size w w' := by rw [← refF_may]; exact rMay_any f A c w h
theorem rHas1_any (f : Ft) (A : Option Addr) (c : Nat) (p : S23) (w : World) (h : RC w A f.rings) (hm : mayB f = true) (hp : ptP p = true) :
    Calls Try.prog 46 #[.agg #[.int .i64 f.id, .int .i64 f.shape, .slice A f.rings.length c], .agg #[.int .i64 p.f0, .int .i64 p.f1]] w fun e w' => e = .returned (.bool (hasB f p)) ∧ Below w.heap.size w w' := by rw [← hasRef_is hm hp]; exact rHas0_any f A c p w h (may_ok hm) hp
set_option maxHeartbeats 8000000 in
set_option maxRecDepth 100000 in
theorem rHas_any (f : Ft) (A : Option Addr) (c : Nat) (p : S23) (w : World) (h : RC w A f.rings) :
    Calls Try.prog 19 #[.agg #[.int .i64 f.id, .int .i64 f.shape, .slice A f.rings.length c], .agg #[.int .i64 p.f0, .int .i64 p.f1]] w fun e w' => e = .returned (.tuple #[.bool (hasV f p), .int .i64 (okE (mayB f && ptP p))]) ∧ Below w.heap.size w w' := by
  have HR := Aside0.mk h
  clear h
  have b0 := blk_alloc (blk_new w (.cells #[.int .i64 f.id, .int .i64 f.shape, .slice A f.rings.length c] 27)) (.cells #[.int .i64 p.f0, .int .i64 p.f1] 23)
  have b1 := blk_new (w.alloc (.cells #[.int .i64 f.id, .int .i64 f.shape, .slice A f.rings.length c] 27)) (.cells #[.int .i64 p.f0, .int .i64 p.f1] 23)
  simp only [World.size_alloc] at b1
  have hB := below_alloc (below_alloc (Below.refl w.heap.size w) (.cells #[.int .i64 f.id, .int .i64 f.shape, .slice A f.rings.length c] 27)) (.cells #[.int .i64 p.f0, .int .i64 p.f1] 23)
  have HE := Aside0.mk (show hasV f p = (mayB f && ptP p && hasB f p) from rfl)
  go_enter Try.func19, Try.ntmps19
  go_upto_region 1 with (fail)
  obtain ⟨W, hW⟩ : ∃ W, (w.alloc (.cells #[.int .i64 f.id, .int .i64 f.shape, .slice A f.rings.length c] 27)).alloc (.cells #[.int .i64 p.f0, .int .i64 p.f1] 23) = W := ⟨_, rfl⟩
  rw [hW] at b0 b1 hB ⊢
  clear hW
  have HB := Aside0.mk hB
  have B0 := Aside0.mk b0
  have B1 := Aside0.mk b1
  clear hB
  have f0 : W.cell? ⟨w.heap.size, 0, none⟩ = some (.int .i64 f.id) := (blk_cell b0 0).trans rfl
  have f1 : W.cell? ⟨w.heap.size, 1, none⟩ = some (.int .i64 f.shape) := (blk_cell b0 1).trans rfl
  have f2 : W.cell? ⟨w.heap.size, 2, none⟩ = some (.slice A f.rings.length c) := (blk_cell b0 2).trans rfl
  clear b0 b1
  go_wp2_with fail
  refine (rMayB_any f A c W (Kd.C_below HR.out HB.out)).mono ?_
  rintro e W1 ⟨rfl, hb⟩
  have B2 := Aside0.mk (blk_below B0.out hb)
  have B3 := Aside0.mk (blk_below B1.out hb)
  have HB1 := Aside0.mk (below_then HB.out HB.out.size hb)
  clear hb f0 f1 f2
  cases hm : mayB f
  · have HMf := Aside0.mk hm
    clear hm
    go_wp2_with fail
    go_ret2
    exact ⟨by rw [HE.out, HMf.out]; rfl, HB1.out⟩
  · have HMf := Aside0.mk hm
    clear hm
    have p0 : W1.cell? ⟨w.heap.size + 1, 0, none⟩ = some (.int .i64 p.f0) := (blk_cell B3.out 0).trans rfl
    have p1 : W1.cell? ⟨w.heap.size + 1, 1, none⟩ = some (.int .i64 p.f1) := (blk_cell B3.out 1).trans rfl
    go_wp2_with fail
    refine (rPointMay_any p.f0 p.f1 W1).mono ?_
    rintro e W2 ⟨rfl, hb⟩
    have B4 := Aside0.mk (blk_below B2.out hb)
    have B5 := Aside0.mk (blk_below B3.out hb)
    have HB2 := Aside0.mk (below_then HB1.out HB1.out.size hb)
    clear hb p0 p1
    cases hp : ptB p.f0 p.f1
    · have HPf := Aside0.mk (show ptP p = false from hp)
      clear hp
      go_wp2_with fail
      go_ret2
      exact ⟨by rw [HE.out, HMf.out, HPf.out]; rfl, HB2.out⟩
    · have HPf := Aside0.mk (show ptP p = true from hp)
      clear hp
      have f0 : W2.cell? ⟨w.heap.size, 0, none⟩ = some (.int .i64 f.id) := (blk_cell B4.out 0).trans rfl
      have f1 : W2.cell? ⟨w.heap.size, 1, none⟩ = some (.int .i64 f.shape) := (blk_cell B4.out 1).trans rfl
      have f2 : W2.cell? ⟨w.heap.size, 2, none⟩ = some (.slice A f.rings.length c) := (blk_cell B4.out 2).trans rfl
      have p0 : W2.cell? ⟨w.heap.size + 1, 0, none⟩ = some (.int .i64 p.f0) := (blk_cell B5.out 0).trans rfl
      have p1 : W2.cell? ⟨w.heap.size + 1, 1, none⟩ = some (.int .i64 p.f1) := (blk_cell B5.out 1).trans rfl
      go_wp2_with fail
      refine (rHas1_any f A c p W2 (Kd.C_below HR.out HB2.out) HMf.out HPf.out).mono ?_
      rintro e W3 ⟨rfl, hb⟩
      have HB3 := Aside0.mk (below_then HB2.out HB2.out.size hb)
      clear hb p0 p1 f0 f1 f2
      go_wp2_with fail
      go_ret2
      exact ⟨by rw [HE.out, HMf.out, HPf.out]; rfl, HB3.out⟩
set_option maxHeartbeats 4000000 in
set_option maxRecDepth 100000 in
theorem rCorners_any (b : Bx) (w : World) :
    Calls Try.prog 48 #[.agg #[.int .i64 b.x0, .int .i64 b.y0, .int .i64 b.x1, .int .i64 b.y1]] w fun e w' => e = .returned (.agg #[.int .i64 b.x0, .int .i64 b.y0, .int .i64 b.x1, .int .i64 b.y0, .int .i64 b.x1, .int .i64 b.y1, .int .i64 b.x0, .int .i64 b.y1]) ∧ Below w.heap.size w w' := by
  go_enter Try.func48, Try.ntmps48
  go_wp2_with fail
  refine bodyPost_ret (v := .agg #[_, _, _, _, _, _, _, _]) (by simp [results, Try.results48, go_sem]) rfl ⟨rfl, ?_⟩
  repeat (refine Below.setCell ?_ (by simp) _)
  exact below_alloc (below_alloc (Below.refl _ _) _) _
end Go.Proofs.Ytmednnpmkhgfpaa.SH
end
section
/- Plain law: what the reference says of boxes and features is P4.2. -/
namespace Go.Proofs.Ytmednnpmkhgfpaa.SH
open Go Go.RowKit Go.Proofs.YtmednnpmkhgfpaaW.PrintWords Go.Proofs.Ytmednnpmkhgfpaa.PShapes Go.Proofs.Ytmednnpmkhgfpaa.Geo
set_option linter.unusedVariables false
set_option linter.unusedSimpArgs false

def cnK (b : Bx) (k : Nat) : S23 := cornerOf (cn0 b) (cn1 b) (cn2 b) (cn3 b) k
theorem cnK_mod (b : Bx) {k : Nat} (h : k < 4) : cnK b ((k + 1) % 4) = cnK b (k + 1) := by
  have : k = 0 ∨ k = 1 ∨ k = 2 ∨ k = 3 := by omega
  rcases this with rfl | rfl | rfl | rfl <;> rfl
theorem cnK_mem (b : Bx) (k : Nat) : cnK b k ∈ cnr b := by
  unfold cnK cnr
  match k with
  | 0 => simp [cornerOf]
  | 1 => simp [cornerOf]
  | 2 => simp [cornerOf]
  | 3 => simp [cornerOf]
  | _ + 4 => simp [cornerOf]
/-- does a side go over the k-th side of a box -/
def sdX (b : Bx) (s : S81) (k : Nat) : Bool := crossB s.f0.f0 s.f0.f1 s.f1.f0 s.f1.f1 (cnK b k).f0 (cnK b k).f1 (cnK b (k + 1)).f0 (cnK b (k + 1)).f1
def sdHit (b : Bx) (s : S81) : Bool := inB b s.f0 || inB b s.f1 || (List.range 4).any (sdX b s)
theorem sd_in0 {b : Bx} {s : S81} (h : inB b s.f0 = true) : sdHit b s = true := by unfold sdHit; rw [h]; rfl
theorem sd_in1 {b : Bx} {s : S81} (h0 : inB b s.f0 = false) (h : inB b s.f1 = true) : sdHit b s = true := by unfold sdHit; rw [h0, h]; rfl
theorem sd_x {b : Bx} {s : S81} {k : Nat} (hk : k < 4) (h0 : inB b s.f0 = false) (h1 : inB b s.f1 = false) (h : sdX b s k = true) : sdHit b s = true := by
  unfold sdHit
  rw [h0, h1, List.any_eq_true.2 ⟨k, List.mem_range.2 hk, h⟩]; rfl
theorem sd_no {b : Bx} {s : S81} (h0 : inB b s.f0 = false) (h1 : inB b s.f1 = false) (h : ∀ k, k < 4 → sdX b s k = false) : sdHit b s = false := by
  unfold sdHit
  rw [h0, h1, List.any_eq_false.2 fun k hk => by rw [h k (List.mem_range.1 hk)]; simp]; rfl
theorem sdX_side {b : Bx} {s : S81} (hb : bxMay b = true) (h1 : ptP s.f0 = true) (h2 : ptP s.f1 = true) : (List.range 4).any (sdX b s) = sideB b (toP s) := by
  rw [side_is (s := toP s) hb h1 h2]
  show (sdX b s 0 || (sdX b s 1 || (sdX b s 2 || (sdX b s 3 || false)))) = _
  unfold sidesZ
  rw [Bool.or_false, Bool.or_assoc, Bool.or_assoc]
  rfl
theorem side_point {b : Bx} {q : S23} (hb : bxMay b = true) (hq : ptP q = true) (h : sideB b (q, q) = true) : inB b q = true := by
  rw [side_is (s := (q, q)) hb hq hq] at h
  have hb' := bxMay_iff.1 hb
  have key : ∀ cx cy dx dy : Int, b.x0 ≤ cx → cx ≤ b.x1 → b.y0 ≤ cy → cy ≤ b.y1 → b.x0 ≤ dx → dx ≤ b.x1 → b.y0 ≤ dy → dy ≤ b.y1 → crossB q.f0 q.f1 q.f0 q.f1 cx cy dx dy = true → inB b q = true := by
    intro cx cy dx dy c1 c2 c3 c4 d1 d2 d3 d4 hx
    rw [in_iff hb]
    unfold crossB at hx
    rw [turn_self, turn_self] at hx
    simp only [Bool.or_eq_true] at hx
    rcases hx with (((hx | hx) | hx) | hx) | hx
    · have := on_within hx; omega
    · have := on_within hx; omega
    · have := on_within hx; omega
    · have := on_within hx; omega
    · simp at hx
  unfold sidesZ at h
  simp only [Bool.or_eq_true] at h
  rcases h with ((h | h) | h) | h
  · exact key _ _ _ _ (by omega) (by omega) (by omega) (by omega) (by omega) (by omega) (by omega) (by omega) h
  · exact key _ _ _ _ (by omega) (by omega) (by omega) (by omega) (by omega) (by omega) (by omega) (by omega) h
  · exact key _ _ _ _ (by omega) (by omega) (by omega) (by omega) (by omega) (by omega) (by omega) (by omega) h
  · exact key _ _ _ _ (by omega) (by omega) (by omega) (by omega) (by omega) (by omega) (by omega) (by omega) h
theorem rings_two {f : Ft} (hm : mayB f = true) (h0 : f.shape ≠ 0) : ∀ ps ∈ f.rings, 2 ≤ ps.length := by
  obtain ⟨_, _, _, _, ⟨h, _⟩ | ⟨_, hl, hr⟩ | ⟨_, hr⟩⟩ := may_iff.1 hm
  · exact absurd h h0
  · intro ps hps
    rw [one_ring hl hps]
    have := (ring_iff.1 hr).1
    omega
  · intro ps hps
    have := (ring_iff.1 (hr ps hps)).1
    omega
theorem hit_any {f : Ft} {b : Bx} (hm : mayB f = true) (hb : bxMay b = true) : (sdsOf f.shape f.rings).any (sdHit b) = (f.rings.flatten.any (inB b) || (stsOf f.shape f.rings).any (sideB b)) := by
  rw [Bool.eq_iff_iff, Bool.or_eq_true]
  by_cases h0 : f.shape = 0
  · obtain ⟨e, ef, hq⟩ := sds_zero hm h0
    rw [e, ef]
    have en : stsOf f.shape f.rings = [] := by
      rw [h0]
      obtain ⟨_, _, _, _, ⟨_, h1, h2, h3⟩ | ⟨h1, _⟩ | ⟨h1, _⟩⟩ := may_iff.1 hm
      · revert h1 h2
        generalize f.rings = rs
        intro h1 h2
        match rs, h1, h2 with
        | [[q]], _, _ => rfl
      · omega
      · omega
    rw [en]
    simp only [List.any_cons, List.any_nil, Bool.or_false]
    constructor
    · intro h
      unfold sdHit at h
      rw [sdX_side hb hq hq, Bool.or_eq_true, Bool.or_eq_true] at h
      rcases h with (h | h) | h
      · exact .inl h
      · exact .inl h
      · exact .inl (side_point hb hq h)
    · rintro (h | h)
      · exact sd_in0 h
      · cases h
  · constructor
    · intro h
      obtain ⟨s, hs, hh⟩ := List.any_eq_true.1 h
      have h1 : toP s ∈ stsOf f.shape f.rings := by rw [← sds_map h0]; exact List.mem_map_of_mem hs
      obtain ⟨⟨m1, m2⟩, p1, p2⟩ := sts_may hm h1
      unfold sdHit at hh
      rw [sdX_side hb p1 p2, Bool.or_eq_true, Bool.or_eq_true] at hh
      rcases hh with (hh | hh) | hh
      · exact .inl (List.any_eq_true.2 ⟨_, m1, hh⟩)
      · exact .inl (List.any_eq_true.2 ⟨_, m2, hh⟩)
      · exact .inr (List.any_eq_true.2 ⟨_, h1, hh⟩)
    · intro h
      have key : ∀ s ∈ stsOf f.shape f.rings, inB b s.1 = true ∨ inB b s.2 = true ∨ sideB b s = true → (sdsOf f.shape f.rings).any (sdHit b) = true := by
        intro s hs hh
        rw [← sds_map h0, List.mem_map] at hs
        obtain ⟨t, ht, rfl⟩ := hs
        obtain ⟨p1, p2⟩ := sds_may hm t ht
        refine List.any_eq_true.2 ⟨t, ht, ?_⟩
        unfold sdHit
        rw [sdX_side hb p1 p2, Bool.or_eq_true, Bool.or_eq_true]
        rcases hh with hh | hh | hh
        · exact .inl (.inl hh)
        · exact .inl (.inr hh)
        · exact .inr hh
      rcases h with h | h
      · obtain ⟨v, hv, hi⟩ := List.any_eq_true.1 h
        obtain ⟨ps, hps, hv⟩ := List.mem_flatten.1 hv
        obtain ⟨s, hs, he⟩ := ring_vertex (shape := f.shape) (rings_two hm h0 ps hps) hv
        refine key s (List.mem_flatMap.2 ⟨ps, hps, hs⟩) ?_
        rcases he with rfl | rfl
        · exact .inl hi
        · exact .inr (.inl hi)
      · obtain ⟨s, hs, hi⟩ := List.any_eq_true.1 h
        exact key s hs (.inr (.inr hi))
theorem meets_hit {f : Ft} {b : Bx} (hm : mayB f = true) (hb : bxMay b = true) {k : Nat} (hk : k < (sdsOf f.shape f.rings).length) (h : sdHit b (rdS (sdsOf f.shape f.rings) k) = true) : meetsB f b = true := by
  unfold meetsB
  rw [← hit_any hm hb, List.any_eq_true.2 ⟨_, rdS_mem hk, h⟩]; rfl
theorem meets_end {f : Ft} {b : Bx} (hm : mayB f = true) (hb : bxMay b = true) (h : ∀ k, k < (sdsOf f.shape f.rings).length → sdHit b (rdS (sdsOf f.shape f.rings) k) = false) : meetsB f b = (f.shape == 2 && (cnr b).any (hasB f)) := by
  unfold meetsB
  rw [← hit_any hm hb, show (sdsOf f.shape f.rings).any (sdHit b) = false from List.any_eq_false.2 fun x hx => by
    obtain ⟨k, hk, rfl⟩ := List.mem_iff_getElem.1 hx
    have := h k hk
    unfold rdS at this
    simpa [hk] using this]
  rfl
theorem cn_any {f : Ft} {b : Bx} {k : Nat} (h2 : f.shape = 2) (h : hasB f (cnK b k) = true) : (f.shape == 2 && (cnr b).any (hasB f)) = true := by
  rw [List.any_eq_true.2 ⟨_, cnK_mem b k, h⟩, h2]; rfl
theorem cn_none {f : Ft} {b : Bx} (h : ∀ k, k < 4 → (f.shape == 2 && hasB f (cnK b k)) = false) : (f.shape == 2 && (cnr b).any (hasB f)) = false := by
  have h0 := h 0 (by omega)
  have h1 := h 1 (by omega)
  have h2 := h 2 (by omega)
  have h3 := h 3 (by omega)
  cases hs : f.shape == 2
  · rfl
  · rw [hs, Bool.true_and] at h0 h1 h2 h3
    show (true && (hasB f (cnK b 0) || (hasB f (cnK b 1) || (hasB f (cnK b 2) || (hasB f (cnK b 3) || false))))) = false
    rw [h0, h1, h2, h3]; rfl
end Go.Proofs.Ytmednnpmkhgfpaa.SH
end
