/- The reference's Sides. -/
import Derived.Test.YtmednnpmkhgfpaaShRa
namespace Go.Proofs.Ytmednnpmkhgfpaa.SH
open Go Go.RowKit Go.Proofs.YtmednnpmkhgfpaaW.PrintWords Go.Proofs.YtmednnpmkhgfpaaW.PrintLast Go.Proofs.YtmednnpmkhgfpaaW.PrintMore Go.Proofs.Ytmednnpmkhgfpaa.PShapes Go.Proofs.Ytmednnpmkhgfpaa.Geo
set_option linter.unusedVariables false
set_option linter.unusedSimpArgs false
attribute [local go_sem high] eqA23

def sdIn (ps : List S23) (m : Nat) : List S81 := (List.range m).map fun j => ⟨rdP ps j, rdP ps (j + 1)⟩
def sdEnd (shape : Int) (ps : List S23) : List S81 := if shape = 0 then [⟨rdP ps 0, rdP ps 0⟩] else if shape = 2 then [⟨rdP ps (ps.length - 1), rdP ps 0⟩] else []
def sdR (shape : Int) (ps : List S23) : List S81 := sdIn ps (ps.length - 1) ++ sdEnd shape ps
/-- the reference's sides of a feature -/
def sdsOf (shape : Int) (rs : List (List S23)) : List S81 := rs.flatMap (sdR shape)
theorem sdIn_add (ps : List S23) (m : Nat) : sdIn ps (m + 1) = sdIn ps m ++ [⟨rdP ps m, rdP ps (m + 1)⟩] := by unfold sdIn; rw [List.range_succ, List.map_append]; rfl
theorem sds_at (shape : Int) (rs : List (List S23)) (k : Nat) (hk : k < rs.length) : sdsOf shape (rs.take (k + 1)) = sdsOf shape (rs.take k) ++ sdR shape (rdR rs k) := by
  unfold sdsOf
  rw [List.take_succ_eq_append_getElem hk, List.flatMap_append]
  unfold rdR
  simp [hk]
theorem sdIn_len (ps : List S23) (m : Nat) : (sdIn ps m).length = m := by simp [sdIn]
theorem sdR_len (shape : Int) (ps : List S23) (h : ps.length ≤ 16) : (sdR shape ps).length ≤ 17 := by
  unfold sdR sdEnd
  rw [List.length_append, sdIn_len]
  split
  · simp; omega
  · split <;> simp <;> omega
theorem sds_len (shape : Int) (rs : List (List S23)) (h : ∀ ps ∈ rs, ps.length ≤ 16) : (sdsOf shape rs).length ≤ 17 * rs.length := by
  induction rs with
  | nil => simp [sdsOf]
  | cons x l ih =>
    have h1 := sdR_len shape x (h x List.mem_cons_self)
    have h2 := ih fun ps hp => h ps (List.mem_cons_of_mem _ hp)
    unfold sdsOf at *
    rw [List.flatMap_cons, List.length_append, List.length_cons]
    omega
structure SI (w : World) (f : Ft) (A : Option Addr) (c : Nat) (v : Value) (xs : List S81) (W : World) : Prop where
  box : W.heap[w.heap.size]? = some (.cells #[.int .i64 f.id, .int .i64 f.shape, .slice A f.rings.length c] 27 (0, 0))
  own : Kd.R k81 81 W w.heap.size (fun _ => True) v xs
  low : Below w.heap.size w W
theorem SI.drew {w : World} {f : Ft} {A : Option Addr} {c : Nat} {v : Value} {xs : List S81} {W : World} (h : SI w f A c v xs W) : SI w f A c v xs W.drew := ⟨blk_drew h.box, Kd.R_drew h.own, below_drew h.low⟩
theorem SI.add {w : World} {f : Ft} {A : Option Addr} {c : Nat} {v v1 : Value} {xs xs1 : List S81} {W W1 : World} (h : SI w f A c v xs W) (ho : Kd.R k81 81 W1 w.heap.size (fun _ => True) v1 xs1) (hb : Below w.heap.size w W1) (hg : W.grownBy W1 v.ownBlock) : SI w f A c v1 xs1 W1 :=
  ⟨blk_grown h.box hg (Kd.R_ne h.own h.box (by decide)), ho, hb⟩
set_option maxHeartbeats 16000000 in
set_option maxRecDepth 100000 in
theorem rSides_any (f : Ft) (A : Option Addr) (c : Nat) (w : World) (h : RC w A f.rings) (hne : f.shape = 0 ∨ f.shape = 2 → ∀ ps ∈ f.rings, 0 < ps.length) (hl : f.rings.length ≤ 4) (hpl : ∀ ps ∈ f.rings, ps.length ≤ 16) :
    Calls Try.prog 47 #[.agg #[.int .i64 f.id, .int .i64 f.shape, .slice A f.rings.length c]] w fun e w' => ∃ v0 : Value, e = .returned v0 ∧ Kd.R k81 81 w' w.heap.size (fun _ => True) v0 (sdsOf f.shape f.rings) ∧ Below w.heap.size w w' := by
  have HR := Aside0.mk h
  have HNe := Aside0.mk hne
  have HPl := Aside0.mk hpl
  clear h hne hpl
  have HJ0 := Aside0.mk (show SI w f A c (.slice none 0 0) (sdsOf f.shape (f.rings.take 0)) (w.alloc (.cells #[.int .i64 f.id, .int .i64 f.shape, .slice A f.rings.length c] 27)) from ⟨blk_new w _, Kd.R_nil _ _ _ _ _, below_alloc (Below.refl _ _) _⟩)
  go_enter Try.func47, Try.ntmps47
  go_wp2_with fail
  generalize w.alloc (.cells #[.int .i64 f.id, .int .i64 f.shape, .slice A f.rings.length c] 27) = W0 at *
  go_loopw [3, 4] (fun v i wr => ∃ k : Nat, k ≤ f.rings.length ∧ i = .int .i64 (k : Int) ∧ Aside0 (SI w f A c v (sdsOf f.shape (f.rings.take k)) wr)) (fun _ i _ => f.rings.length - (intOf i).toNat)
  case atStart => exact ⟨0, Nat.zero_le _, rfl, HJ0⟩
  case round =>
    clear HJ0
    obtain ⟨k, hk, rfl, HJ⟩ := hrel
    have f1 : wr.cell? ⟨w.heap.size, 1, none⟩ = some (.int .i64 f.shape) := (blk_cell HJ.out.box 1).trans rfl
    have f2 : wr.cell? ⟨w.heap.size, 2, none⟩ = some (.slice A f.rings.length c) := (blk_cell HJ.out.box 2).trans rfl
    by_cases hlt : k < f.rings.length
    · obtain ⟨ad, A0, c0, e1, hx0, hc, hp⟩ := at_r HR.out k hlt
      subst e1
      have hx := pw_cell_below HJ.out.low hx0
      have HAt := Aside0.mk (sds_at f.shape f.rings k hlt)
      have hr16 := HPl.out _ (rdR_mem hlt)
      have HNk := Aside0.mk (fun h => HNe.out h _ (rdR_mem hlt))
      have hsl := sds_len f.shape (f.rings.take k) (fun ps hp => HPl.out ps (List.mem_of_mem_take hp))
      rw [List.length_take] at hsl
      have HSl := Aside0.mk hsl
      have HP := Aside0.mk hp
      clear hsl hp
      generalize rdR f.rings k = r at *
      have HJ1 := Aside0.mk (show SI w f (some ad) c u3 (sdsOf f.shape (f.rings.take k) ++ sdIn r 0) wr from by rw [show sdIn r 0 = [] from rfl, List.append_nil]; exact HJ.out)
      go_wp2_with fail
      clear HJ f1 f2 hx
      go_loopw [3, 6] (fun v_ i wr => ∃ (m : Nat) (v : Value), (m = 0 ∨ m < r.length) ∧ i = .int .i64 ((m : Int) + 1) ∧ v = v_ ∧ Aside0 (SI w f (some ad) c v (sdsOf f.shape (f.rings.take k) ++ sdIn r m) wr)) (fun _ i _ => r.length - (intOf i).toNat)
      case atStart => exact ⟨0, _, Or.inl rfl, by go_num, rfl, HJ1⟩
      case round =>
        clear HJ1
        obtain ⟨m, v, hm, rfl, hv, HJ⟩ := hrel
        subst hv
        by_cases hlm : m + 1 < r.length
        · obtain ⟨ad1, e2, hp0⟩ := at_p HP.out m (by omega)
          subst e2
          obtain ⟨ad2, e3, hq0⟩ := at_p HP.out (m + 1) hlm
          cases e3
          have HP0 := Aside0.mk hp0
          have HQ0 := Aside0.mk hq0
          clear hp0 hq0
          have HTp := Aside0.mk (sdIn_add r m)
          generalize rdP r m = p at *
          generalize rdP r (m + 1) = q at *
          have HLn := Aside0.mk (show ((sdsOf f.shape (f.rings.take k) ++ sdIn r m).length + 1) * 32 ≤ 140737488355328 from by rw [List.length_append, sdIn_len]; have := HSl.out; omega)
          have HApp := Aside0.mk (show sdsOf f.shape (f.rings.take k) ++ sdIn r (m + 1) = sdsOf f.shape (f.rings.take k) ++ sdIn r m ++ [⟨p, q⟩] from by rw [HTp.out, List.append_assoc])
          generalize sdsOf f.shape (f.rings.take k) ++ sdIn r m = xs at *
          have hw1 : IntKind.i64.wrap ((m : Int) + 1 - 1) = (m : Int) := by rw [IntWalk.i64_in _ ⟨by omega, by omega⟩]; omega
          have hw2 : IntKind.i64.wrap (m : Int) = (m : Int) := IntWalk.i64_in _ ⟨by omega, by omega⟩
          have hmi : (m : Int) < r.length := by omega
          have hmj : (m : Int) + 1 < r.length := by omega
          have hm0 : (0 : Int) ≤ (m : Int) + 1 := by omega
          have htn : ((m : Int) + 1).toNat = m + 1 := by omega
          go_upto_region 9 with (fail)
          replace HJ := Aside0.mk (HJ.out.drew)
          refine start_ (n := 14) (S := fun w' => Below w.heap.size w w') (ds := []) #[false, false, false, false, false, false, false, false, false, false, false, false, false, false] (by kernel_rfl) rfl rfl (HJ.out.low) (fun hHeld => ?_)
          generalize wr.drew = W at HJ hHeld ⊢
          refine pu_ 0 25 rfl rfl (by kernel_rfl) (fun _ _ _ h => h) (by rfl) (fun w' => by go_simp; all_goals with_reducible rfl) (by simp only [Act.put, List.setIfInBounds_toArray, List.set_cons_zero, List.set_cons_succ]; rfl) ?_
          refine pu_ 1 26 rfl rfl (by kernel_rfl) (fun _ _ _ h => h) (by rfl) (fun w' => by go_simp; all_goals with_reducible rfl) (by simp only [Act.put, List.setIfInBounds_toArray, List.set_cons_zero, List.set_cons_succ]; rfl) ?_
          refine pu_ 2 27 rfl rfl (by kernel_rfl) (fun _ _ _ h => h) (by rfl) (fun w' => by go_simp; all_goals with_reducible rfl) (by simp only [Act.put, List.setIfInBounds_toArray, List.set_cons_zero, List.set_cons_succ]; rfl) ?_
          refine pu_ 3 28 rfl rfl (by kernel_rfl) (fun _ _ _ h => h) (by rfl) (fun w' => by go_simp; all_goals with_reducible rfl) (by simp only [Act.put, List.setIfInBounds_toArray, List.set_cons_zero, List.set_cons_succ]; rfl) ?_
          refine pu_ 4 29 rfl rfl (by kernel_rfl) (fun _ _ _ h => h) (by rfl) (fun w' => by go_simp; all_goals with_reducible rfl) (by simp only [Act.put, List.setIfInBounds_toArray, List.set_cons_zero, List.set_cons_succ]; rfl) ?_
          refine tk_ 5 30 hHeld rfl rfl (by kernel_rfl) (fun _ _ _ h => h) (by rfl) (fun w' hS' => by
            have q0 := pw_cell_below hS' HP0.out.1
            have q1 := pw_cell_below hS' HP0.out.2
            go_simp
            all_goals with_reducible rfl) (by simp only [Act.put, List.setIfInBounds_toArray, List.set_cons_zero, List.set_cons_succ]; rfl) ?_
          refine pu_ 6 31 rfl rfl (by kernel_rfl) (fun _ _ _ h => h) (by rfl) (fun w' => by go_simp; all_goals with_reducible rfl) (by simp only [Act.put, List.setIfInBounds_toArray, List.set_cons_zero, List.set_cons_succ]; rfl) ?_
          refine pu_ 7 32 rfl rfl (by kernel_rfl) (fun _ _ _ h => h) (by rfl) (fun w' => by go_simp; all_goals with_reducible rfl) (by simp only [Act.put, List.setIfInBounds_toArray, List.set_cons_zero, List.set_cons_succ]; rfl) ?_
          refine pu_ 8 33 rfl rfl (by kernel_rfl) (fun _ _ _ h => h) (by rfl) (fun w' => by go_simp; all_goals with_reducible rfl) (by simp only [Act.put, List.setIfInBounds_toArray, List.set_cons_zero, List.set_cons_succ]; rfl) ?_
          refine tk_ 9 34 hHeld rfl rfl (by kernel_rfl) (fun _ _ _ h => h) (by rfl) (fun w' hS' => by
            have r0 := pw_cell_below hS' HQ0.out.1
            have r1 := pw_cell_below hS' HQ0.out.2
            go_simp
            all_goals with_reducible rfl) (by simp only [Act.put, List.setIfInBounds_toArray, List.set_cons_zero, List.set_cons_succ]; rfl) ?_
          refine pu_ 10 35 rfl rfl (by kernel_rfl) (fun _ _ _ h => h) (by rfl) (fun w' => by go_simp; all_goals with_reducible rfl) (by simp only [Act.put, List.setIfInBounds_toArray, List.set_cons_zero, List.set_cons_succ]; rfl) ?_
          refine one_ (i := 11) (N := (some 36)) #[true, true, true, true, true, true, true, true, true, true, true, true, false, false] rfl rfl (by kernel_rfl) (by decide) (fun K hK => ?_)
          refine value_ (w1 := World.alloc W (.cells #[.int .i64 p.f0, .int .i64 p.f1, .int .i64 q.f0, .int .i64 q.f1] 81)) (v := .slice (some ⟨W.heap.size, 0, none⟩) 1 1) (by rfl) rfl (by first | (go_simp; done) | (go_simp; rfl)) ?_
          refine hK.out _ _ (below_alloc hHeld _) (fun hHeld => ?_)
          clear hK K
          refine norm_ (a' := ?_) ?_ ?_
          rotate_left
          · show Act.put _ (some 36) _ = _
            simp only [Act.put, List.setIfInBounds_toArray, List.set_cons_zero, List.set_cons_succ]
            rfl
          refine one_ (i := 12) (N := (some 37)) #[true, true, true, true, true, true, true, true, true, true, true, true, true, false] rfl rfl (by kernel_rfl) (by decide) (fun K hK => ?_)
          refine Kd.R_append_step k81 (w0 := w) w.heap.size (by rfl) (.tmp 25) (.tmp 36) 78 81 (.agg #[(.int .i64 0), (.int .i64 0), (.int .i64 0), (.int .i64 0)]) 32 rfl Try.underlying78 info81 rfl (by decide) (by decide) v xs ⟨p, q⟩ [.int .i64 p.f0, .int .i64 p.f1, .int .i64 q.f0, .int .i64 q.f1] (fun _ => True) (fun _ => False) rfl rfl (k81_mkM _ _ _ ⟨p, q⟩) (fun _ hk => hk.elim) (fun _ _ => trivial) HJ.out.own HJ.out.low HJ.out.low.size HLn.out ?_
          intro v3 w3 ho hb hg hat
          have HJ3 := Aside0.mk (HJ.out.add ho hb hg)
          clear ho hg hat
          refine hK.out _ _ hb (fun hHeld => ?_)
          clear hb
          clear hK K
          refine norm_ (a' := ?_) ?_ ?_
          rotate_left
          · show Act.put _ (some 37) _ = _
            simp only [Act.put, List.setIfInBounds_toArray, List.set_cons_zero, List.set_cons_succ]
            rfl
          refine pu_ 13 3 rfl rfl (by kernel_rfl) (fun _ _ _ h => h) (by rfl) (fun w' => by go_simp; all_goals with_reducible rfl) (by simp only [Act.put, List.setIfInBounds_toArray, List.set_cons_zero, List.set_cons_succ]; rfl) ?_
          refine done_ (by kernel_rfl) ?_
          go_wp2_with fail
          go_roundw
          case rel => exact ⟨m + 1, _, Or.inr hlm, by go_num, rfl, by rw [HApp.out]; exact HJ3⟩
          case measure => simp [intOf]; omega
        · have hm1 : m = r.length - 1 := by omega
          subst hm1
          have f1 : wr.cell? ⟨w.heap.size, 1, none⟩ = some (.int .i64 f.shape) := (blk_cell HJ.out.box 1).trans rfl
          have hge : ¬ ((r.length - 1 : Nat) : Int) + 1 < r.length := by omega
          clear hm hlm
          have HSd := Aside0.mk (show sdR f.shape r = sdIn r (r.length - 1) ++ sdEnd f.shape r from rfl)
          have HLn := Aside0.mk (show ((sdsOf f.shape (f.rings.take k) ++ sdIn r (r.length - 1)).length + 1) * 32 ≤ 140737488355328 from by rw [List.length_append, sdIn_len]; have := HSl.out; omega)
          have HTk := Aside0.mk (show sdsOf f.shape (f.rings.take (k + 1)) = sdsOf f.shape (f.rings.take k) ++ sdIn r (r.length - 1) ++ sdEnd f.shape r from by rw [HAt.out, HSd.out, List.append_assoc])
          generalize sdsOf f.shape (f.rings.take k) ++ sdIn r (r.length - 1) = xs at *
          clear HAt HSd HSl
          by_cases s0 : f.shape = 0
          · have hr0 : 0 < r.length := HNk.out (Or.inl s0)
            have HApp := Aside0.mk (show sdsOf f.shape (f.rings.take (k + 1)) = xs ++ [⟨rdP r 0, rdP r 0⟩] from by rw [HTk.out]; unfold sdEnd; rw [if_pos s0])
            obtain ⟨ad1, e2, hp0⟩ := at_p HP.out 0 hr0
            subst e2
            rw [show ad1.add (0 * 2) = ad1 from rfl] at hp0
            have HP0 := Aside0.mk hp0
            have HQ0 := Aside0.mk hp0
            clear hp0
            have hri : (0 : Int) < r.length := by omega
            generalize hq : rdP r 0 = q at *
            have hp : q = q := rfl
            obtain ⟨p, hpq⟩ : ∃ p, p = q := ⟨_, rfl⟩
            rw [← hpq] at HP0
            have HApp2 := Aside0.mk (show sdsOf f.shape (f.rings.take (k + 1)) = xs ++ [⟨p, q⟩] from by rw [HApp.out, hpq])
            clear hp hpq hq HTk HApp
            have s0b : (f.shape == 0) = true := by simp [s0]
            clear s0
            go_upto_region 12 with (fail)
            clear f1
            replace HJ := Aside0.mk (HJ.out.drew)
            refine start_ (n := 11) (S := fun w' => Below w.heap.size w w') (ds := []) #[false, false, false, false, false, false, false, false, false, false, false] (by kernel_rfl) rfl rfl (HJ.out.low) (fun hHeld => ?_)
            generalize wr.drew = W at HJ hHeld ⊢
            refine pu_ 0 42 rfl rfl (by kernel_rfl) (fun _ _ _ h => h) (by rfl) (fun w' => by go_simp; all_goals with_reducible rfl) (by simp only [Act.put, List.setIfInBounds_toArray, List.set_cons_zero, List.set_cons_succ]; rfl) ?_
            refine pu_ 1 43 rfl rfl (by kernel_rfl) (fun _ _ _ h => h) (by rfl) (fun w' => by go_simp; all_goals with_reducible rfl) (by simp only [Act.put, List.setIfInBounds_toArray, List.set_cons_zero, List.set_cons_succ]; rfl) ?_
            refine pu_ 2 44 rfl rfl (by kernel_rfl) (fun _ _ _ h => h) (by rfl) (fun w' => by go_simp; all_goals with_reducible rfl) (by simp only [Act.put, List.setIfInBounds_toArray, List.set_cons_zero, List.set_cons_succ]; rfl) ?_
            refine tk_ 3 45 hHeld rfl rfl (by kernel_rfl) (fun _ _ _ h => h) (by rfl) (fun w' hS' => by
              have q0 := pw_cell_below hS' HP0.out.1
              have q1 := pw_cell_below hS' HP0.out.2
              go_simp
              all_goals with_reducible rfl) (by simp only [Act.put, List.setIfInBounds_toArray, List.set_cons_zero, List.set_cons_succ]; rfl) ?_
            refine pu_ 4 46 rfl rfl (by kernel_rfl) (fun _ _ _ h => h) (by rfl) (fun w' => by go_simp; all_goals with_reducible rfl) (by simp only [Act.put, List.setIfInBounds_toArray, List.set_cons_zero, List.set_cons_succ]; rfl) ?_
            refine pu_ 5 47 rfl rfl (by kernel_rfl) (fun _ _ _ h => h) (by rfl) (fun w' => by go_simp; all_goals with_reducible rfl) (by simp only [Act.put, List.setIfInBounds_toArray, List.set_cons_zero, List.set_cons_succ]; rfl) ?_
            refine tk_ 6 48 hHeld rfl rfl (by kernel_rfl) (fun _ _ _ h => h) (by rfl) (fun w' hS' => by
              have r0 := pw_cell_below hS' HQ0.out.1
              have r1 := pw_cell_below hS' HQ0.out.2
              go_simp
              all_goals with_reducible rfl) (by simp only [Act.put, List.setIfInBounds_toArray, List.set_cons_zero, List.set_cons_succ]; rfl) ?_
            refine pu_ 7 49 rfl rfl (by kernel_rfl) (fun _ _ _ h => h) (by rfl) (fun w' => by go_simp; all_goals with_reducible rfl) (by simp only [Act.put, List.setIfInBounds_toArray, List.set_cons_zero, List.set_cons_succ]; rfl) ?_
            refine one_ (i := 8) (N := (some 50)) #[true, true, true, true, true, true, true, true, true, false, false] rfl rfl (by kernel_rfl) (by decide) (fun K hK => ?_)
            refine value_ (w1 := World.alloc W (.cells #[.int .i64 p.f0, .int .i64 p.f1, .int .i64 q.f0, .int .i64 q.f1] 81)) (v := .slice (some ⟨W.heap.size, 0, none⟩) 1 1) (by rfl) rfl (by first | (go_simp; done) | (go_simp; rfl)) ?_
            refine hK.out _ _ (below_alloc hHeld _) (fun hHeld => ?_)
            clear hK K
            refine norm_ (a' := ?_) ?_ ?_
            rotate_left
            · show Act.put _ (some 50) _ = _
              simp only [Act.put, List.setIfInBounds_toArray, List.set_cons_zero, List.set_cons_succ]
              rfl
            refine one_ (i := 9) (N := (some 51)) #[true, true, true, true, true, true, true, true, true, true, false] rfl rfl (by kernel_rfl) (by decide) (fun K hK => ?_)
            refine Kd.R_append_step k81 (w0 := w) w.heap.size (by rfl) (.tmp 42) (.tmp 50) 78 81 (.agg #[(.int .i64 0), (.int .i64 0), (.int .i64 0), (.int .i64 0)]) 32 rfl Try.underlying78 info81 rfl (by decide) (by decide) v xs ⟨p, q⟩ [.int .i64 p.f0, .int .i64 p.f1, .int .i64 q.f0, .int .i64 q.f1] (fun _ => True) (fun _ => False) rfl rfl (k81_mkM _ _ _ ⟨p, q⟩) (fun _ hk => hk.elim) (fun _ _ => trivial) HJ.out.own HJ.out.low HJ.out.low.size HLn.out ?_
            intro v3 w3 ho hb hg hat
            have HJ3 := Aside0.mk (HJ.out.add ho hb hg)
            clear ho hg hat
            refine hK.out _ _ hb (fun hHeld => ?_)
            clear hb
            clear hK K
            refine norm_ (a' := ?_) ?_ ?_
            rotate_left
            · show Act.put _ (some 51) _ = _
              simp only [Act.put, List.setIfInBounds_toArray, List.set_cons_zero, List.set_cons_succ]
              rfl
            refine pu_ 10 3 rfl rfl (by kernel_rfl) (fun _ _ _ h => h) (by rfl) (fun w' => by go_simp; all_goals with_reducible rfl) (by simp only [Act.put, List.setIfInBounds_toArray, List.set_cons_zero, List.set_cons_succ]; rfl) ?_
            refine done_ (by kernel_rfl) ?_
            go_wp2_with fail
            go_roundw
            case rel => exact ⟨k + 1, by omega, by go_num, by rw [HApp2.out]; exact HJ3⟩
            case measure => simp [intOf]; omega
          have s0b : (f.shape == 0) = false := by simp [s0]
          by_cases s2 : f.shape = 2
          · have hr0 : 0 < r.length := HNk.out (Or.inr s2)
            have HApp := Aside0.mk (show sdsOf f.shape (f.rings.take (k + 1)) = xs ++ [⟨rdP r (r.length - 1), rdP r 0⟩] from by rw [HTk.out]; unfold sdEnd; rw [if_neg s0, if_pos s2])
            clear HTk
            obtain ⟨ad1, e2, hp0⟩ := at_p HP.out (r.length - 1) (by omega)
            subst e2
            obtain ⟨ad2, e3, hq0⟩ := at_p HP.out 0 hr0
            cases e3
            rw [show ad1.add (0 * 2) = ad1 from rfl] at hq0
            have HP0 := Aside0.mk hp0
            have HQ0 := Aside0.mk hq0
            clear hp0 hq0
            have hri : (0 : Int) < r.length := by omega
            have hw1 : IntKind.i64.wrap ((r.length : Int) - 1) = ((r.length - 1 : Nat) : Int) := by rw [IntWalk.i64_in _ ⟨by omega, by omega⟩]; omega
            have hrj : ((r.length - 1 : Nat) : Int) < r.length := by omega
            generalize rdP r 0 = q at *
            generalize rdP r (r.length - 1) = p at *
            generalize r.length - 1 = n1 at *
            have s2b : (f.shape == 2) = true := by simp [s2]
            clear s0 s2
            go_upto_region 14 with (fail)
            clear f1
            replace HJ := Aside0.mk (HJ.out.drew)
            refine start_ (n := 14) (S := fun w' => Below w.heap.size w w') (ds := []) #[false, false, false, false, false, false, false, false, false, false, false, false, false, false] (by kernel_rfl) rfl rfl (HJ.out.low) (fun hHeld => ?_)
            generalize wr.drew = W at HJ hHeld ⊢
            refine pu_ 0 54 rfl rfl (by kernel_rfl) (fun _ _ _ h => h) (by rfl) (fun w' => by go_simp; all_goals with_reducible rfl) (by simp only [Act.put, List.setIfInBounds_toArray, List.set_cons_zero, List.set_cons_succ]; rfl) ?_
            refine pu_ 1 55 rfl rfl (by kernel_rfl) (fun _ _ _ h => h) (by rfl) (fun w' => by go_simp; all_goals with_reducible rfl) (by simp only [Act.put, List.setIfInBounds_toArray, List.set_cons_zero, List.set_cons_succ]; rfl) ?_
            refine pu_ 2 56 rfl rfl (by kernel_rfl) (fun _ _ _ h => h) (by rfl) (fun w' => by go_simp; all_goals with_reducible rfl) (by simp only [Act.put, List.setIfInBounds_toArray, List.set_cons_zero, List.set_cons_succ]; rfl) ?_
            refine pu_ 3 57 rfl rfl (by kernel_rfl) (fun _ _ _ h => h) (by rfl) (fun w' => by go_simp; all_goals with_reducible rfl) (by simp only [Act.put, List.setIfInBounds_toArray, List.set_cons_zero, List.set_cons_succ]; rfl) ?_
            refine pu_ 4 58 rfl rfl (by kernel_rfl) (fun _ _ _ h => h) (by rfl) (fun w' => by go_simp; all_goals with_reducible rfl) (by simp only [Act.put, List.setIfInBounds_toArray, List.set_cons_zero, List.set_cons_succ]; rfl) ?_
            refine pu_ 5 59 rfl rfl (by kernel_rfl) (fun _ _ _ h => h) (by rfl) (fun w' => by go_simp; all_goals with_reducible rfl) (by simp only [Act.put, List.setIfInBounds_toArray, List.set_cons_zero, List.set_cons_succ]; rfl) ?_
            refine tk_ 6 60 hHeld rfl rfl (by kernel_rfl) (fun _ _ _ h => h) (by rfl) (fun w' hS' => by
              have q0 := pw_cell_below hS' HP0.out.1
              have q1 := pw_cell_below hS' HP0.out.2
              go_simp
              all_goals with_reducible rfl) (by simp only [Act.put, List.setIfInBounds_toArray, List.set_cons_zero, List.set_cons_succ]; rfl) ?_
            refine pu_ 7 61 rfl rfl (by kernel_rfl) (fun _ _ _ h => h) (by rfl) (fun w' => by go_simp; all_goals with_reducible rfl) (by simp only [Act.put, List.setIfInBounds_toArray, List.set_cons_zero, List.set_cons_succ]; rfl) ?_
            refine pu_ 8 62 rfl rfl (by kernel_rfl) (fun _ _ _ h => h) (by rfl) (fun w' => by go_simp; all_goals with_reducible rfl) (by simp only [Act.put, List.setIfInBounds_toArray, List.set_cons_zero, List.set_cons_succ]; rfl) ?_
            refine tk_ 9 63 hHeld rfl rfl (by kernel_rfl) (fun _ _ _ h => h) (by rfl) (fun w' hS' => by
              have r0 := pw_cell_below hS' HQ0.out.1
              have r1 := pw_cell_below hS' HQ0.out.2
              go_simp
              all_goals with_reducible rfl) (by simp only [Act.put, List.setIfInBounds_toArray, List.set_cons_zero, List.set_cons_succ]; rfl) ?_
            refine pu_ 10 64 rfl rfl (by kernel_rfl) (fun _ _ _ h => h) (by rfl) (fun w' => by go_simp; all_goals with_reducible rfl) (by simp only [Act.put, List.setIfInBounds_toArray, List.set_cons_zero, List.set_cons_succ]; rfl) ?_
            refine one_ (i := 11) (N := (some 65)) #[true, true, true, true, true, true, true, true, true, true, true, true, false, false] rfl rfl (by kernel_rfl) (by decide) (fun K hK => ?_)
            refine value_ (w1 := World.alloc W (.cells #[.int .i64 p.f0, .int .i64 p.f1, .int .i64 q.f0, .int .i64 q.f1] 81)) (v := .slice (some ⟨W.heap.size, 0, none⟩) 1 1) (by rfl) rfl (by first | (go_simp; done) | (go_simp; rfl)) ?_
            refine hK.out _ _ (below_alloc hHeld _) (fun hHeld => ?_)
            clear hK K
            refine norm_ (a' := ?_) ?_ ?_
            rotate_left
            · show Act.put _ (some 65) _ = _
              simp only [Act.put, List.setIfInBounds_toArray, List.set_cons_zero, List.set_cons_succ]
              rfl
            refine one_ (i := 12) (N := (some 66)) #[true, true, true, true, true, true, true, true, true, true, true, true, true, false] rfl rfl (by kernel_rfl) (by decide) (fun K hK => ?_)
            refine Kd.R_append_step k81 (w0 := w) w.heap.size (by rfl) (.tmp 54) (.tmp 65) 78 81 (.agg #[(.int .i64 0), (.int .i64 0), (.int .i64 0), (.int .i64 0)]) 32 rfl Try.underlying78 info81 rfl (by decide) (by decide) v xs ⟨p, q⟩ [.int .i64 p.f0, .int .i64 p.f1, .int .i64 q.f0, .int .i64 q.f1] (fun _ => True) (fun _ => False) rfl rfl (k81_mkM _ _ _ ⟨p, q⟩) (fun _ hk => hk.elim) (fun _ _ => trivial) HJ.out.own HJ.out.low HJ.out.low.size HLn.out ?_
            intro v3 w3 ho hb hg hat
            have HJ3 := Aside0.mk (HJ.out.add ho hb hg)
            clear ho hg hat
            refine hK.out _ _ hb (fun hHeld => ?_)
            clear hb
            clear hK K
            refine norm_ (a' := ?_) ?_ ?_
            rotate_left
            · show Act.put _ (some 66) _ = _
              simp only [Act.put, List.setIfInBounds_toArray, List.set_cons_zero, List.set_cons_succ]
              rfl
            refine pu_ 13 3 rfl rfl (by kernel_rfl) (fun _ _ _ h => h) (by rfl) (fun w' => by go_simp; all_goals with_reducible rfl) (by simp only [Act.put, List.setIfInBounds_toArray, List.set_cons_zero, List.set_cons_succ]; rfl) ?_
            refine done_ (by kernel_rfl) ?_
            go_wp2_with fail
            go_roundw
            case rel => exact ⟨k + 1, by omega, by go_num, by rw [HApp.out]; exact HJ3⟩
            case measure => simp [intOf]; omega
          have s2b : (f.shape == 2) = false := by simp [s2]
          have HApp := Aside0.mk (show sdsOf f.shape (f.rings.take (k + 1)) = xs from by rw [HTk.out]; unfold sdEnd; rw [if_neg s0, if_neg s2, List.append_nil])
          clear s0 s2 HTk
          go_wp2_with fail
          go_roundw
          case rel => exact ⟨k + 1, by omega, by go_num, by rw [HApp.out]; exact HJ⟩
          case measure => simp [intOf]; omega
    · obtain rfl : k = f.rings.length := by omega
      rw [List.take_length] at HJ
      go_wp2_with fail
      go_ret
      exact ⟨_, rfl, HJ.out.own, HJ.out.low⟩
end Go.Proofs.Ytmednnpmkhgfpaa.SH
