/- The iterator over a feature's stretches: what a loop over it sees. -/
import Derived.Test.YtmednnpmkhgfpaaShBA
namespace Go.Proofs.Ytmednnpmkhgfpaa.SH
open Go Go.RowKit Go.Shelf Go.Proofs.YtmednnpmkhgfpaaW.PrintWords Go.Proofs.YtmednnpmkhgfpaaW.PrintLast Go.Proofs.YtmednnpmkhgfpaaW.PrintMore Go.Proofs.Ytmednnpmkhgfpaa.PShapes Go.Proofs.Ytmednnpmkhgfpaa.Geo
set_option linter.unusedVariables false
set_option linter.unusedSimpArgs false
attribute [local go_sem] Oper.semAt_some

abbrev Pair := S23 × S23
def ringIn (ps : List S23) : List Pair := (List.range (ps.length - 1)).map fun j => (rdP ps j, rdP ps (j + 1))
def ringEnd (shape : Int) (ps : List S23) : List Pair := if shape = 2 then [(rdP ps (ps.length - 1), rdP ps 0)] else []
def ringSt (shape : Int) (ps : List S23) : List Pair := ringIn ps ++ ringEnd shape ps
def stsOf (shape : Int) (rs : List (List S23)) : List Pair := rs.flatMap (ringSt shape)
/-- a stretch of points that may be -/
abbrev St := { x : Pair // ptP x.1 = true ∧ ptP x.2 = true }
def vals (l : List St) : List Pair := l.map Subtype.val
theorem vals_add (l : List St) (x : St) : vals (l ++ [x]) = vals l ++ [x.1] := by simp [vals]
theorem vals_len (l : List St) : (vals l).length = l.length := by simp [vals]
theorem ringIn_at (ps : List S23) (m : Nat) : (List.range (m + 1)).map (fun j => (rdP ps j, rdP ps (j + 1))) = (List.range m).map (fun j => (rdP ps j, rdP ps (j + 1))) ++ [(rdP ps m, rdP ps (m + 1))] := by
  rw [List.range_succ, List.map_append]
  rfl
theorem sts_at (shape : Int) (rs : List (List S23)) (k : Nat) (hk : k < rs.length) : stsOf shape (rs.take (k + 1)) = stsOf shape (rs.take k) ++ ringSt shape (rdR rs k) := by
  unfold stsOf
  rw [List.take_succ_eq_append_getElem hk, List.flatMap_append]
  unfold rdR
  simp [hk]
theorem sts_pre (shape : Int) (rs : List (List S23)) (k : Nat) (hk : k < rs.length) {l : List Pair} (hl : l <+: ringSt shape (rdR rs k)) : stsOf shape (rs.take k) ++ l <+: stsOf shape rs := by
  have h1 : stsOf shape (rs.take (k + 1)) <+: stsOf shape rs := by
    have := List.take_append_drop (k + 1) rs
    exact ⟨stsOf shape (rs.drop (k + 1)), by unfold stsOf; rw [← List.flatMap_append, this]⟩
  rw [sts_at shape rs k hk] at h1
  exact List.IsPrefix.trans ((List.prefix_append_right_inj _).2 hl) h1
theorem sts_lt (shape : Int) (rs : List (List S23)) (k : Nat) (hk : k < rs.length) {l : List Pair} {x : Pair} (hl : l ++ [x] <+: ringSt shape (rdR rs k)) : (stsOf shape (rs.take k) ++ l).length < (stsOf shape rs).length := by
  have := (sts_pre shape rs k hk hl).length_le
  simp only [List.length_append, List.length_cons, List.length_nil] at this ⊢
  omega
theorem in_pre (shape : Int) (ps : List S23) (m : Nat) (hm : m ≤ ps.length - 1) : (List.range m).map (fun j => (rdP ps j, rdP ps (j + 1))) <+: ringSt shape ps := by
  refine List.IsPrefix.trans ?_ (List.prefix_append _ _)
  refine ⟨((List.range (ps.length - 1)).drop m).map (fun j => (rdP ps j, rdP ps (j + 1))), ?_⟩
  rw [← List.map_append]
  unfold ringIn
  congr 1
  have : List.range m = (List.range (ps.length - 1)).take m := by rw [List.take_range, Nat.min_eq_left hm]
  rw [this, List.take_append_drop]
def stEnc (x : St) : Array Value := #[.agg #[.int .i64 x.1.1.f0, .int .i64 x.1.1.f1], .agg #[.int .i64 x.1.2.f0, .int .i64 x.1.2.f1]]
theorem grown_drew (w : World) : w.grownBy w.drew none := ⟨rfl, rfl, rfl, Nat.le_refl _, fun _ _ _ => rfl⟩
theorem hJa_drew {β : Type} {B : Nat} {J : β → World → Prop} (h : AbidesFrom B J) {s : β} {w : World} (hs : J s w) : J s w.drew := h _ _ _ none hs (grown_drew _) (fun r e => by cases e)
def MayPts (rs : List (List S23)) : Prop := ∀ ps ∈ rs, ∀ p ∈ ps, ptP p = true
theorem rdR_mem {rs : List (List S23)} {k : Nat} (hk : k < rs.length) : rdR rs k ∈ rs := by unfold rdR; simp [hk]
set_option maxRecDepth 100000 in
set_option maxHeartbeats 4000000 in
theorem stretches1_in (n : Nat) (hn : 1 ≤ n) (l Bs fb : Nat) (f : Ft) (A : Option Addr) (c : Nat) (w : World) (hw : Feat w fb f A c)
    (hpts : MayPts f.rings) (hne : f.shape = 2 → ∀ ps ∈ f.rings, 0 < ps.length) (J Jx : List St → World → Prop) (W : World) (hW : KB w Bs fb W) (hJa : AbidesFrom W.heap.size J)
    (hY : ∀ pre x W1, J pre W1 → pre.length < (stsOf f.shape f.rings).length → YieldAt Fence.wide (n - 1) Try.prog l (stEnc x) W1 fun e W' =>
      (e = .returned (.bool true) ∧ J (pre ++ [x]) W' ∧ Kp0 w Bs fb W1 W') ∨ (e = .returned (.bool false) ∧ Jx (pre ++ [x]) W'))
    (h0 : J [] W) :
    CallsIn Fence.wide n Try.prog 58 #[.func (.yield l) #[] #[], .pointer (some ⟨Bs, 0, none⟩)] W fun e W' => (∃ v, e = .returned v) ∧
      ((∃ ys, vals ys = stsOf f.shape f.rings ∧ J ys W') ∨ (∃ pre, vals pre <+: stsOf f.shape f.rings ∧ Jx pre W')) := by
  obtain ⟨c1, c2, c3, hRC⟩ := hw.below hW.1
  have c0 := hW.2
  have HW := Aside0.mk hw
  have HY := Aside0.mk hY
  have HJa := Aside0.mk hJa
  have HWb := Aside0.mk hW
  have HPt := Aside0.mk hpts
  have HNe := Aside0.mk hne
  have hmax : (f.rings.length : Int) ≤ 9223372036854775807 := by have := hRC.2.1; omega
  clear hw hY hJa hW hRC hpts hne
  refine callsIn_of_wp Try.func58 rfl trivial ?_ rfl
  simp only [Try.ntmps58, List.size_toArray, List.length_cons, List.length_nil, Nat.reduceAdd, Nat.reduceSub, Array.replicate_succ, Array.replicate_zero, List.push_toArray, List.append_toArray, List.nil_append, List.cons_append]
  gi_wp2
  gi_loopw [11] (fun i wr => ∃ (k : Nat) (pre : List St), k ≤ f.rings.length ∧ i = .int .i64 k ∧ Aside0 (vals pre = stsOf f.shape (f.rings.take k)) ∧ Aside0 (J pre wr) ∧ Aside0 (KB w Bs fb wr)) (fun i _ => f.rings.length - (intOf i).toNat)
  case atStart => exact ⟨0, [], Nat.zero_le _, rfl, ⟨rfl⟩, ⟨h0⟩, HWb⟩
  case round =>
    clear h0 c0 c1 c2 c3
    obtain ⟨k, pre0, hk, rfl, HV0, HJ, HB⟩ := hrel
    by_cases hlt : k < f.rings.length
    · obtain ⟨ad, A0, ca, e1, hx, hc, hp⟩ := at_r (HW.out.below HB.out.1).row k hlt
      subst e1
      have hmp : ((rdR f.rings k).length : Int) ≤ 9223372036854775807 := by have := hp.2.1; omega
      have HX := Aside0.mk hx
      have HPC := Aside0.mk (show ∀ W, Below w.heap.size w W → PC W A0 (rdR f.rings k) from fun W hW => by
        obtain ⟨ad', A0', ca', e1, hx', hc', hp'⟩ := at_r HW.out.row k hlt
        cases e1
        have := (pw_cell_below HB.out.1 hx').symm.trans HX.out
        injection this with this
        injection this with e2 e3 e4
        subst e2
        exact Kd.C_below hp' hW)
      have HLt := Aside0.mk (fun (l : List Pair) (x : Pair) => sts_lt f.shape f.rings k hlt (l := l) (x := x))
      have HPr := Aside0.mk (fun (l : List Pair) => sts_pre f.shape f.rings k hlt (l := l))
      have HNx := Aside0.mk (sts_at f.shape f.rings k hlt)
      have HPs := Aside0.mk (fun p hp => HPt.out _ (rdR_mem hlt) p hp)
      have HNz := Aside0.mk (fun h => HNe.out h _ (rdR_mem hlt))
      clear hp
      gi_wp2
      clear hx HX
      generalize rdR f.rings k = ps at *
      gi_loopw [5] (fun j wi => ∃ (m : Nat) (pre : List St), m ≤ ps.length - 1 ∧ j = .int .i64 ((m : Int) + 1) ∧ Aside0 (vals pre = stsOf f.shape (f.rings.take k) ++ (List.range m).map (fun j => (rdP ps j, rdP ps (j + 1)))) ∧ Aside0 (J pre wi) ∧ Aside0 (KB w Bs fb wi)) (fun j _ => ps.length - (intOf j).toNat)
      case atStart => exact ⟨0, pre0, Nat.zero_le _, rfl, ⟨by rw [HV0.out]; simp⟩, HJ, HB⟩
      case round =>
        clear HJ HB HV0 pre0
        obtain ⟨m, pre, hm, rfl, HV, HJ, HB⟩ := hrel
        by_cases hlm : (m : Int) + 1 < ps.length
        · obtain ⟨ad1, e2, p0, p1⟩ := at_p (HPC.out _ HB.out.1) m (by omega)
          subst e2
          obtain ⟨ad2, e3, s0, s1⟩ := at_p (HPC.out _ HB.out.1) (m + 1) (by omega)
          cases e3
          have HIn := Aside0.mk (in_pre f.shape ps (m + 1) (by omega))
          have HSt := Aside0.mk (ringIn_at ps m)
          have hlm' : (m : Int) < ps.length := by omega
          have hlm2 : m < ps.length := by omega
          have hmw : IntKind.i64.wrap ((m : Int) + 1 - 1) = m := IntWalk.i64_in _ ⟨by omega, by omega⟩ |>.trans (by omega)
          have hm1 : wrap64 ((m : Int) + 1 - 1) = m := by unfold wrap64; omega
          have hm2 : wrap64 (m : Int) = m := by unfold wrap64; omega
          have hm3 : IntKind.i64.wrap (m : Int) = m := IntWalk.i64_in _ ⟨by omega, by omega⟩
          have hm4 : (0 : Int) ≤ (m : Int) + 1 := by omega
          obtain ⟨x, hx⟩ : ∃ x : St, x.1 = (rdP ps m, rdP ps (m + 1)) := ⟨⟨(rdP ps m, rdP ps (m + 1)), HPs.out _ (rdP_mem (by omega)), HPs.out _ (rdP_mem (by omega))⟩, rfl⟩
          rw [show rdP ps m = x.1.1 by rw [hx]] at p0 p1
          rw [show rdP ps (m + 1) = x.1.2 by rw [hx]] at s0 s1
          obtain ⟨fn, tmps, assign, body, hy, hR⟩ := HY.out _ x wr.drew (HJa.out _ _ _ none HJ.out (grown_drew _) (fun r e => by cases e)) (by rw [← vals_len, HV.out]; exact HLt.out _ _ (by rw [← HSt.out]; exact HIn.out))
          dsimp only [stEnc] at hy
          have HXv := Aside0.mk hx
          clear hx
          have HBa := Aside0.mk (HB.out.below (below_drew (Below.refl _ _)))
          have hR2 := hR.mono (R' := fun e W' => ∃ b : Bool, e = .returned (.bool b) ∧ ((b = true ∧ J (pre ++ [x]) W' ∧ Kp0 w Bs fb wr.drew W') ∨ (b = false ∧ Jx (pre ++ [x]) W'))) (by
            rintro e W3 (⟨rfl, h1, h2⟩ | ⟨rfl, h1⟩)
            · exact ⟨true, rfl, Or.inl ⟨rfl, h1, h2⟩⟩
            · exact ⟨false, rfl, Or.inr ⟨rfl, h1⟩⟩)
          clear hR
          gi_wp2
          gi_region_with (refine hR2.mono ?_; rintro e W3 ⟨b, rfl, hb3⟩)
          all_goals rcases hb3 with ⟨rfl, hJ3, hk3⟩ | ⟨rfl, hJx3⟩
          rotate_left
          rotate_left
          rotate_left
          rotate_right
          all_goals first
            | (have HJ3 := Aside0.mk hJx3
               clear hJx3 hy hR2
               gi_wp2
               refine bodyPost_ret (results_none rfl _ _ _) rfl ?_
               exact ⟨⟨_, rfl⟩, .inr ⟨_, by rw [vals_add, HV.out, HXv.out, List.append_assoc, ← HSt.out]; exact HPr.out _ HIn.out, HJ3.out⟩⟩)
            | (have HJ3 := Aside0.mk hJ3
               have HB3 := Aside0.mk (HBa.out.keep hk3)
               clear hJ3 hk3 hy hR2
               gi_wp2
               go_roundw
               case rel => exact ⟨m + 1, pre ++ [x], by omega, by go_num, ⟨by rw [vals_add, HV.out, HXv.out, List.append_assoc, ← HSt.out]⟩, HJ3, HB3⟩
               case measure => simp [intOf]; omega)
        · have hmq : m = ps.length - 1 := by omega
          subst hmq
          have HRi := Aside0.mk (show vals pre = stsOf f.shape (f.rings.take k) ++ ringIn ps from HV.out)
          clear hlm HV
          obtain ⟨b1, b2, b3, _⟩ := HW.out.below HB.out.1
          have b0 := HB.out.2
          by_cases s2 : f.shape = 2
          · have HEnd := Aside0.mk (show ringSt f.shape ps = ringIn ps ++ [(rdP ps (ps.length - 1), rdP ps 0)] by unfold ringSt ringEnd; rw [if_pos s2])
            obtain ⟨q, hq⟩ : ∃ q : Nat, ps.length = q + 1 := ⟨ps.length - 1, by have := HNz.out s2; omega⟩
            obtain ⟨ad1, e2, p0, p1⟩ := at_p (HPC.out _ HB.out.1) q (by omega)
            subst e2
            obtain ⟨ad2, e3, t0, t1⟩ := at_p (HPC.out _ HB.out.1) 0 (by omega)
            cases e3
            rw [show ad1.add (0 * 2) = ad1 from rfl] at t0 t1
            obtain ⟨x, hx⟩ : ∃ x : St, x.1 = (rdP ps q, rdP ps 0) := ⟨⟨(rdP ps q, rdP ps 0), HPs.out _ (rdP_mem (by omega)), HPs.out _ (rdP_mem (by omega))⟩, rfl⟩
            rw [show rdP ps q = x.1.1 by rw [hx]] at p0 p1
            rw [show rdP ps 0 = x.1.2 by rw [hx]] at t0 t1
            have HFull := Aside0.mk (show ringIn ps ++ [x.1] = ringSt f.shape ps by rw [HEnd.out, hx, hq]; rfl)
            obtain ⟨fn, tmps, assign, body, hy, hR⟩ := HY.out _ x wr.drew (HJa.out _ _ _ none HJ.out (grown_drew _) (fun r e => by cases e)) (by rw [← vals_len, HRi.out]; exact HLt.out _ x.1 (by rw [HFull.out]; exact List.prefix_refl _))
            dsimp only [stEnc] at hy
            clear hx
            have HBa := Aside0.mk (HB.out.below (below_drew (Below.refl _ _)))
            have hR2 := hR.mono (R' := fun e W' => ∃ b : Bool, e = .returned (.bool b) ∧ ((b = true ∧ J (pre ++ [x]) W' ∧ Kp0 w Bs fb wr.drew W') ∨ (b = false ∧ Jx (pre ++ [x]) W'))) (by
              rintro e W3 (⟨rfl, h1, h2⟩ | ⟨rfl, h1⟩)
              · exact ⟨true, rfl, Or.inl ⟨rfl, h1, h2⟩⟩
              · exact ⟨false, rfl, Or.inr ⟨rfl, h1⟩⟩)
            clear hR
            have hqi : (ps.length : Int) = (q : Int) + 1 := by omega
            have hq2 : wrap64 (q : Int) = q := by unfold wrap64; omega
            have hq3 : IntKind.i64.wrap (q : Int) = q := IntWalk.i64_in _ ⟨by omega, by omega⟩
            have hqn : q < ps.length := by omega
            have hqz : (0 : Int) < (q : Int) + 1 := by omega
            clear hq
            gi_wp2
            gi_region_with (refine hR2.mono ?_; rintro e W3 ⟨b, rfl, hb3⟩)
            all_goals rcases hb3 with ⟨rfl, hJ3, hk3⟩ | ⟨rfl, hJx3⟩
            all_goals first
              | (have HJ3 := Aside0.mk hJx3
                 clear hJx3 hy hR2
                 gi_wp2
                 refine bodyPost_ret (results_none rfl _ _ _) rfl ?_
                 exact ⟨⟨_, rfl⟩, .inr ⟨_, by rw [vals_add, HRi.out, List.append_assoc, HFull.out]; exact HPr.out _ (List.prefix_refl _), HJ3.out⟩⟩)
              | (have HJ3 := Aside0.mk hJ3
                 have HB3 := Aside0.mk (HBa.out.keep hk3)
                 clear hJ3 hk3 hy hR2
                 gi_wp2
                 go_roundw
                 case rel => exact ⟨k + 1, pre ++ [x], by omega, by go_num, ⟨by rw [vals_add, HRi.out, List.append_assoc, HFull.out, HNx.out]⟩, HJ3, HB3⟩
                 case measure => simp [intOf]; omega)
          · have s2' : (f.shape == 2) = false := by simp [s2]
            have HEnd := Aside0.mk (show ringSt f.shape ps = ringIn ps by unfold ringSt ringEnd; rw [if_neg s2, List.append_nil])
            have HJ3 := Aside0.mk (hJa_drew HJa.out HJ.out)
            have HB3 := Aside0.mk (HB.out.below (below_drew (Below.refl _ _)))
            gi_wp2
            refine wpIn_wide.2 ?_
            refine be_ 19 [] (W := wr) rfl (by kernel_rfl) (fun hHeld => ?_)
            refine tk_ 0 33 hHeld rfl rfl (by kernel_rfl) (fun _ _ _ h => h) (by rfl) (fun w' hS' => by
              have g0 := pw_cell_below hS' b0
              go_simp
              all_goals with_reducible rfl) (by simp only [Act.put, List.setIfInBounds_toArray, List.set_cons_zero, List.set_cons_succ]; rfl) ?_
            refine pu_ 1 34 rfl rfl (by kernel_rfl) (fun _ _ _ h => h) (by rfl) (fun w' => by go_simp; all_goals with_reducible rfl) (by simp only [Act.put, List.setIfInBounds_toArray, List.set_cons_zero, List.set_cons_succ]; rfl) ?_
            refine pu_ 2 35 rfl rfl (by kernel_rfl) (fun _ _ _ h => h) (by rfl) (fun w' => by go_simp; all_goals with_reducible rfl) (by simp only [Act.put, List.setIfInBounds_toArray, List.set_cons_zero, List.set_cons_succ]; rfl) ?_
            refine tk_ 3 36 hHeld rfl rfl (by kernel_rfl) (fun _ _ _ h => h) (by rfl) (fun w' hS' => by
              have g2 := pw_cell_below hS' b2
              go_simp
              all_goals with_reducible rfl) (by simp only [Act.put, List.setIfInBounds_toArray, List.set_cons_zero, List.set_cons_succ]; rfl) ?_
            refine pu_ 4 37 rfl rfl (by kernel_rfl) (fun _ _ _ h => h) (by rfl) (fun w' => by go_simp; all_goals with_reducible rfl) (by simp only [Act.put, List.setIfInBounds_toArray, List.set_cons_zero, List.set_cons_succ]; rfl) ?_
            refine pu_ 5 38 rfl rfl (by kernel_rfl) (fun _ _ _ h => h) (by rfl) (fun w' => by go_simp; all_goals with_reducible rfl) (by simp only [Act.put, List.setIfInBounds_toArray, List.set_cons_zero, List.set_cons_succ]; rfl) ?_
            refine no_ 6 (some 39) rfl rfl (by kernel_rfl) (fun _ _ _ h => h) (by rfl) (by simp only [Act.put, List.setIfInBounds_toArray, List.set_cons_zero, List.set_cons_succ]; rfl) ?_
            refine no_ 7 (some 40) rfl rfl (by kernel_rfl) (fun _ _ _ h => h) (by rfl) (by simp only [Act.put, List.setIfInBounds_toArray, List.set_cons_zero, List.set_cons_succ]; rfl) ?_
            refine no_ 8 (some 41) rfl rfl (by kernel_rfl) (fun _ _ _ h => h) (by rfl) (by simp only [Act.put, List.setIfInBounds_toArray, List.set_cons_zero, List.set_cons_succ]; rfl) ?_
            refine no_ 9 (some 42) rfl rfl (by kernel_rfl) (fun _ _ _ h => h) (by rfl) (by simp only [Act.put, List.setIfInBounds_toArray, List.set_cons_zero, List.set_cons_succ]; rfl) ?_
            refine no_ 10 (some 43) rfl rfl (by kernel_rfl) (fun _ _ _ h => h) (by rfl) (by simp only [Act.put, List.setIfInBounds_toArray, List.set_cons_zero, List.set_cons_succ]; rfl) ?_
            refine no_ 11 (some 44) rfl rfl (by kernel_rfl) (fun _ _ _ h => h) (by rfl) (by simp only [Act.put, List.setIfInBounds_toArray, List.set_cons_zero, List.set_cons_succ]; rfl) ?_
            refine no_ 12 (some 45) rfl rfl (by kernel_rfl) (fun _ _ _ h => h) (by rfl) (by simp only [Act.put, List.setIfInBounds_toArray, List.set_cons_zero, List.set_cons_succ]; rfl) ?_
            refine no_ 13 (some 46) rfl rfl (by kernel_rfl) (fun _ _ _ h => h) (by rfl) (by simp only [Act.put, List.setIfInBounds_toArray, List.set_cons_zero, List.set_cons_succ]; rfl) ?_
            refine no_ 14 (some 47) rfl rfl (by kernel_rfl) (fun _ _ _ h => h) (by rfl) (by simp only [Act.put, List.setIfInBounds_toArray, List.set_cons_zero, List.set_cons_succ]; rfl) ?_
            refine no_ 15 (some 48) rfl rfl (by kernel_rfl) (fun _ _ _ h => h) (by rfl) (by simp only [Act.put, List.setIfInBounds_toArray, List.set_cons_zero, List.set_cons_succ]; rfl) ?_
            refine no_ 16 (some 49) rfl rfl (by kernel_rfl) (fun _ _ _ h => h) (by rfl) (by simp only [Act.put, List.setIfInBounds_toArray, List.set_cons_zero, List.set_cons_succ]; rfl) ?_
            refine no_ 17 (some 50) rfl rfl (by kernel_rfl) (fun _ _ _ h => h) (by rfl) (by simp only [Act.put, List.setIfInBounds_toArray, List.set_cons_zero, List.set_cons_succ]; rfl) ?_
            refine pu_ 18 51 rfl rfl (by kernel_rfl) (fun _ _ _ h => h) (by rfl) (fun w' => by go_simp; all_goals with_reducible rfl) (by simp only [Act.put, List.setIfInBounds_toArray, List.set_cons_zero, List.set_cons_succ]; rfl) ?_
            refine done_ (by kernel_rfl) ?_
            clear hHeld
            gi_wp2
            go_roundw
            case rel => exact ⟨k + 1, pre, by omega, by go_num, ⟨by rw [HRi.out, HNx.out, HEnd.out]⟩, HJ3, HB3⟩
            case measure => simp [intOf]; omega
    · obtain rfl : k = f.rings.length := by omega
      gi_wp2
      go_end0
      refine ⟨⟨_, rfl⟩, .inl ⟨_, ?_, HJ.out⟩⟩
      rw [HV0.out, List.take_length]
end Go.Proofs.Ytmednnpmkhgfpaa.SH
