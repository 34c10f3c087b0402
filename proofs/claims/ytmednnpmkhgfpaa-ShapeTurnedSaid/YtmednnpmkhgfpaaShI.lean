/- The iterator over a feature's points: what a loop over it sees. -/
import Derived.RangeFuncNested
import Derived.RangeFuncBound
import Derived.RangeFuncCalls
import Derived.RangeFuncLeaves
import Derived.Shelf.Abstract
import Derived.Shelf.RegionOpen
import Derived.WalkKit
import Derived.OwnWalkIn
import Derived.TacticsInMore
import Derived.LoopNIn
import Derived.LoopIn
import Derived.Test.YtmednnpmkhgfpaaShC
namespace Go.Proofs.Ytmednnpmkhgfpaa.SH
open Go Go.RowKit Go.Shelf Go.Proofs.YtmednnpmkhgfpaaW.PrintWords Go.Proofs.Ytmednnpmkhgfpaa.PShapes Go.Proofs.Ytmednnpmkhgfpaa.Geo
set_option linter.unusedVariables false
set_option linter.unusedSimpArgs false
attribute [local go_sem] Oper.semAt_some

/-- A feature behind a pointer. -/
structure Feat (w : World) (fb : Nat) (f : Ft) (A : Option Addr) (c : Nat) : Prop where
  id : w.cell? ⟨fb, 0, none⟩ = some (.int .i64 f.id)
  shape : w.cell? ⟨fb, 1, none⟩ = some (.int .i64 f.shape)
  rings : w.cell? ⟨fb, 2, none⟩ = some (.slice A f.rings.length c)
  row : RC w A f.rings
theorem Feat.below {w w1 : World} {fb : Nat} {f : Ft} {A : Option Addr} {c : Nat} (h : Feat w fb f A c) (hb : Below w.heap.size w w1) : Feat w1 fb f A c :=
  ⟨pw_cell_below hb h.id, pw_cell_below hb h.shape, pw_cell_below hb h.rings, Kd.C_below h.row hb⟩
/-- What lay in w lies there, and box Bs holds the pointer. -/
def KB (w : World) (Bs fb : Nat) (W : World) : Prop := Below w.heap.size w W ∧ W.cell? ⟨Bs, 0, none⟩ = some (.pointer (some ⟨fb, 0, none⟩))
/-- what a round keeps -/
def Kp0 (w : World) (Bs fb : Nat) (X Y : World) : Prop := Below w.heap.size X Y ∧ (X.cell? ⟨Bs, 0, none⟩ = some (.pointer (some ⟨fb, 0, none⟩)) → Y.cell? ⟨Bs, 0, none⟩ = some (.pointer (some ⟨fb, 0, none⟩)))
theorem KB.keep {w X Y : World} {Bs fb : Nat} (h : KB w Bs fb X) (k : Kp0 w Bs fb X Y) : KB w Bs fb Y := ⟨h.1.trans k.1, k.2 h.2⟩
theorem KB.below {w X Y : World} {Bs fb : Nat} (h : KB w Bs fb X) (k : Below X.heap.size X Y) : KB w Bs fb Y := ⟨below_then h.1 h.1.size k, pw_cell_below k h.2⟩
theorem Kp0.trans {w X Y Z : World} {Bs fb : Nat} (h : Kp0 w Bs fb X Y) (k : Kp0 w Bs fb Y Z) : Kp0 w Bs fb X Z := ⟨h.1.trans k.1, fun e => k.2 (h.2 e)⟩
theorem flat_at (rs : List (List S23)) (k : Nat) (hk : k < rs.length) : (rs.take (k + 1)).flatten = (rs.take k).flatten ++ rdR rs k := by
  rw [List.take_succ_eq_append_getElem hk, List.flatten_append]
  unfold rdR
  simp [hk]
theorem take_at (ps : List S23) (m : Nat) (hm : m < ps.length) : ps.take (m + 1) = ps.take m ++ [rdP ps m] := by
  rw [List.take_succ_eq_append_getElem hm]
  unfold rdP
  simp [hm]
theorem flat_pre (rs : List (List S23)) (k : Nat) (hk : k < rs.length) (m : Nat) (hm : m ≤ (rdR rs k).length) : (rs.take k).flatten ++ (rdR rs k).take m <+: rs.flatten := by
  have h1 : (rs.take (k + 1)).flatten <+: rs.flatten := by
    have := List.take_append_drop (k + 1) rs
    exact ⟨(rs.drop (k + 1)).flatten, by rw [← List.flatten_append, this]⟩
  rw [flat_at rs k hk] at h1
  exact List.IsPrefix.trans ((List.prefix_append_right_inj _).2 (List.take_prefix _ _)) h1
theorem flat_lt (rs : List (List S23)) (k : Nat) (hk : k < rs.length) (m : Nat) (hm : m < (rdR rs k).length) : ((rs.take k).flatten ++ (rdR rs k).take m).length < rs.flatten.length := by
  have := (flat_pre rs k hk (m + 1) hm).length_le
  rw [take_at _ _ hm] at this
  simp only [List.length_append, List.length_cons, List.length_nil] at this ⊢
  omega
def ptEnc (p : S23) : Array Value := #[.agg #[.int .i64 p.f0, .int .i64 p.f1]]
set_option maxRecDepth 100000 in
set_option maxHeartbeats 4000000 in
theorem points1_in (F : Fence) (n : Nat) (h57 : F.fn 57) (hro : F.round = none) (hn : 1 ≤ n) (l Bs fb : Nat) (f : Ft) (A : Option Addr) (c : Nat) (w : World) (hw : Feat w fb f A c) (J Jx : List S23 → World → Prop) (W : World) (hW : KB w Bs fb W) (hJa : AbidesFrom W.heap.size J)
    (hY : ∀ pre x W1, J pre W1 → pre.length < f.rings.flatten.length → YieldAt F (n - 1) Try.prog l (ptEnc x) W1 fun e W' =>
      (e = .returned (.bool true) ∧ J (pre ++ [x]) W' ∧ Kp0 w Bs fb W1 W') ∨ (e = .returned (.bool false) ∧ Jx (pre ++ [x]) W'))
    (h0 : J [] W) :
    CallsIn F n Try.prog 57 #[.func (.yield l) #[] #[], .pointer (some ⟨Bs, 0, none⟩)] W fun e W' => (∃ v, e = .returned v) ∧
      ((∃ ys, ys = f.rings.flatten ∧ J ys W') ∨ (∃ pre, pre <+: f.rings.flatten ∧ Jx pre W')) := by
  obtain ⟨c1, c2, c3, hRC⟩ := hw.below hW.1
  have c0 := hW.2
  have HW := Aside0.mk hw
  have HY := Aside0.mk hY
  have HJa := Aside0.mk hJa
  have HWb := Aside0.mk hW
  have hmax : (f.rings.length : Int) ≤ 9223372036854775807 := by have := hRC.2.1; omega
  clear hw hY hJa hW hRC
  refine callsIn_of_wp Try.func57 rfl h57 ?_ hro
  simp only [Try.ntmps57, List.size_toArray, List.length_cons, List.length_nil, Nat.reduceAdd, Nat.reduceSub, Array.replicate_succ, Array.replicate_zero, List.push_toArray, List.append_toArray, List.nil_append, List.cons_append]
  gi_wp2
  gi_loopw [12] (fun i wr => ∃ k : Nat, k ≤ f.rings.length ∧ i = .int .i64 k ∧ Aside0 (J (f.rings.take k).flatten wr) ∧ Aside0 (KB w Bs fb wr)) (fun i _ => f.rings.length - (intOf i).toNat)
  case atStart => exact ⟨0, Nat.zero_le _, rfl, ⟨h0⟩, HWb⟩
  case round =>
    clear h0 c0 c1 c2 c3
    obtain ⟨k, hk, rfl, HJ, HB⟩ := hrel
    by_cases hlt : k < f.rings.length
    · obtain ⟨ad, A0, ca, e1, hx, hc, hp⟩ := at_r (HW.out.below HB.out.1).row k hlt
      subst e1
      have hmp : ((rdR f.rings k).length : Int) ≤ 9223372036854775807 := by have := hp.2.1; omega
      clear hp
      have HLn := Aside0.mk (flat_lt f.rings k hlt)
      have HPr := Aside0.mk (flat_pre f.rings k hlt)
      have HNx := Aside0.mk (flat_at f.rings k hlt)
      have HRow := Aside0.mk (show ∀ W, Below w.heap.size w W → ∃ A1 c1, W.cell? (ad.add k) = some (.slice A1 (rdR f.rings k).length c1) ∧ PC W A1 (rdR f.rings k) from fun W hW => by
        obtain ⟨ad', A0, ca, e1, hx, hc, hp⟩ := at_r (HW.out.below hW).row k hlt
        cases e1
        exact ⟨A0, ca, hx, hp⟩)
      have HX := Aside0.mk hx
      have HPC := Aside0.mk (show ∀ W, Below w.heap.size w W → PC W A0 (rdR f.rings k) from fun W hW => by
        obtain ⟨ad', A0', ca', e1, hx', hc', hp'⟩ := at_r HW.out.row k hlt
        cases e1
        have := (pw_cell_below HB.out.1 hx').symm.trans HX.out
        injection this with this
        injection this with e2 e3 e4
        subst e2
        exact Kd.C_below hp' hW)
      gi_wp2
      clear hx HX HRow
      generalize rdR f.rings k = ps at *
      gi_loopw [18] (fun j wi => ∃ m : Nat, m ≤ ps.length ∧ j = .int .i64 m ∧ Aside0 (J ((f.rings.take k).flatten ++ ps.take m) wi) ∧ Aside0 (KB w Bs fb wi)) (fun j _ => ps.length - (intOf j).toNat)
      case atStart => exact ⟨0, Nat.zero_le _, rfl, ⟨by simpa using HJ.out⟩, HB⟩
      case round =>
        clear HJ HB
        obtain ⟨m, hm, rfl, HJ, HB⟩ := hrel
        by_cases hlm : m < ps.length
        · obtain ⟨ad1, e2, p0, p1⟩ := at_p (HPC.out _ HB.out.1) m hlm
          subst e2
          have HTk := Aside0.mk (take_at ps m hlm)
          generalize rdP ps m = p at *
          obtain ⟨fn, tmps, assign, body, hy, hR⟩ := HY.out _ p (wr.alloc (.cells #[.int .i64 p.f0, .int .i64 p.f1] 23)) (HJa.out _ _ _ none HJ.out (World.grownBy_alloc _ _ none) (fun r e => by cases e)) (HLn.out m hlm)
          dsimp only [ptEnc] at hy
          have HBa := Aside0.mk (HB.out.below (below_alloc (Below.refl _ _) (.cells #[.int .i64 p.f0, .int .i64 p.f1] 23)))
          gi_wp2
          refine hR.mono ?_
          rintro e W3 (⟨rfl, hJ3, hk3⟩ | ⟨rfl, hJx3⟩)
          · have HJ3 := Aside0.mk hJ3
            have HB3 := Aside0.mk (HBa.out.keep hk3)
            clear hJ3 hk3 hy hR
            gi_wp2
            go_roundw
            case rel => exact ⟨m + 1, by omega, by go_num, ⟨by rw [HTk.out, ← List.append_assoc]; exact HJ3.out⟩, HB3⟩
            case measure => simp [intOf]; omega
          · have HJ3 := Aside0.mk hJx3
            clear hJx3 hy hR
            gi_wp2
            refine bodyPost_ret (results_none rfl _ _ _) rfl ?_
            exact ⟨⟨_, rfl⟩, .inr ⟨_, by have := HPr.out (m + 1) (by omega); rw [HTk.out, ← List.append_assoc] at this; exact this, HJ3.out⟩⟩
        · obtain rfl : m = ps.length := by omega
          gi_wp2
          go_roundw
          case rel => exact ⟨k + 1, by omega, by go_num, ⟨by rw [HNx.out]; have := HJ.out; rwa [List.take_length] at this⟩, HB⟩
          case measure => simp [intOf]; omega
    · obtain rfl : k = f.rings.length := by omega
      gi_wp2
      go_end0
      refine ⟨⟨_, rfl⟩, .inl ⟨_, rfl, ?_⟩⟩
      have := HJ.out
      rwa [List.take_length] at this
theorem points_any (fb : Nat) (w : World) : Calls Try.prog 35 #[.pointer (some ⟨fb, 0, none⟩)] w fun e w' => e = .returned (.func (.func 57) #[] #[.pointer (some ⟨w.heap.size, 0, none⟩)]) ∧ w' = w.alloc (.cells #[.pointer (some ⟨fb, 0, none⟩)] 60) := by
  go_enter Try.func35, Try.ntmps35
  go_wp2
  go_ret
  exact ⟨rfl, rfl⟩
theorem points_stops (F : Fence) (n : Nat) (h57 : F.fn 57) (hro : F.round = none) (hn : 1 ≤ n) (Bs fb : Nat) (f : Ft) (A : Option Addr) (c : Nat) (w W0 : World) (hw : Feat w fb f A c) (hk : KB w Bs fb W0) :
    SeqStopsK F n Try.prog 57 #[.pointer (some ⟨Bs, 0, none⟩)] ptEnc (Kp0 w Bs fb) (fun ys => ys = f.rings.flatten) (fun pre => pre <+: f.rings.flatten) f.rings.flatten.length W0 :=
  fun l J Jx W hW hJ _ hY h0 => points1_in F n h57 hro hn l Bs fb f A c w hw J Jx W (hk.below hW) hJ hY h0
end Go.Proofs.Ytmednnpmkhgfpaa.SH
