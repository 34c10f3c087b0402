/- The statements' lending of numbers: a copy with marked room behind it; it is as it was. -/
import Derived.Test.YtmmamceijnnfdaaLkB
import Derived.IntWalk
import Derived.BigQuiet
namespace Go.Proofs.Ytmmamceijnnfdaa.LK
open Go Go.RowKit Go.Maps Go.Proofs.YtmmamceijnnfdaaW.PrintWords Go.Proofs.YtmmamceijnnfdaaW.PrintLast Go.Proofs.YtmmamceijnnfdaaW.PrintMore Go.Proofs.Ytmmamceijnnfdaa.PLockActs
set_option linter.unusedVariables false
set_option linter.unusedSimpArgs false

theorem copy_any (A : Option Addr) (c : Nat) (l : List Int) (w : World) (h : Kd.C (Kd.int .i64) w A l.length l) (hc : l.length ≤ c) (hl : l.length < 17592186044416) :
    Calls Try.prog 21 #[.slice A l.length c] w fun e w' => ∃ v0_ : Value, e = .returned v0_ ∧ Kd.R (Kd.int .i64) 3 w' w.heap.size (fun _ => True) v0_ l ∧ Below w.heap.size w w' :=
  furlonglaw0_CopyInts.calls A c l l w h hc (copy_is l hl)
/-- what is lent: the numbers, and two marks behind them -/
def Lent (w : World) (B : Nat) (A : Option Addr) (n c : Nat) (l : List Int) : Prop := n = l.length ∧ Kd.R (Kd.int .i64) 3 w B (fun _ => True) (.slice A (l.length + 2) c) (l ++ [-7777, -8888])
def LendIs (w : World) (l : List Int) (e : Ending) (w' : World) : Prop := ∃ A c, e = .returned (.slice A l.length c) ∧ Lent w' w.heap.size A l.length c l ∧ Below w.heap.size w w'
set_option maxHeartbeats 4000000 in
set_option maxRecDepth 100000 in
theorem lend_any (A : Option Addr) (c : Nat) (l : List Int) (w : World) (h : Kd.C (Kd.int .i64) w A l.length l) (hc : l.length ≤ c) (hl : l.length + 2 < 17592186044416) :
    Calls Try.prog 7 #[.slice A l.length c] w (LendIs w l) := by
  have HR := Aside0.mk h
  have HL := Aside0.mk hl
  have HC := Aside0.mk hc
  clear h hl hc
  go_enter Try.func7, Try.ntmps7
  go_wp2_with (first | (go_at_call 21; refine (copy_any _ _ l _ HR.out HC.out (by have := HL.out; omega)).mono ?_; rintro e w1 ⟨v1, rfl, ho, hb⟩; have HO := Aside0.mk ho; have HB := Aside0.mk hb; clear ho hb) | ((with_reducible refine gate_dst (N := 6) rfl ?_); go_must (refine Kd.R_lit (Kd.int .i64) (w0 := w1) w1.heap.size 3 ?hg (N := 6) ?hd (xs := ([-7777, -8888] : List Int)) (inner := [.int .i64 (-7777), .int .i64 (-8888)]) (ok := fun _ => True) (okp := fun _ => False) ?hr ?hp (fun _ hk => hk.elim) trivial (Below.refl _ _) (Nat.le_refl _) (by simp) ?_; (case hd => rfl); (case hg => rfl); (case hr => first | (go_simp; done) | (go_simp; rfl)); (case hp => exact (Reps.one (show Kd.M (Kd.int .i64) _ _ _ (-7777) [.int .i64 (-7777)] from rfl) (Reps.one (show Kd.M (Kd.int .i64) _ _ _ (-8888) [.int .i64 (-8888)] from rfl) (Reps.none _ _)))); intro v2 w3 ho4 hb hg_ hnew_; clear hg_ hnew_; obtain ⟨A2, c2, rfl, hc2, hC2⟩ := Kd.R_reads ho4; have HO2 := Aside0.mk hC2; have HB2 := Aside0.mk hb; clear ho4 hb hC2)) | ((with_reducible refine gate_builtin (b := .append) (xs := #[.tmp 5, .tmp 6]) rfl ?_); at_builtin; go_must (refine Kd.R_append_rows (Kd.int .i64) (w0 := w) w.heap.size rfl (.tmp 5) (.tmp 6) 31 3 (.int .i64 0) 8 rfl Try.underlying31 info3 rfl (by decide) (by omega) v1 l [-7777, -8888] _ _ _ (fun _ => True) (fun _ => False) rfl rfl (Kd.R_below HO.out HB2.out) HO2.out (fun _ _ h => h) (fun _ h => h.elim) (fun _ _ => trivial) (below_then HB.out HB.out.size HB2.out) (below_then HB.out HB.out.size HB2.out).size (by have := HL.out; show (l.length + 2) * 8 ≤ _; omega) ?_; intro v3 w5 ho hb hg hat; clear hg hat; obtain ⟨A3, c3, rfl, hc3, hC3⟩ := Kd.R_reads ho; simp only [List.length_append, List.length_cons, List.length_nil, Nat.zero_add, Nat.reduceAdd] at ho hc3 ⊢; have HO3 := Aside0.mk ho; have HB3 := Aside0.mk hb; have hle : l.length ≤ c3 := (by omega); clear ho hb hC3)))
  go_ret
  exact ⟨_, _, rfl, ⟨rfl, HO3.out⟩, HB3.out⟩
theorem wrap_two (n : Nat) (hn : n < 17592186044416) : wrap64 ((n : Int) + 2) = (n : Int) + 2 := by unfold wrap64; omega
set_option maxHeartbeats 4000000 in
set_option maxRecDepth 100000 in
theorem kept_any (A : Option Addr) (c : Nat) (l : List Int) (A1 : Option Addr) (c1 : Nat) (w : World) (h : Kd.C (Kd.int .i64) w A (l.length + 2) (l ++ [-7777, -8888])) (hc : l.length + 2 ≤ c) (h1 : Kd.C (Kd.int .i64) w A1 l.length l) (hc1 : l.length ≤ c1) (hl : l.length + 2 < 17592186044416) :
    Calls Try.prog 10 #[.slice A l.length c, .slice A1 l.length c1] w fun e w' => e = .returned (.bool true) ∧ Drawn0 w w' := by
  have hat : ∀ i : Nat, i < l.length + 2 → ∃ ad, A = some ad ∧ w.cell? (ad.add i) = some (.int .i64 ((l ++ [-7777, -8888]).getD i 0)) := by
    intro i hi
    obtain ⟨ad, c, e, _, hK, hc0⟩ := Kd.C_get h 0 (i : Int) (by omega) (by omega)
    have e1 : c = [.int .i64 ((l ++ [-7777, -8888]).getD i 0)] := hK
    subst e1
    have := hc0 0 _ rfl
    refine ⟨ad, e, ?_⟩
    have hs : (Kd.int .i64).sz = 1 := rfl
    rw [hs] at this
    simpa using this
  obtain ⟨ad, rfl, h7⟩ := hat l.length (by omega)
  obtain ⟨ad', e', h8⟩ := hat (l.length + 1) (by omega)
  cases e'
  have g7 : (l ++ [-7777, -8888]).getD l.length 0 = (-7777 : Int) := by simp
  rw [g7] at h7
  clear g7
  have g8 : (l ++ [-7777, -8888]).getD (l.length + 1) 0 = (-8888 : Int) := by simp [List.getElem?_append_right]
  rw [g8] at h8
  clear g8
  have h8' : w.cell? ⟨ad.block, ad.off + (l.length + 1), none⟩ = some (.int .i64 (-8888)) := by
    have := h8
    unfold Addr.add at this
    simpa using this
  have hg : Kd.C (Kd.int .i64) w (some ad) l.length l := by
    have h' : Kd.C (Kd.int .i64) w (some ad) (l ++ [-7777, -8888]).length (l ++ [-7777, -8888]) := by simpa using h
    have := Kd.C_take h' (m := l.length) (by simp)
    simpa using this
  have HG := Aside0.mk hg
  have HC1 := Aside0.mk h1
  have HC := Aside0.mk (show l.length ≤ c by omega)
  have HCb := Aside0.mk hc1
  have hsame : ∀ W, Below w.heap.size w W → Calls Try.prog 24 #[.slice (some ad) l.length c, .slice A1 l.length c1] W fun e w' => e = .returned (.bool true) ∧ Drawn0 W w' := by
    intro W hb
    have := sameInts_any (some ad) c l A1 c1 l W (Kd.C_below HG.out hb) HC.out (Kd.C_below HC1.out hb) HCb.out
    rw [show (l == l) = true from beq_self_eq_true l] at this
    exact this
  have HS := Aside0.mk hsame
  have hw2 : IntKind.i64.wrap ((l.length : Int) + 2) = (l.length : Int) + 2 := IntWalk.i64_in _ ⟨by omega, by omega⟩
  have hw1 : IntKind.i64.wrap ((l.length : Int) + 1) = (l.length : Int) + 1 := IntWalk.i64_in _ ⟨by omega, by omega⟩
  clear hsame hg h1 h hat hc1
  go_enter Try.func10, Try.ntmps10
  go_wp2_with (go_at_call 24; refine (HS.out _ (Below.refl _ _)).mono ?_; rintro e w1 ⟨rfl, ⟨nd, rfl⟩⟩)
  go_ret
  exact ⟨by simp, ⟨⟨_, rfl⟩⟩⟩
end Go.Proofs.Ytmmamceijnnfdaa.LK
