/- What the document's own locks answer: Holder, All, Free. -/
import Derived.Test.YtmmamceijnnfdaaLkE
import Derived.Deep.DeepCutAuto
import Derived.Deep.LoopGhost
import Derived.Deep.QuietTactic
import Derived.BigQuiet
namespace Go.Proofs.Ytmmamceijnnfdaa.LK
open Go Go.RowKit Go.Maps Go.Proofs.YtmmamceijnnfdaaW.PrintWords Go.Proofs.YtmmamceijnnfdaaW.PrintLast Go.Proofs.YtmmamceijnnfdaaW.PrintMore Go.Proofs.Ytmmamceijnnfdaa.PLockActs
set_option linter.unusedVariables false
set_option linter.unusedSimpArgs false
attribute [local go_sem high] eqA30

/-- who holds an id, as the document tells it -/
def meets (id : Int) (x : S55) : Bool := x.f2 || hasId x.f1 id
def holderL : List S55 → Int → S30 × Bool
  | [], _ => (z30, false)
  | x :: l, id => if meets id x then (x.f0, true) else holderL l id
theorem holder_at (l : List S55) (id : Int) (k : Nat) (hk : k < l.length) : holderL (l.drop k) id = if meets id (rd_T55 l k) then ((rd_T55 l k).f0, true) else holderL (l.drop (k + 1)) id := by
  have h := drop_rd l z55 (k : Int) (by omega) (by omega)
  rw [show ((k : Int)).toNat = k by omega, show ((k : Int) + 1).toNat = k + 1 by omega] at h
  rw [h, holderL]
  rfl
theorem hasId_to (A : Option Addr) (c : Nat) (l : List Int) (x : Int) (v : Bool) (w : World) (hv : hasId l x = v) (h : Kd.C (Kd.int .i64) w A l.length l) (hc : l.length ≤ c) :
    Calls Try.prog 23 #[.slice A l.length c, .int .i64 x] w fun e w' => e = .returned (.bool v) ∧ Drawn0 w w' := by
  rw [← hv]
  exact hasId_any A c l x w h hc
set_option maxHeartbeats 8000000 in
set_option maxRecDepth 100000 in
theorem rHolder_any (rb : Nat) (ok : Nat → Prop) (L : List S55) (id : Int) (w : World) (h : Lks w ok rb L) :
    Calls Try.prog 15 #[.pointer (some ⟨rb, 0, none⟩), .int .i64 id] w (HolderIs w (holderL L id)) := by
  obtain ⟨v, h1, h2, h3⟩ := h
  obtain ⟨A, c, rfl, hc, hC⟩ := Kd.R_reads h3
  have hrl := blk_lt h2
  have hn : rb ≠ w.heap.size := Nat.ne_of_lt hrl
  have hn' : w.heap.size ≠ rb := Ne.symm hn
  have H2 := Aside0.mk h2
  have HC := Aside0.mk hC
  have hmax := C_max hC
  clear h1 h2 h3 hC
  go_enter Try.func15, Try.ntmps15
  go_wp2
  go_loopw [6] (fun i wr => ∃ k : Nat, k ≤ L.length ∧ i = .int .i64 k ∧ Aside0 (holderL (L.drop k) id = holderL L id) ∧ Aside0 (Below w.heap.size w wr) ∧ Aside0 (wr.heap[w.heap.size]? = some (.cells #[.int .i64 0, .int .i64 0] 30 (0, 0)))) (fun i _ => L.length - (intOf i).toNat)
  case atStart => exact ⟨0, Nat.zero_le _, rfl, ⟨rfl⟩, ⟨below_alloc (Below.refl _ _) _⟩, ⟨blk_new w _⟩⟩
  case round =>
    obtain ⟨k, hk, rfl, HH, HB, HX⟩ := hrel
    have c0 : wr.cell? ⟨rb, 0, none⟩ = some (.slice A L.length c) := (HB.out.cell (p := ⟨rb, 0, none⟩) hrl).trans ((blk_cell H2.out 0).trans rfl)
    by_cases hlt : k < L.length
    · obtain ⟨ad, A2, c2, e1, hx0, hx1, hx2, hx3, hl2, hC2⟩ := at_T55 (Kd.C_below HC.out HB.out) (k : Int) (by omega) (by omega)
      subst e1
      have HA := Aside0.mk (holder_at L id k hlt)
      rw [show ((k : Int)).toNat = k by omega] at hx0 hx1 hx2 hx3
      have HC2 := Aside0.mk hC2
      clear hC2
      have r0 : wr.cell? ⟨w.heap.size, 0, none⟩ = some (.int .i64 0) := (blk_cell HX.out 0).trans rfl
      have r1 : wr.cell? ⟨w.heap.size, 1, none⟩ = some (.int .i64 0) := (blk_cell HX.out 1).trans rfl
      have f0 := blk_frozen HX.out 0
      have f1 := blk_frozen HX.out 1
      cases hf : (rd_T55 L k).f2
      · cases hi : hasId (rd_T55 L k).f1 id
        · have HM := Aside0.mk (show meets id (rd_T55 L k) = false by unfold meets; rw [hf, hi]; rfl)
          have HI := Aside0.mk hi
          rw [hf] at hx3
          clear hf hi
          go_wp2_with (go_at_call 23; refine (hasId_to _ _ _ _ _ _ HI.out HC2.out hl2).mono ?_; rintro e w1 ⟨rfl, ⟨nd, rfl⟩⟩)
          go_roundw
          case rel => exact ⟨k + 1, by omega, by go_num, ⟨by rw [← HH.out, HA.out, HM.out]; rfl⟩, ⟨pw_below_drewN HB.out _⟩, ⟨HX.out⟩⟩
          case measure => simp [intOf]; omega
        · have HM := Aside0.mk (show meets id (rd_T55 L k) = true by unfold meets; rw [hf, hi]; rfl)
          have HI := Aside0.mk hi
          rw [hf] at hx3
          clear hf hi
          go_wp2_with (go_at_call 23; refine (hasId_to _ _ _ _ _ _ HI.out HC2.out hl2).mono ?_; rintro e w1 ⟨rfl, ⟨nd, rfl⟩⟩)
          refine bodyPost_ret (v := .tuple #[.agg #[.int .i64 (rd_T55 L k).f0.f0, .int .i64 (rd_T55 L k).f0.f1], .bool true]) (by simp [*, results, Try.results15, go_sem]) rfl ⟨?_, by repeat (first | exact HB.out | apply below_alloc | apply pw_below_drewN | apply below_drew | refine below_set ?_ (Nat.le_refl _))⟩
          rw [← HH.out, HA.out, HM.out, if_pos rfl]
      · have HM := Aside0.mk (show meets id (rd_T55 L k) = true by unfold meets; rw [hf]; rfl)
        rw [hf] at hx3
        clear hf
        go_wp2_with fail
        refine bodyPost_ret (v := .tuple #[.agg #[.int .i64 (rd_T55 L k).f0.f0, .int .i64 (rd_T55 L k).f0.f1], .bool true]) (by simp [*, results, Try.results15, go_sem]) rfl ⟨?_, by repeat (first | exact HB.out | apply below_alloc | apply pw_below_drewN | apply below_drew | refine below_set ?_ (Nat.le_refl _))⟩
        rw [← HH.out, HA.out, HM.out, if_pos rfl]
    · have r0 : wr.cell? ⟨w.heap.size, 0, none⟩ = some (.int .i64 0) := (blk_cell HX.out 0).trans rfl
      have r1 : wr.cell? ⟨w.heap.size, 1, none⟩ = some (.int .i64 0) := (blk_cell HX.out 1).trans rfl
      have f0 := blk_frozen HX.out 0
      have f1 := blk_frozen HX.out 1
      go_wp2_with fail
      refine bodyPost_ret (v := .tuple #[.agg #[.int .i64 0, .int .i64 0], .bool false]) (by simp [*, results, Try.results15, go_sem]) rfl ⟨?_, by repeat (first | exact HB.out | apply below_alloc | apply pw_below_drewN | apply below_drew | refine below_set ?_ (Nat.le_refl _))⟩
      rw [← HH.out, List.drop_eq_nil_of_le (by omega)]
      rfl

def txsL (l : List S55) : List S30 := l.map (·.f0)
theorem txs_next (l : List S55) (k : Nat) (hk : k < l.length) : txsL (l.take (k + 1)) = txsL (l.take k) ++ [(rd_T55 l k).f0] := by
  unfold txsL
  rw [List.take_succ_eq_append_getElem hk, List.map_append]
  have e : rd_T55 l k = l[k] := by unfold rd_T55; simp [hk]
  rw [e]
  rfl
set_option maxHeartbeats 8000000 in
set_option maxRecDepth 100000 in
theorem rAll_any (rb : Nat) (ok : Nat → Prop) (L : List S55) (w : World) (h : Lks w ok rb L) (hl : L.length * 16 ≤ 140737488355328) :
    Calls Try.prog 18 #[.pointer (some ⟨rb, 0, none⟩)] w (AllIs w (txsL L)) := by
  obtain ⟨v, h1, h2, h3⟩ := h
  obtain ⟨A, c, rfl, hc, hC⟩ := Kd.R_reads h3
  have hrl := blk_lt h2
  have H2 := Aside0.mk h2
  have HC := Aside0.mk hC
  have HL := Aside0.mk hl
  have hmax := C_max hC
  clear h1 h2 h3 hC hl
  go_enter Try.func18, Try.ntmps18
  go_wp2
  go_loopw [3, 4] (fun o i wr => ∃ k : Nat, k ≤ L.length ∧ i = .int .i64 k ∧ Aside0 (Kd.R k30 30 wr w.heap.size (fun _ => True) o (txsL (L.take k))) ∧ Aside0 (Below w.heap.size w wr)) (fun _ i _ => L.length - (intOf i).toNat)
  case atStart => exact ⟨0, Nat.zero_le _, rfl, ⟨Kd.R_nil _ _ _ _ _⟩, ⟨Below.refl _ _⟩⟩
  case round =>
    obtain ⟨k, hk, rfl, HO, HB⟩ := hrel
    have c0 : wr.cell? ⟨rb, 0, none⟩ = some (.slice A L.length c) := (HB.out.cell (p := ⟨rb, 0, none⟩) hrl).trans ((blk_cell H2.out 0).trans rfl)
    by_cases hlt : k < L.length
    · obtain ⟨ad, A2, c2, e1, hx0, hx1, hx2, hx3, hl2, hC2⟩ := at_T55 (Kd.C_below HC.out HB.out) (k : Int) (by omega) (by omega)
      subst e1
      rw [show ((k : Int)).toNat = k by omega] at hx0 hx1 hx2 hx3
      go_wp2_with ((with_reducible refine gate_builtin (b := .append) (xs := #[.tmp 14, .tmp 23]) rfl ?_); go_must (refine Kd.R_append k30 (w0 := w) w.heap.size rfl (.tmp 14) (.tmp 23) 42 30 (.agg #[.int .i64 0, .int .i64 0]) 16 rfl Try.underlying42 info30 rfl (by decide) (by omega) _ (txsL (L.take k)) (rd_T55 L k).f0 [.int .i64 (rd_T55 L k).f0.f0, .int .i64 (rd_T55 L k).f0.f1] (fun _ => True) (fun _ => False) rfl rfl (k30_mkM _ _ _ _) (fun _ h => h.elim) (fun _ _ => trivial) HO.out HB.out HB.out.size (by have := HL.out; simp [txsL]; omega) ?_; intro v3 w3 ho hb hg hat; clear hg hat; rw [← txs_next L k hlt] at ho; have HO3 := Aside0.mk ho; have HB3 := Aside0.mk hb; clear ho hb))
      go_roundw
      case rel => exact ⟨k + 1, by omega, by go_num, HO3, HB3⟩
      case measure => simp [intOf]; omega
    · obtain rfl : k = L.length := by omega
      rw [List.take_length] at HO
      go_wp2_with fail
      go_ret
      exact ⟨_, rfl, HO.out, HB.out⟩

theorem info55 : (Try.prog.info? 55).map (fun i => (i.zero, i.size, i.bytes)) = some (some (.agg #[.int .i64 0, .int .i64 0, .slice none 0 0, .bool false]), 4, 48) := by kernel_rfl
theorem row_head {α : Type} {d : Kd α} {e base n c : Nat} {ok : Nat → Prop} {w : World} {A : Option Addr} {xs : List α} (h : d.R e w base ok (.slice A n c) xs) (hn : 0 < n) : ∃ g, A = some ⟨g, 0, none⟩ := by
  have h1 := (Kd.R_reads' h).1
  obtain ⟨_, inner, ho, _⟩ := h
  rcases ho.2 with ⟨e, h0⟩ | ⟨g, cap, cur, e, _⟩
  · omega
  · injection e with e _ _
    exact ⟨g, e⟩
def staysL (t : S30) (x : S55) : Bool := stays t x.f0
def freeL (L : List S55) (t : S30) : List S55 := L.filter (staysL t)
theorem freeL_next (t : S30) (L : List S55) (k : Nat) (hk : k < L.length) : freeL (L.take (k + 1)) t = freeL (L.take k) t ++ if staysL t (rd_T55 L k) then [rd_T55 L k] else [] := by
  unfold freeL
  rw [List.take_succ_eq_append_getElem hk, List.filter_append]
  have e : rd_T55 L k = L[k] := by unfold rd_T55; simp [hk]
  rw [e]
  simp [List.filter_cons]
theorem freeL_len (t : S30) (L : List S55) : (freeL L t).length ≤ L.length := List.length_filter_le _ _
theorem own_then {a b : Nat} {v v1 : Value} (h : ∀ k, v.ownBlock = some k → a < k) (hl : a < b) (hat : v1.ownBlock = v.ownBlock ∨ ∃ k, v1.ownBlock = some k ∧ b ≤ k) : ∀ k, v1.ownBlock = some k → a < k := by
  intro k hk
  rcases hat with e | ⟨j, e, hj⟩
  · exact h k (e ▸ hk)
  · rw [e] at hk
    cases hk
    omega
theorem rowL_apart {w : World} {ok : Nat → Prop} {v : Value} {l : List S55} {rb : Nat} {cs : Array Value} (h : Kd.R k55 55 w 0 ok v l) (h0 : w.heap[rb]? = some (.cells cs 28 (0, 0))) : Kd.R k55 55 w 0 (fun k => ok k ∧ k ≠ rb) v l :=
  Kd.R_types h h0 (fun q hq => by
    have : q = 55 ∨ q = 3 := by simpa [k55, k30, Kd.iso, Kd.pair, Kd.int, Kd.bool, Kd.slice, Kd.scalar] using hq
    rcases this with rfl | rfl <;> decide)
def RFreeIs (w : World) (ok : Nat → Prop) (rb : Nat) (L : List S55) (t : S30) (e : Ending) (w' : World) : Prop :=
  e = .returned (.tuple #[]) ∧ Lks w' (fun k => ok k ∨ w.heap.size ≤ k) rb (freeL L t) ∧ Mv ok w w'
set_option maxHeartbeats 8000000 in
set_option maxRecDepth 100000 in
theorem rFree_any (rb : Nat) (ok : Nat → Prop) (L : List S55) (t : S30) (w : World) (h : Lks w ok rb L) (hl : (L.length + 1) * 48 ≤ 140737488355328) :
    Calls Try.prog 13 #[.pointer (some ⟨rb, 0, none⟩), .agg #[.int .i64 t.f0, .int .i64 t.f1]] w (RFreeIs w ok rb L t) := by
  obtain ⟨v, h1, h2, h3⟩ := Lks.bound h
  obtain ⟨A, c, rfl, hc, hC⟩ := Kd.R_reads h3
  have hrl := blk_lt h2
  have hn : rb ≠ w.heap.size := Nat.ne_of_lt hrl
  have hn' : w.heap.size ≠ rb := Ne.symm hn
  have H1 := Aside0.mk h1
  have H2 := Aside0.mk h2
  have H3 := Aside0.mk h3
  have HL := Aside0.mk hl
  have hmax := C_max hC
  clear h h1 h2 h3 hC hl
  go_enter Try.func13, Try.ntmps13
  go_wp2
  go_loopw [4, 5] (fun o i wr => ∃ k : Nat, k ≤ L.length ∧ i = .int .i64 k ∧ Aside0 (Kd.R k55 55 wr 0 (fun k => ok k ∧ k < w.heap.size ∨ w.heap.size < k) o (freeL (L.take k) t)) ∧ Aside0 (∀ k, o.ownBlock = some k → w.heap.size < k) ∧ Aside0 (Below w.heap.size w wr) ∧ Aside0 (wr.heap[w.heap.size]? = some (.cells #[.int .i64 t.f0, .int .i64 t.f1] 30 (0, 0)))) (fun _ i _ => L.length - (intOf i).toNat)
  case atStart => exact ⟨0, Nat.zero_le _, rfl, ⟨Kd.R_nil _ _ _ _ _⟩, ⟨fun k hk => by simp [Value.ownBlock] at hk⟩, ⟨below_alloc (Below.refl _ _) _⟩, ⟨blk_new w _⟩⟩
  case round =>
    obtain ⟨k, hk, rfl, HO, HN, HB, HX⟩ := hrel
    have c0 : wr.cell? ⟨rb, 0, none⟩ = some (.slice A L.length c) := (HB.out.cell (p := ⟨rb, 0, none⟩) hrl).trans ((blk_cell H2.out 0).trans rfl)
    by_cases hlt : k < L.length
    · obtain ⟨g, rfl⟩ := row_head H3.out (by omega)
      have HR := Aside0.mk (Kd.R_below H3.out HB.out)
      obtain ⟨cs, hcl, hM, hcc, hfr⟩ := Kd.R_elem HR.out z55 (k : Int) (by omega) (by omega)
      generalize hp : L.getD ((k : Int)).toNat z55 = p at hM
      have HP := Aside0.mk (show rd_T55 L k = p from hp)
      clear hp
      have HM := Aside0.mk hM
      obtain ⟨v2, rfl, hv2⟩ := k55_openM hM
      obtain ⟨A2, c2, rfl, hl2, hC2⟩ := Kd.R_reads hv2
      have hx0 := hcc 0 _ rfl
      have hx1 := hcc 1 _ rfl
      have hx2 := hcc 2 _ rfl
      have hx3 := hcc 3 _ rfl
      rw [show ((k : Int)).toNat = k by omega] at hx0 hx1 hx2 hx3
      rw [show k55.sz = 4 from rfl] at hx0 hx1 hx2 hx3
      rw [Nat.add_zero] at hx0
      have x0 : wr.cell? ⟨w.heap.size, 0, none⟩ = some (.int .i64 t.f0) := (blk_cell HX.out 0).trans rfl
      have x1 : wr.cell? ⟨w.heap.size, 1, none⟩ = some (.int .i64 t.f1) := (blk_cell HX.out 1).trans rfl
      clear hcl hcc hfr hM hv2 hC2
      go_wp2_with fail
      go_quiet (fail)
      have hXl := blk_lt HX.out
      go_wp2_with ((with_reducible refine gate_builtin (b := .append) (xs := #[.tmp 25, .tmp 33]) rfl ?_); go_must (change wpList _ _ _ _ _ ((wr.drewN nq).alloc (.cells #[.int .i64 p.f0.f0, .int .i64 p.f0.f1, .slice A2 p.f1.length c2, .bool p.f2] 55)); refine Kd.R_append k55 (w0 := wr.drewN nq) 0 rfl (.tmp 25) (.tmp 33) 26 55 (.agg #[.int .i64 0, .int .i64 0, .slice none 0 0, .bool false]) 48 rfl Try.underlying26 info55 rfl (by decide) (by omega) u4 (freeL (L.take k) t) p [.int .i64 p.f0.f0, .int .i64 p.f0.f1, .slice A2 p.f1.length c2, .bool p.f2] (fun k => ok k ∧ k < w.heap.size ∨ w.heap.size < k) (fun k => (ok k ∧ k < w.heap.size) ∧ k ≠ g) rfl rfl (Kd.M_below HM.out (pw_below_drewN (Below.refl _ _) _)) (fun k hk => ⟨Or.inl hk.1, fun e => Nat.lt_asymm hk.1.2 (HN.out k e.symm)⟩) (fun k hk => Or.inr (Nat.lt_of_lt_of_le hXl hk)) (Kd.R_drewN HO.out _) (Below.refl _ _) (Nat.zero_le _) (by have h1 := HL.out; have h2 := freeL_len t (L.take k); rw [List.length_take] at h2; omega) ?_; intro v3 w3 ho hb hg hat; clear hb; have HN3 := Aside0.mk (own_then HN.out hXl hat); have HO3 := Aside0.mk ho; have HB3 := Aside0.mk ((pw_below_drewN HB.out _).grown hg HB.out.size (fun k hk => Nat.le_of_lt (HN.out k hk))); have HX3 := Aside0.mk (blk_grown (w := wr.drewN nq) HX.out hg (fun e => Nat.lt_irrefl _ (HN.out _ e.symm))); clear ho hg hat))
      · have he : (!p.f0.f0 == t.f0) = true ∨ (!p.f0.f1 == t.f1) = true := by assumption
        have hs : staysL t p = true := by
          unfold staysL stays eqTx
          rcases he with he | he <;> simp at he <;> simp [he]
        have hf := freeL_next t L k hlt
        rw [HP.out, hs, if_pos rfl] at hf
        go_roundw
        case rel => exact ⟨k + 1, by omega, by go_num, ⟨by rw [hf]; exact HO3.out⟩, HN3, HB3, HX3⟩
        case measure => simp [intOf]; omega
      · have he : (!p.f0.f0 == t.f0) = false ∧ (!p.f0.f1 == t.f1) = false := by assumption
        have hs : staysL t p = false := by
          unfold staysL stays eqTx
          have h1 := he.1
          have h2 := he.2
          simp at h1 h2
          simp [h1, h2]
        have hf := freeL_next t L k hlt
        rw [HP.out, hs, if_neg (by simp), List.append_nil] at hf
        go_roundw
        case rel => exact ⟨k + 1, by omega, by go_num, ⟨by rw [hf]; exact Kd.R_drewN HO.out _⟩, HN, ⟨pw_below_drewN HB.out _⟩, ⟨HX.out⟩⟩
        case measure => simp [intOf]; omega
    · obtain rfl : k = L.length := by omega
      rw [List.take_length] at HO
      obtain ⟨A4, c4, rfl, _, _⟩ := Kd.R_reads HO.out
      have hT := (HB.out.block rb hrl).trans H2.out
      have f0 := blk_frozen hT 0
      have HT := Aside0.mk hT
      clear hT
      go_wp2_with fail
      go_end0
      refine ⟨rfl, ⟨_, Or.inl H1.out.1, blk_put HT.out 0 _ rfl, ?_⟩, ?_⟩
      · refine Kd.R_mono (Kd.R_far (p := ⟨rb, 0, none⟩) (rowL_apart HO.out HT.out) ?_ _) ?_
        · exact fun k hk => hk.2
        · intro k hk
          rcases hk.1 with h | h
          · exact Or.inl h.1
          · exact Or.inr (Nat.le_of_lt h)
      · exact (Mv.of_below HB.out).setCell (Or.inl H1.out.1) _
end Go.Proofs.Ytmmamceijnnfdaa.LK
