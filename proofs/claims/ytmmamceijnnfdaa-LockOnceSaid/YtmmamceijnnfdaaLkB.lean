/- The library's functions on rows of transactions (Clone, IndexFunc, DeleteFunc) and the statements' lending of numbers. -/
import Derived.Test.YtmmamceijnnfdaaLkQ
import Derived.Outline
import Derived.WalkSpells
namespace Go.Proofs.Ytmmamceijnnfdaa.LK
open Go Go.RowKit Go.Maps Go.Proofs.YtmmamceijnnfdaaW.PrintWords Go.Proofs.YtmmamceijnnfdaaW.PrintLast Go.Proofs.YtmmamceijnnfdaaW.PrintMore Go.Proofs.Ytmmamceijnnfdaa.PLockActs
set_option linter.unusedVariables false
set_option linter.unusedSimpArgs false
attribute [local go_sem high] eqA30

theorem info30 : (Try.prog.info? 30).map (fun i => (i.zero, i.size, i.bytes)) = some (some (.agg #[.int .i64 0, .int .i64 0]), 2, 16) := by kernel_rfl
theorem nil_of_none {α : Type} {d : Kd α} {w : World} {n : Nat} {xs : List α} (h : d.C w none n xs) : xs = [] ∧ n = 0 := by
  rcases Nat.eq_zero_or_pos n with h0 | h0
  · exact ⟨List.eq_nil_of_length_eq_zero (h.1.trans h0), h0⟩
  · obtain ⟨ad, e, _⟩ := h.2.2 h0
    cases e
set_option maxHeartbeats 4000000 in
set_option maxRecDepth 100000 in
theorem clone_any (A : Option Addr) (c : Nat) (l : List S30) (w : World) (h : Kd.C k30 w A l.length l) (hc : l.length ≤ c) (hl : l.length * 16 ≤ 140737488355328) :
    Calls Try.prog 27 #[.slice A l.length c] w fun e w' => ∃ v, e = .returned v ∧ Kd.R k30 30 w' w.heap.size (fun _ => True) v l ∧ Below w.heap.size w w' := by
  rcases A with _ | ad
  · obtain ⟨rfl, h0⟩ := nil_of_none h
    go_enter Try.func27, Try.ntmps27
    have e0 := Lib.run_eql_slice_nil (P := Try.prog) (w := w)
    go_wp2
    go_ret
    exact ⟨_, rfl, Kd.R_nil _ _ _ _ _, Below.refl _ _⟩
  · have e0 := Lib.run_eql_slice_nil (P := Try.prog) (w := w) 42 30 (some ad) l.length c 0 0 Try.underlying42
    have HR := Aside0.mk h
    have HL := Aside0.mk hl
    clear h hl
    go_enter Try.func27, Try.ntmps27
    go_wp2_with (first | ((with_reducible refine gate_dst (N := 5) rfl ?_); refine Kd.R_lit k30 (w0 := w) w.heap.size 30 ?hg (N := 5) ?hd (xs := ([] : List S30)) (inner := []) (ok := fun _ => True) (okp := fun _ => True) ?hr ?hp (fun _ hk => hk) trivial (Below.refl _ _) (Nat.le_refl _) (by simp) ?_; (case hd => rfl); (case hg => rfl); (case hr => first | (go_simp; done) | (go_simp; rfl)); (case hp => exact (Reps.none _ _)); intro v1 w3 ho4 hb hg_ hnew_; clear hg_ hnew_; have HO := Aside0.mk ho4; have HB := Aside0.mk hb; clear ho4 hb) | ((with_reducible refine gate_builtin (b := .append) (xs := #[.tmp 5, .tmp 6]) rfl ?_); at_builtin; refine Kd.R_append_rows k30 (w0 := w) w.heap.size rfl (.tmp 5) (.tmp 6) 42 30 (.agg #[.int .i64 0, .int .i64 0]) 16 rfl Try.underlying42 info30 rfl (by decide) (by omega) v1 [] l _ _ _ (fun _ => True) (fun _ => False) rfl rfl HO.out (Kd.C_below HR.out HB.out) ?hkm (fun _ h => h.elim) (fun _ _ => trivial) HB.out HB.out.size ?aL ?_; (case hkm => exact fun x cs hx => by rw [k30_open hx]; exact k30_mkM _ _ _ x); (case aL => simpa using HL.out); intro v2 w5 ho hb hg hat; have HO2 := Aside0.mk ho; have HB2 := Aside0.mk hb; clear ho hb hg hat))
    go_ret
    exact ⟨_, rfl, HO2.out, HB2.out⟩

set_option maxHeartbeats 4000000 in
/-- 'func(x api.Tx) bool { return x == tx }'. -/
theorem isTx_any (b : Nat) (t x : S30) (w : World) (h0 : w.cell? ⟨b, 0, none⟩ = some (.int .i64 t.f0)) (h1 : w.cell? ⟨b, 1, none⟩ = some (.int .i64 t.f1)) :
    Calls Try.prog 26 #[.agg #[.int .i64 x.f0, .int .i64 x.f1], .pointer (some ⟨b, 0, none⟩)] w fun e w' => e = .returned (.bool (eqTx x t)) ∧ Below w.heap.size w w' := by
  have hlt := World.block_lt_of_cell? w _ h0
  have hn : b ≠ w.heap.size := Nat.ne_of_lt hlt
  have hn' : w.heap.size ≠ b := Ne.symm hn
  go_enter Try.func26, Try.ntmps26
  go_wp2
  go_ret
  exact ⟨by simp [eqTx], below_alloc (Below.refl _ _) _⟩

def idxFrom (t : S30) : List S30 → Int → Int
  | [], _ => -1
  | x :: l, i => if eqTx x t then i else idxFrom t l (i + 1)
def idxTx (l : List S30) (t : S30) : Int := idxFrom t l 0
theorem idx_at (l : List S30) (t : S30) (k : Nat) (hk : k < l.length) : idxFrom t (l.drop k) k = if eqTx (rd_T30 l k) t then (k : Int) else idxFrom t (l.drop (k + 1)) ((k : Int) + 1) := by
  have h := drop_rd l z30 (k : Int) (by omega) (by omega)
  rw [show ((k : Int)).toNat = k by omega, show ((k : Int) + 1).toNat = k + 1 by omega] at h
  rw [h, idxFrom]
  rfl
set_option maxHeartbeats 4000000 in
set_option maxRecDepth 100000 in
theorem indexFunc_any (A : Option Addr) (c : Nat) (l : List S30) (b : Nat) (t : S30) (w : World) (h : Kd.C k30 w A l.length l) (h0 : w.cell? ⟨b, 0, none⟩ = some (.int .i64 t.f0)) (h1 : w.cell? ⟨b, 1, none⟩ = some (.int .i64 t.f1)) :
    Calls Try.prog 29 #[.slice A l.length c, .func (.func 26) #[] #[.pointer (some ⟨b, 0, none⟩)]] w fun e w' => e = .returned (.int .i64 (idxTx l t)) ∧ Below w.heap.size w w' := by
  have HR := Aside0.mk h
  have hm := C_max h
  have H0 := Aside0.mk h0
  have H1 := Aside0.mk h1
  clear h h0 h1
  go_enter Try.func29, Try.ntmps29
  go_wp2
  go_loopw [8] (fun i wr => ∃ k : Nat, k ≤ l.length ∧ i = .int .i64 k ∧ Aside0 (idxFrom t (l.drop k) k = idxTx l t) ∧ Aside0 (Below w.heap.size w wr)) (fun i _ => l.length - (intOf i).toNat)
  case atStart => exact ⟨0, Nat.zero_le _, rfl, ⟨rfl⟩, ⟨Below.refl _ _⟩⟩
  case round =>
    obtain ⟨k, hk, rfl, HI, HB⟩ := hrel
    by_cases hlt : k < l.length
    · have HX := Aside0.mk (idx_at l t k hlt)
      obtain ⟨ad, e1, hx0, hx1⟩ := at_T30 HR.out (k : Int) (by omega) (by omega)
      subst e1
      replace hx0 := (HB.out.cell (World.block_lt_of_cell? w _ hx0)).trans hx0
      replace hx1 := (HB.out.cell (World.block_lt_of_cell? w _ hx1)).trans hx1
      rw [show ((k : Int)).toNat = k by omega] at hx0 hx1
      go_wp2_with (go_at_call 26; refine (isTx_any b t (rd_T30 l k) _ ((HB.out.cell (World.block_lt_of_cell? w _ H0.out)).trans H0.out) ((HB.out.cell (World.block_lt_of_cell? w _ H1.out)).trans H1.out)).mono ?_; rintro e w1 ⟨rfl, hb⟩; have HB1 := Aside0.mk (below_then HB.out HB.out.size hb); clear hb)
      · go_ret
        refine ⟨?_, HB1.out⟩
        have he : eqTx (rd_T30 l k) t = true := by assumption
        rw [← HI.out, HX.out, if_pos he]
        rfl
      · go_roundw
        case rel =>
          have he : eqTx (rd_T30 l k) t = false := by assumption
          refine ⟨k + 1, by omega, by go_num, ⟨?_⟩, HB1⟩
          rw [← HI.out, HX.out, he]
          rfl
        case measure => simp [intOf]; omega
    · go_wp2
      go_ret
      refine ⟨?_, HB.out⟩
      rw [← HI.out, List.drop_eq_nil_of_le (by omega)]
      rfl

/-- which transactions stay -/
def stays (t : S30) (x : S30) : Bool := !eqTx x t
theorem idx_spec (t : S30) : ∀ (l : List S30) (i : Int), 0 ≤ i → (idxFrom t l i = -1 ∧ l.filter (stays t) = l) ∨ ∃ k : Nat, idxFrom t l i = i + k ∧ k < l.length ∧ (l.take (k + 1)).filter (stays t) = l.take k
  | [], i, h => Or.inl ⟨rfl, rfl⟩
  | x :: l, i, h => by
    unfold idxFrom
    cases e : eqTx x t
    · rcases idx_spec t l (i + 1) (by omega) with ⟨h1, h2⟩ | ⟨k, h1, h2, h3⟩
      · refine Or.inl ⟨h1, ?_⟩
        rw [List.filter_cons, if_pos (by simp [stays, e]), h2]
      · refine Or.inr ⟨k + 1, ?_, by simpa using h2, ?_⟩
        · rw [if_neg (by simp), h1]; omega
        · rw [List.take_succ_cons, List.filter_cons, if_pos (by simp [stays, e]), h3, List.take_succ_cons]
    · refine Or.inr ⟨0, by rw [if_pos rfl]; omega, by simp, ?_⟩
      simp [stays, e]
theorem zero30 (w : World) : (zeroValue 30).run Try.prog w = .ok (.agg #[.int .i64 0, .int .i64 0]) w := by kernel_rfl
theorem run_clear30 (w : World) (t e ty : TypeId) (z : Value) (P : Program) (ht : P.underlying t = some (.slice e)) (hv : (zeroValue e).run P w = .ok z w) (h1 : ∀ v ∈ z.cells, v.oneCell' = true) (hz : 0 < z.cells.size) (b o n c : Nat) (hn : 0 < n)
    (hc : ∀ j, j < n * z.cells.size → (w.cell? ⟨b, o + j, none⟩).isSome = true) (hf : ∀ j, j < n * z.cells.size → w.frozen? ⟨b, o + j, none⟩ = false) :
    (Builtin.clear_ #[t] ty #[.slice (some ⟨b, o, none⟩) n c]).run P w = .ok (.tuple #[]) (w.setCells b o (Builtin.zeroCells z.cells n).toList) ∧ (Builtin.zeroCells z.cells n).toList.length = n * z.cells.size := by
  have hl : (Builtin.zeroCells z.cells n).toList.length = n * z.cells.size := by simp [Builtin.zeroCells]
  have hall : ∀ v ∈ (Builtin.zeroCells z.cells n).toList, v.oneCell' = true := by
    intro v hv'
    simp only [Builtin.zeroCells, Array.toList_map, List.mem_map] at hv'
    obtain ⟨i, _, rfl⟩ := hv'
    have hi : i % z.cells.size < z.cells.size := Nat.mod_lt _ hz
    rw [getElem!_pos z.cells _ hi]
    exact h1 _ (Array.getElem_mem hi)
  have hst := run_storeCells_cells (P := P) b o (Builtin.zeroCells z.cells n).toList 0 w (by rw [hl]; simpa using hc) (by rw [hl]; simpa using hf) hall
  simp only [Nat.add_zero] at hst
  obtain ⟨m, rfl⟩ : ∃ m, n = m + 1 := ⟨n - 1, by omega⟩
  refine ⟨?_, hl⟩
  simp [Builtin.clear_, run_underlying ht, hv, hst, Result.andThen]
theorem elem30 {W : World} {base g n cap : Nat} {ok : Nat → Prop} {xs : List S30} (h : Kd.R k30 30 W base ok (.slice (some ⟨g, 0, none⟩) n cap) xs) (i : Nat) (hi : i < n) :
    W.cell? ⟨g, i * 2, none⟩ = some (.int .i64 (rd_T30 xs i).f0) ∧ W.cell? ⟨g, i * 2 + 1, none⟩ = some (.int .i64 (rd_T30 xs i).f1) ∧ W.frozen? ⟨g, i * 2, none⟩ = false ∧ W.frozen? ⟨g, i * 2 + 1, none⟩ = false := by
  obtain ⟨c, _, hM, hc, hf⟩ := Kd.R_elem h z30 (i : Int) (by omega) (by omega)
  rw [k30_openM hM] at hc
  exact ⟨hc 0 _ rfl, hc 1 _ rfl, hf 0, hf 1⟩
theorem put30 {W : World} {base g n cap : Nat} {ok : Nat → Prop} {xs : List S30} (h : Kd.R k30 30 W base ok (.slice (some ⟨g, 0, none⟩) n cap) xs) (i : Nat) (hi : i < n) (x : S30) :
    Kd.R k30 30 ((W.setCell ⟨g, i * 2, none⟩ (.int .i64 x.f0)).setCell ⟨g, i * 2 + 1, none⟩ (.int .i64 x.f1)) base ok (.slice (some ⟨g, 0, none⟩) n cap) (xs.set i x) ∧
      W.grownBy ((W.setCell ⟨g, i * 2, none⟩ (.int .i64 x.f0)).setCell ⟨g, i * 2 + 1, none⟩ (.int .i64 x.f1)) (some g) := by
  obtain ⟨c, hl, hM, hc, hf⟩ := Kd.R_elem h z30 (i : Int) (by omega) (by omega)
  have e := k30_openM hM
  have h2 := Kd.R_seg (okp := fun _ => False) h (i : Int) (by omega) (by omega) (c := c) (seg := [.int .i64 x.f0, .int .i64 x.f1]) (j := 0) hl hc (Nat.le_refl _) (x' := x) (by rw [e]; exact k30_mkM _ _ _ x) (fun _ h => h.elim)
  exact h2
theorem cut30 {W : World} {base g n cap : Nat} {ok : Nat → Prop} {xs : List S30} (h : Kd.R k30 30 W base ok (.slice (some ⟨g, 0, none⟩) n cap) xs) (i : Nat) (hi : i ≤ n) (vs : List Value) (hv : vs.length = (n - i) * 2) :
    Kd.R k30 30 (W.setCells g (i * 2) vs) base ok (.slice (some ⟨g, 0, none⟩) i cap) (xs.take i) ∧ W.grownBy (W.setCells g (i * 2) vs) (some g) := by
  obtain ⟨hn, hnc, _⟩ := Kd.R_reads' h
  have h1 := Kd.R_take h (m := i) (by omega)
  obtain ⟨hok, inner, ho, hr⟩ := h1
  obtain ⟨s1, s2, s3, s4⟩ := setCells_same g vs (i * 2) W
  have hfar : ∀ k, k ≠ g → (W.setCells g (i * 2) vs).heap[k]? = W.heap[k]? := fun k hk => setCells_far vs _ k hk
  refine ⟨?_, s1, s2, s3, by rw [s4]; exact Nat.le_refl _, fun k _ hk => hfar k (fun he => hk (by rw [he]))⟩
  obtain ⟨ho1, ho2⟩ := ho
  have hti : (xs.take i).length = i := by rw [List.length_take]; omega
  rcases ho2 with ⟨hv', _⟩ | ⟨g', cap', cur, hv', hb, hh, hnc', hcm, hcs, ht⟩
  · cases hv'
  injection hv' with ha _ hc
  injection ha with ha
  injection ha with hg
  subst hg; subst hc
  have hsz : k30.sz = 2 := rfl
  rw [hsz] at hcs ht
  rw [hti] at ht
  have hfit : i * 2 + vs.length ≤ cur.size := by
    rw [hcs, hv]
    omega
  obtain ⟨cur', h3, h4, h5⟩ := setCells_row vs (i * 2) W cur hh hfit
  refine ⟨hok, inner, ⟨ho1, .inr ⟨g, cap, cur', by rw [hti], hb, h3, hnc', hcm, by rw [h4, hsz, hcs], ?_⟩⟩, ?_⟩
  · rw [hsz, hti, ← ht]
    apply List.ext_getElem?
    intro q
    rw [List.getElem?_take, List.getElem?_take, h5]
    split
    · rw [List.append_assoc, List.getElem?_append_left (by simp; omega), List.getElem?_take, if_pos (by omega)]
    · rfl
  · exact hr
theorem frozen30 {W : World} {base g n cap : Nat} {ok : Nat → Prop} {xs : List S30} (h : Kd.R k30 30 W base ok (.slice (some ⟨g, 0, none⟩) n cap) xs) (j : Nat) : W.frozen? ⟨g, j, none⟩ = false := by
  obtain ⟨cells, hc⟩ := Kd.R_typed h g rfl
  exact blk_frozen hc _
theorem cells30At {W : World} {base g n cap : Nat} {ok : Nat → Prop} {xs : List S30} (h : Kd.R k30 30 W base ok (.slice (some ⟨g, 0, none⟩) n cap) xs) (j : Nat) (hj : j < n * 2) : W.cell? ⟨g, j, none⟩ = some (.int .i64 (if j % 2 = 0 then (rd_T30 xs (j / 2 : Nat)).f0 else (rd_T30 xs (j / 2 : Nat)).f1)) := by
  obtain ⟨h0, h1, _⟩ := elem30 h (j / 2) (by omega)
  by_cases e : j % 2 = 0
  · rw [if_pos e, ← h0, show j / 2 * 2 = j by omega]
  · rw [if_neg e, ← h1, show j / 2 * 2 + 1 = j by omega]
/-! plain words on the loop -/
theorem del_at {l xs : List S30} {q : Nat} (hlt : q < l.length) (hxl : xs.length = l.length) (hd : xs.drop q = l.drop q) : rd_T30 xs q = rd_T30 l q := by
  have h1 : (xs.drop q)[0]? = (l.drop q)[0]? := by rw [hd]
  simp only [List.getElem?_drop, Nat.add_zero] at h1
  unfold rd_T30
  simp [h1]
theorem del_tail {l xs : List S30} {q : Nat} (hd : xs.drop q = l.drop q) : xs.drop (q + 1) = l.drop (q + 1) := by
  rw [← List.drop_drop, ← List.drop_drop, hd]
theorem filter_next (t : S30) (l : List S30) (q : Nat) (hlt : q < l.length) : (l.take (q + 1)).filter (stays t) = (l.take q).filter (stays t) ++ if stays t (rd_T30 l q) then [rd_T30 l q] else [] := by
  rw [List.take_succ_eq_append_getElem hlt, List.filter_append]
  have e : rd_T30 l q = l[q] := by
    unfold rd_T30
    simp [hlt]
  rw [e]
  simp [List.filter_cons]
theorem del_put {t : S30} {l xs : List S30} {p q : Nat} (hpq : p < q) (hlt : q < l.length) (hxl : xs.length = l.length) (h1 : xs.take p = (l.take q).filter (stays t)) (h2 : xs.drop q = l.drop q) (hs : stays t (rd_T30 l q) = true) :
    (xs.set p (rd_T30 l q)).take (p + 1) = (l.take (q + 1)).filter (stays t) ∧ (xs.set p (rd_T30 l q)).drop (q + 1) = l.drop (q + 1) := by
  constructor
  · rw [filter_next t l q hlt, hs, if_pos rfl, ← h1, List.take_succ_eq_append_getElem (by simp; omega), List.getElem_set_self, List.take_set_of_le (Nat.le_refl _)]
  · rw [List.drop_set_of_lt (by omega)]
    exact del_tail h2
def DelIs (w : World) (ok : Nat → Prop) (l : List S30) (e : Ending) (w' : World) : Prop := ∃ v, e = .returned v ∧ Kd.R k30 30 w' 0 ok v l ∧ Mv ok w w'
set_option maxHeartbeats 4000000 in
set_option maxRecDepth 100000 in
theorem deleteFunc_any (A : Option Addr) (c : Nat) (l : List S30) (ok : Nat → Prop) (b : Nat) (t : S30) (w : World) (h : Kd.R k30 30 w 0 ok (.slice A l.length c) l) (hb : w.heap[b]? = some (.cells #[.int .i64 t.f0, .int .i64 t.f1] 30 (0, 0))) (hbo : ¬ ok b) :
    Calls Try.prog 25 #[.slice A l.length c, .func (.func 26) #[] #[.pointer (some ⟨b, 0, none⟩)]] w (DelIs w ok (l.filter (stays t))) := by
  have HR := Aside0.mk h
  have HBk := Aside0.mk hb
  have HC := Aside0.mk (Kd.R_reads' h).2.2
  have hm := C_max HC.out
  have Hb0 := Aside0.mk ((blk_cell hb 0).trans rfl : w.cell? ⟨b, 0, none⟩ = some (.int .i64 t.f0))
  have Hb1 := Aside0.mk ((blk_cell hb 1).trans rfl : w.cell? ⟨b, 1, none⟩ = some (.int .i64 t.f1))
  clear h hb
  rcases idx_spec t l 0 (by omega) with ⟨h1, h2⟩ | ⟨k, h1, h2, h3⟩
  · have HI := Aside0.mk h1
    have HF := Aside0.mk h2
    clear h1 h2
    go_enter Try.func25, Try.ntmps25
    go_wp2_with (go_at_call 29; refine (indexFunc_any _ _ l b t _ HC.out Hb0.out Hb1.out).mono ?_; rintro e w1 ⟨rfl, hb⟩; have HB := Aside0.mk hb; clear hb; rw [show idxTx l t = -1 from HI.out])
    go_ret
    exact ⟨_, rfl, by rw [HF.out]; exact Kd.R_below HR.out HB.out, Mv.of_below HB.out⟩
  · have HI := Aside0.mk h1
    have HF := Aside0.mk h3
    clear h1 h3
    have hA : ∃ g, A = some ⟨g, 0, none⟩ := by
      obtain ⟨_, inner, ho, _⟩ := HR.out
      rcases ho.2 with ⟨e, h0⟩ | ⟨g, cap, cur, e, _⟩
      · omega
      · injection e with e _ _
        exact ⟨g, e⟩
    obtain ⟨g, rfl⟩ := hA
    have hkn : ((k : Int) == -1) = false := by
      rw [beq_eq_false_iff_ne]
      omega
    go_enter Try.func25, Try.ntmps25
    go_wp2_with (go_at_call 29; refine (indexFunc_any _ _ l b t _ HC.out Hb0.out Hb1.out).mono ?_; rintro e w1 ⟨rfl, hb⟩; have HB := Aside0.mk hb; clear hb; rw [show idxTx l t = (k : Int) from HI.out.trans (by omega)])
    go_loopw [5, 6] (fun i j wr => ∃ (p q : Nat) (xs : List S30), i = .int .i64 p ∧ j = .int .i64 q ∧ p < q ∧ q ≤ l.length ∧ xs.length = l.length ∧ Aside0 (xs.take p = (l.take q).filter (stays t) ∧ xs.drop q = l.drop q) ∧ Aside0 (Kd.R k30 30 wr 0 ok (.slice (some ⟨g, 0, none⟩) l.length c) xs) ∧ Aside0 (Mv ok w wr)) (fun _ j _ => l.length - (intOf j).toNat)
    case atStart => exact ⟨k, k + 1, l, rfl, by go_num, by omega, by omega, rfl, ⟨HF.out.symm, rfl⟩, ⟨Kd.R_below HR.out HB.out⟩, ⟨Mv.of_below HB.out⟩⟩
    case round =>
      obtain ⟨p, q, xs, rfl, rfl, hpq, hq, hxl, HX, HRr, HM⟩ := hrel
      have hgl : g < wr.heap.size := Kd.R_lt HRr.out g rfl
      have hok : ok g := HRr.out.1 g rfl
      have hgn : g ≠ wr.heap.size := Nat.ne_of_lt hgl
      have hgn' : wr.heap.size ≠ g := Ne.symm hgn
      have hbw : wr.heap[b]? = some (.cells #[.int .i64 t.f0, .int .i64 t.f1] 30 (0, 0)) := (HM.out.keep b (blk_lt HBk.out) hbo).trans HBk.out
      have Hb0r := Aside0.mk ((blk_cell hbw 0).trans rfl : wr.cell? ⟨b, 0, none⟩ = some (.int .i64 t.f0))
      have Hb1r := Aside0.mk ((blk_cell hbw 1).trans rfl : wr.cell? ⟨b, 1, none⟩ = some (.int .i64 t.f1))
      clear hbw
      by_cases hlt : q < l.length
      · obtain ⟨hx0, hx1, _, _⟩ := elem30 HRr.out q hlt
        obtain ⟨_, _, hf0, hf1⟩ := elem30 HRr.out p (by omega)
        rw [del_at hlt hxl HX.out.2] at hx0 hx1
        clear hf0 hf1
        have HX0 := Aside0.mk hx0
        have HX1 := Aside0.mk hx1
        clear hx0 hx1
        have hq0 := HX0.out
        have hq1 := HX1.out
        go_wp2_with (go_at_call 26; refine (isTx_any b t (rd_T30 l q) _ (pw_cell_below (below_alloc (Below.refl _ _) _) Hb0r.out) (pw_cell_below (below_alloc (Below.refl _ _) _) Hb1r.out)).mono ?_; rintro e w2 ⟨rfl, hb2⟩; have HBx := Aside0.mk (blk_below (blk_new wr (.cells #[.int .i64 (rd_T30 l q).f0, .int .i64 (rd_T30 l q).f1] 30)) hb2); have HR2 := Aside0.mk (Kd.R_below (Kd.R_below HRr.out (below_alloc (Below.refl _ _) (.cells #[.int .i64 (rd_T30 l q).f0, .int .i64 (rd_T30 l q).f1] 30))) hb2); have HM2 := Aside0.mk ((HM.out.alloc (.cells #[.int .i64 (rd_T30 l q).f0, .int .i64 (rd_T30 l q).f1] 30)).below hb2); clear hb2 hq0 hq1; have hv0 := ((blk_cell HBx.out 0).trans rfl : w2.cell? ⟨wr.heap.size, 0, none⟩ = some (.int .i64 (rd_T30 l q).f0)); have hv1 := ((blk_cell HBx.out 1).trans rfl : w2.cell? ⟨wr.heap.size, 1, none⟩ = some (.int .i64 (rd_T30 l q).f1)); obtain ⟨hs0, hs1, hf0, hf1⟩ := elem30 HR2.out p (by omega))
        · have hst : (!eqTx (rd_T30 l q) t) = true := by assumption
          obtain ⟨hp1, hp2⟩ := put30 HR2.out p (by omega) (rd_T30 l q)
          go_roundw
          case rel => exact ⟨p + 1, q + 1, xs.set p (rd_T30 l q), by go_num, by go_num, by omega, by omega, by rw [List.length_set, hxl], ⟨del_put hpq hlt hxl HX.out.1 HX.out.2 hst⟩, ⟨hp1⟩, ⟨HM2.out.grown hp2 (fun k hk => by cases hk; exact Or.inl hok)⟩⟩
          case measure => simp [intOf]; omega
        · have hst : (!eqTx (rd_T30 l q) t) = false := by assumption
          go_roundw
          case rel => exact ⟨p, q + 1, xs, by go_num, by go_num, by omega, by omega, hxl, ⟨by rw [filter_next t l q hlt, show stays t (rd_T30 l q) = false from hst, HX.out.1]; simp, del_tail HX.out.2⟩, HR2, HM2⟩
          case measure => simp [intOf]; omega
      · obtain rfl : q = l.length := by omega
        have clearAt := fun ty => run_clear30 wr 42 30 ty (.agg #[.int .i64 0, .int .i64 0]) Try.prog Try.underlying42 (zero30 _) (by simp [Value.cells, Value.oneCell']) (by simp [Value.cells]) g (p * 2) (l.length - p) (c - p) (by omega) (fun j hj => by rw [cells30At HRr.out (p * 2 + j) (by simp only [Value.cells] at hj; simp at hj; omega)]; rfl) (fun j _ => frozen30 HRr.out _)
        have hcl : ∀ ty, (Builtin.clear_ #[42] ty #[.slice (some ⟨g, p * 2, none⟩) (l.length - p) (c - p)]).run Try.prog wr = .ok (.tuple #[]) (wr.setCells g (p * 2) (Builtin.zeroCells #[.int .i64 0, .int .i64 0] (l.length - p)).toList) := fun ty => (clearAt ty).1
        have hlen := (clearAt 0).2
        obtain ⟨hc1, hc2⟩ := cut30 HRr.out p (by omega) _ hlen
        have HC1 := Aside0.mk hc1
        have HC2 := Aside0.mk hc2
        clear hc1 hc2 hlen clearAt
        have hlc : l.length ≤ c := (Kd.R_reads' HRr.out).2.1
        have hpc : p ≤ c := by omega
        have hpc' : c ≠ p := by omega
        go_wp2_with fail
        go_ret
        refine ⟨_, rfl, ?_, HM.out.grown HC2.out (fun k hk => by cases hk; exact Or.inl hok)⟩
        have h9 := HX.out.1
        rw [List.take_length] at h9
        rw [← h9]
        exact HC1.out
end Go.Proofs.Ytmmamceijnnfdaa.LK
