/- What the law GeomFars answers: true, whatever it is given. Condition: none. -/
import Derived.Test.YtkpmmbcbegpdpaaGeoA
import Derived.Test.YtkpmmbcbegpdpaaGeoR
import Derived.Test.YtkpmmbcbegpdpaaGeoEq
import Derived.Test.YtkpmmbcbegpdpaaWWords
import Derived.Test.YtkpmmbcbegpdpaaWLast
import Derived.Deep.DeepCutAuto
import Derived.Deep.LoopGhost
namespace Go.Proofs.Ytkpmmbcbegpdpaa.GW
open Go Go.RowKit Go.Proofs.Ytkpmmbcbegpdpaa.Wd Go.Proofs.Ytkpmmbcbegpdpaa.Geo Go.Proofs.YtkpmmbcbegpdpaaW.PrintLast
open Go.Proofs.YtkpmmbcbegpdpaaW.PrintWords (blk_cell blk_frozen blk_below cell_far below_set blk_put box_step)
attribute [local go_sem high] eqWide

theorem alloc_keeps {W : World} {a : Addr} {v : Value} {o : Obj} (h : W.cell? a = some v) : (W.alloc o).cell? a = some v := by
  rw [World.cell?_alloc_some W a o (by rw [h]; rfl)]; exact h
theorem gap_nonneg (lo hi x : Int) : 0 ≤ gap lo hi x := by unfold gap; omega
theorem gap_lo (lo hi x : Int) (h : lo ≤ hi) : gap lo hi x ≤ gap lo lo x ∧ gap lo hi x ≤ gap hi hi x := by unfold gap; omega
theorem gap_zero (lo hi x : Int) : gap lo hi x = 0 ↔ lo ≤ x ∧ x ≤ hi := by unfold gap; omega
theorem sq_mono {m n : Int} (h0 : 0 ≤ m) (h : m ≤ n) : m * m ≤ n * n := Int.mul_le_mul h h h0 (by omega)
theorem sq_zero {m : Int} (h : m * m ≤ 0) : m = 0 := by
  rcases Int.lt_trichotomy m 0 with hm | hm | hm
  · have := Int.mul_pos_of_neg_of_neg hm hm; omega
  · exact hm
  · have := Int.mul_pos hm hm; omega
theorem far_le (px py a b c d : Int) (hx : a ≤ c) (hy : b ≤ d) : farZ px py a b c d ≤ farZ px py a b a b ∧ farZ px py a b c d ≤ farZ px py c b c b ∧ farZ px py a b c d ≤ farZ px py a d a d ∧ farZ px py a b c d ≤ farZ px py c d c d := by
  have x1 := sq_mono (gap_nonneg a c px) (gap_lo a c px hx).1
  have x2 := sq_mono (gap_nonneg a c px) (gap_lo a c px hx).2
  have y1 := sq_mono (gap_nonneg b d py) (gap_lo b d py hy).1
  have y2 := sq_mono (gap_nonneg b d py) (gap_lo b d py hy).2
  unfold farZ
  omega
theorem far_within (px py a b c d : Int) (h : farIs px py a b c d = true) : withinB px py a b c d = (hi (farZ px py a b c d) == 0 && (lo (farZ px py a b c d) == 0)) := by
  have hh : ptB px py = true ∧ boxB a b c d = true := by simpa [farIs] using h
  have h1 := ptB_iff.1 hh.1
  have h2 := boxB_iff.1 hh.2
  rw [Bool.eq_iff_iff, withinB_iff]
  simp only [Bool.and_eq_true, beq_iff_eq]
  have n1 := num_hi_lo (farZ px py a b c d)
  unfold num at n1
  have s1 := Int.mul_nonneg (gap_nonneg a c px) (gap_nonneg a c px)
  have s2 := Int.mul_nonneg (gap_nonneg b d py) (gap_nonneg b d py)
  constructor
  · intro hw
    have g1 := (gap_zero a c px).2 (by omega)
    have g2 := (gap_zero b d py).2 (by omega)
    have : farZ px py a b c d = 0 := by unfold farZ; rw [g1, g2]; rfl
    rw [this]
    exact ⟨by decide, by decide⟩
  · intro hz
    rw [hz.1, hz.2] at n1
    have hf : gap a c px * gap a c px + gap b d py * gap b d py = 0 := (by omega : farZ px py a b c d = 0)
    have g1 := (gap_zero a c px).1 (sq_zero (by omega))
    have g2 := (gap_zero b d py).1 (sq_zero (by omega))
    omega
theorem farTo {px py a b c d : Int} (h : farIs px py a b c d = true) (w : World) :
    Calls Try.prog 37 #[.agg #[.int .i64 px, .int .i64 py], .agg #[.int .i64 a, .int .i64 b, .int .i64 c, .int .i64 d]] w fun r w' => r = .returned (.tuple #[.agg #[.int .u64 (hi (farZ px py a b c d)), .int .u64 (lo (farZ px py a b c d))], .int .i64 0]) ∧ Below w.heap.size w w' := by
  have z := far_any px py a b c d w
  simp only [h, orZero, orErr, if_true] at z
  exact z
theorem farNo {px py a b c d : Int} (h : farIs px py a b c d = false) (w : World) :
    Calls Try.prog 37 #[.agg #[.int .i64 px, .int .i64 py], .agg #[.int .i64 a, .int .i64 b, .int .i64 c, .int .i64 d]] w fun r w' => r = .returned (.tuple #[.agg #[.int .u64 0, .int .u64 0], .int .i64 300]) ∧ Below w.heap.size w w' := by
  have z := far_any px py a b c d w
  simp only [h, orZero, orErr] at z
  exact z
theorem withinTo' {px py a b c d : Int} (v : Bool) (h : withinB px py a b c d = v) (w : World) :
    Calls Try.prog 45 #[.agg #[.int .i64 px, .int .i64 py], .agg #[.int .i64 a, .int .i64 b, .int .i64 c, .int .i64 d]] w fun e w' => e = .returned (.bool v) ∧ Below w.heap.size w w' := by
  rw [← h]; exact within_any px py a b c d w
theorem rCmpTo {x y : Int} (h : x ≤ y) (w : World) : Calls Try.prog 28 #[.agg #[.int .u64 (hi x), .int .u64 (lo x)], .agg #[.int .u64 (hi y), .int .u64 (lo y)]] w fun e w' => ∃ s : Int, s ≤ 0 ∧ e = .returned (.int .i64 s) ∧ Below w.heap.size w w' := by
  refine (rCmp_any _ _ _ _ w).mono fun e w' ⟨h1, h2⟩ => ⟨_, ?_, h1, h2⟩
  rw [cmp_lex]
  unfold sg
  split
  · decide
  · rw [if_neg (by omega)]; decide
set_option maxHeartbeats 8000000 in
set_option maxRecDepth 100000 in
theorem fars_no (px py a b c d : Int) (w : World) (h : farIs px py a b c d = false) :
    Calls Try.prog 11 #[.agg #[.int .i64 px, .int .i64 py], .agg #[.int .i64 a, .int .i64 b, .int .i64 c, .int .i64 d]] w fun e w' => e = .returned (.bool true) ∧ Below w.heap.size w w' := by
  have HF := Lib.hid h
  clear h
  go_enter Try.func11, Try.ntmps11
  go_wp2_with (first | (go_at_call 47; refine (awake_any _).mono ?_; rintro e w1 ⟨rfl, hb⟩; obtain ⟨hc0, hc1, hf0, hf1, hn0, hn1, hm0, hm1, hl0, hl1, hz⟩ := bc2 (H := w.heap.size) hb (by first | assumption | (simp; done) | (simp; omega)); have hB := below_then (w := w) (by first | assumption | exact below_new (by assumption) _ | exact below_new (below_new (by assumption) _) _ | exact below_new (below_new (below_new (by assumption) _) _) _ | exact below_new (below_new (below_new (below_new (by assumption) _) _) _) _ | exact below_new (below_new (Below.refl _ _) _) _) hb; clear hb) | (go_at_call 37; refine (farNo HF.out _).mono ?_; rintro e wF ⟨rfl, hb⟩; obtain ⟨hc0, hc1, hf0, hf1, hn0, hn1, hm0, hm1, hl0, hl1, hz⟩ := bc2 (H := w.heap.size) hb (by first | assumption | (simp; done) | (simp; omega)); have hB := below_then (w := w) (by first | assumption | exact below_new (by assumption) _ | exact below_new (below_new (by assumption) _) _ | exact below_new (below_new (below_new (by assumption) _) _) _ | exact below_new (below_new (below_new (below_new (by assumption) _) _) _) _ | exact below_new (below_new (Below.refl _ _) _) _) hb; clear hb) | (go_at_call 30; refine (num_any _ _).mono ?_; rintro e w' ⟨rfl, rfl⟩))
  go_ret
  exact ⟨by first | rfl | simp, by first | assumption | exact below_new (by assumption) _⟩
set_option maxHeartbeats 16000000 in
set_option maxRecDepth 100000 in
theorem fars_yes (px py a b c d : Int) (w : World) (h : farIs px py a b c d = true) :
    Calls Try.prog 11 #[.agg #[.int .i64 px, .int .i64 py], .agg #[.int .i64 a, .int .i64 b, .int .i64 c, .int .i64 d]] w fun e w' => e = .returned (.bool true) ∧ Below w.heap.size w w' := by
  have HF := Lib.hid h
  have hh : ptB px py = true ∧ boxB a b c d = true := by simpa [farIs] using h
  have h2 := boxB_iff.1 hh.2
  have hle := far_le px py a b c d (by omega) (by omega)
  have hf : ∀ x y, (x = a ∨ x = c) → (y = b ∨ y = d) → farIs px py x y x y = true := by
    intro x y hx hy
    unfold farIs
    rw [hh.1, Bool.true_and, boxB_iff]
    rcases hx with rfl | rfl <;> rcases hy with rfl | rfl <;> omega
  have F0 := Lib.hid (hf a b (Or.inl rfl) (Or.inl rfl))
  have F1 := Lib.hid (hf c b (Or.inr rfl) (Or.inl rfl))
  have F2 := Lib.hid (hf a d (Or.inl rfl) (Or.inr rfl))
  have F3 := Lib.hid (hf c d (Or.inr rfl) (Or.inr rfl))
  have HW := Lib.hid (far_within px py a b c d h)
  have HL := Lib.hid hle
  clear h hh h2 hle hf
  go_enter Try.func11, Try.ntmps11
  go_upto_region 6 with (first | (go_at_call 47; refine (awake_any _).mono ?_; rintro e w1 ⟨rfl, hb⟩; obtain ⟨hc0, hc1, hf0, hf1, hn0, hn1, hm0, hm1, hl0, hl1, hz⟩ := bc2 (H := w.heap.size) hb (by first | assumption | (simp; done) | (simp; omega)); have hB := below_then (w := w) (by first | assumption | exact below_new (by assumption) _ | exact below_new (below_new (by assumption) _) _ | exact below_new (below_new (below_new (by assumption) _) _) _ | exact below_new (below_new (below_new (below_new (by assumption) _) _) _) _ | exact below_new (below_new (Below.refl _ _) _) _) hb; clear hb) | (go_at_call 37; refine (farTo HF.out _).mono ?_; rintro e wF ⟨rfl, hb⟩; obtain ⟨hc0, hc1, hf0, hf1, hn0, hn1, hm0, hm1, hl0, hl1, hz⟩ := bc2 (H := w.heap.size) hb (by first | assumption | (simp; done) | (simp; omega)); have hB := below_then (w := w) (by first | assumption | exact below_new (by assumption) _ | exact below_new (below_new (by assumption) _) _ | exact below_new (below_new (below_new (by assumption) _) _) _ | exact below_new (below_new (below_new (below_new (by assumption) _) _) _) _ | exact below_new (below_new (Below.refl _ _) _) _) hb; clear hb) | (go_at_call 30; refine (num_any _ _).mono ?_; rintro e w' ⟨rfl, rfl⟩))
  go_cut [31] (fun s w' => s = .bool false ∧ Below w.heap.size w w' ∧ w'.cell? ⟨w.heap.size, 0, none⟩ = some (.int .i64 px) ∧ w'.cell? ⟨w.heap.size, 1, none⟩ = some (.int .i64 py) ∧ w'.cell? ⟨w.heap.size + 1, 0, none⟩ = some (.int .i64 a) ∧ w'.cell? ⟨w.heap.size + 1, 1, none⟩ = some (.int .i64 b) ∧ w'.cell? ⟨w.heap.size + 1, 2, none⟩ = some (.int .i64 c) ∧ w'.cell? ⟨w.heap.size + 1, 3, none⟩ = some (.int .i64 d) ∧ w'.cell? ⟨wF.heap.size, 0, none⟩ = some (.int .u64 (hi (farZ px py a b c d))) ∧ w'.cell? ⟨wF.heap.size, 1, none⟩ = some (.int .u64 (lo (farZ px py a b c d))))
  case first =>
    go_region_held3 (fun w' => Below w.heap.size w w' ∧ w'.cell? ⟨w.heap.size, 0, none⟩ = some (.int .i64 px) ∧ w'.cell? ⟨w.heap.size, 1, none⟩ = some (.int .i64 py) ∧ w'.cell? ⟨w.heap.size + 1, 0, none⟩ = some (.int .i64 a) ∧ w'.cell? ⟨w.heap.size + 1, 1, none⟩ = some (.int .i64 b) ∧ w'.cell? ⟨w.heap.size + 1, 2, none⟩ = some (.int .i64 c) ∧ w'.cell? ⟨w.heap.size + 1, 3, none⟩ = some (.int .i64 d) ∧ w'.cell? ⟨wF.heap.size, 0, none⟩ = some (.int .u64 (hi (farZ px py a b c d))) ∧ w'.cell? ⟨wF.heap.size, 1, none⟩ = some (.int .u64 (lo (farZ px py a b c d)))) (first | (go_split_ands; refine ⟨below_then (by assumption) hb, keeps hb (by assumption), keeps hb (by assumption), keeps hb (by assumption), keeps hb (by assumption), keeps hb (by assumption), keeps hb (by assumption), keeps hb (by assumption), keeps hb (by assumption)⟩) | (refine ⟨Below.drew (below_new (by assumption) _), ?_, ?_, ?_, ?_, ?_, ?_, ?_, ?_⟩ <;> go_simp))
      (first | (go_at_call 45; refine (withinTo' _ HW.out _).mono ?_; rintro e w1 ⟨rfl, hb⟩))
    all_goals
      go_wp2_with fail
      go_meet
      refine ⟨by first | rfl | simp, ?_⟩
      assumption
  case rest =>
    obtain ⟨rfl, hB, k0, k1, k2, k3, k4, k5, k6, k7⟩ := hcut
    go_wp2_with fail
    go_loopw [8] (fun i wr => ∃ k : Int, (k = 0 ∨ k = 1 ∨ k = 2 ∨ k = 3 ∨ k = 4) ∧ i = .int .i64 k ∧ Below w.heap.size w wr ∧ wr.cell? ⟨w.heap.size, 0, none⟩ = some (.int .i64 px) ∧ wr.cell? ⟨w.heap.size, 1, none⟩ = some (.int .i64 py) ∧ wr.cell? ⟨wF.heap.size, 0, none⟩ = some (.int .u64 (hi (farZ px py a b c d))) ∧ wr.cell? ⟨wF.heap.size, 1, none⟩ = some (.int .u64 (lo (farZ px py a b c d))) ∧ wr.cell? ⟨wc.heap.size, 0, none⟩ = some (.int .i64 a) ∧ wr.cell? ⟨wc.heap.size, 1, none⟩ = some (.int .i64 b) ∧ wr.cell? ⟨wc.heap.size, 2, none⟩ = some (.int .i64 a) ∧ wr.cell? ⟨wc.heap.size, 3, none⟩ = some (.int .i64 b) ∧ wr.cell? ⟨wc.heap.size, 4, none⟩ = some (.int .i64 c) ∧ wr.cell? ⟨wc.heap.size, 5, none⟩ = some (.int .i64 b) ∧ wr.cell? ⟨wc.heap.size, 6, none⟩ = some (.int .i64 c) ∧ wr.cell? ⟨wc.heap.size, 7, none⟩ = some (.int .i64 b) ∧ wr.cell? ⟨wc.heap.size, 8, none⟩ = some (.int .i64 a) ∧ wr.cell? ⟨wc.heap.size, 9, none⟩ = some (.int .i64 d) ∧ wr.cell? ⟨wc.heap.size, 10, none⟩ = some (.int .i64 a) ∧ wr.cell? ⟨wc.heap.size, 11, none⟩ = some (.int .i64 d) ∧ wr.cell? ⟨wc.heap.size, 12, none⟩ = some (.int .i64 c) ∧ wr.cell? ⟨wc.heap.size, 13, none⟩ = some (.int .i64 d) ∧ wr.cell? ⟨wc.heap.size, 14, none⟩ = some (.int .i64 c) ∧ wr.cell? ⟨wc.heap.size, 15, none⟩ = some (.int .i64 d)) (fun i _ => 4 - (intOf i).toNat)
    case atStart => exact ⟨0, Or.inl rfl, rfl, below_new hB _, by first | (exact alloc_keeps (by assumption)) | go_simp, by first | (exact alloc_keeps (by assumption)) | go_simp, by first | (exact alloc_keeps (by assumption)) | go_simp, by first | (exact alloc_keeps (by assumption)) | go_simp, by first | (exact alloc_keeps (by assumption)) | go_simp, by first | (exact alloc_keeps (by assumption)) | go_simp, by first | (exact alloc_keeps (by assumption)) | go_simp, by first | (exact alloc_keeps (by assumption)) | go_simp, by first | (exact alloc_keeps (by assumption)) | go_simp, by first | (exact alloc_keeps (by assumption)) | go_simp, by first | (exact alloc_keeps (by assumption)) | go_simp, by first | (exact alloc_keeps (by assumption)) | go_simp, by first | (exact alloc_keeps (by assumption)) | go_simp, by first | (exact alloc_keeps (by assumption)) | go_simp, by first | (exact alloc_keeps (by assumption)) | go_simp, by first | (exact alloc_keeps (by assumption)) | go_simp, by first | (exact alloc_keeps (by assumption)) | go_simp, by first | (exact alloc_keeps (by assumption)) | go_simp, by first | (exact alloc_keeps (by assumption)) | go_simp, by first | (exact alloc_keeps (by assumption)) | go_simp⟩
    case round =>
      obtain ⟨k, hk, rfl, hB, k0, k1, k2, k3, k4, k5, k6, k7, k8, k9, k10, k11, k12, k13, k14, k15, k16, k17, k18, k19⟩ := hrel
      rcases hk with rfl | rfl | rfl | rfl | rfl
      · go_wp2_with fail
        refine start_ (n := 12) (S := fun w' => Below w.heap.size w w' ∧ w'.cell? ⟨w.heap.size, 0, none⟩ = some (.int .i64 px) ∧ w'.cell? ⟨w.heap.size, 1, none⟩ = some (.int .i64 py) ∧ w'.cell? ⟨wF.heap.size, 0, none⟩ = some (.int .u64 (hi (farZ px py a b c d))) ∧ w'.cell? ⟨wF.heap.size, 1, none⟩ = some (.int .u64 (lo (farZ px py a b c d))) ∧ w'.cell? ⟨wc.heap.size, 0, none⟩ = some (.int .i64 a) ∧ w'.cell? ⟨wc.heap.size, 1, none⟩ = some (.int .i64 b) ∧ w'.cell? ⟨wc.heap.size, 2, none⟩ = some (.int .i64 a) ∧ w'.cell? ⟨wc.heap.size, 3, none⟩ = some (.int .i64 b) ∧ w'.cell? ⟨wc.heap.size, 4, none⟩ = some (.int .i64 c) ∧ w'.cell? ⟨wc.heap.size, 5, none⟩ = some (.int .i64 b) ∧ w'.cell? ⟨wc.heap.size, 6, none⟩ = some (.int .i64 c) ∧ w'.cell? ⟨wc.heap.size, 7, none⟩ = some (.int .i64 b) ∧ w'.cell? ⟨wc.heap.size, 8, none⟩ = some (.int .i64 a) ∧ w'.cell? ⟨wc.heap.size, 9, none⟩ = some (.int .i64 d) ∧ w'.cell? ⟨wc.heap.size, 10, none⟩ = some (.int .i64 a) ∧ w'.cell? ⟨wc.heap.size, 11, none⟩ = some (.int .i64 d) ∧ w'.cell? ⟨wc.heap.size, 12, none⟩ = some (.int .i64 c) ∧ w'.cell? ⟨wc.heap.size, 13, none⟩ = some (.int .i64 d) ∧ w'.cell? ⟨wc.heap.size, 14, none⟩ = some (.int .i64 c) ∧ w'.cell? ⟨wc.heap.size, 15, none⟩ = some (.int .i64 d)) (ds := []) #[false, false, false, false, false, false, false, false, false, false, false, false] (by kernel_rfl) rfl rfl ⟨Below.drew hB, k0, k1, k2, k3, k4, k5, k6, k7, k8, k9, k10, k11, k12, k13, k14, k15, k16, k17, k18, k19⟩ (fun hHeld => ?_)
        clear hB k0 k1 k2 k3 k4 k5 k6 k7 k8 k9 k10 k11 k12 k13 k14 k15 k16 k17 k18 k19
        generalize wr.drew = w0 at hHeld ⊢
        refine pure_ (i := 1) (N := some 75) (v := ?_) (a' := ?_) #[false, true, false, false, false, false, false, false, false, false, false, false] rfl rfl (by kernel_rfl) (fun _ _ _ h => h) (Or.inl ⟨by rfl, ?_⟩) ?_ ?_
        rotate_left
        · intro w'
          go_simp
          with_reducible rfl
        rotate_left
        · simp only [Act.put, List.setIfInBounds_toArray, List.set_cons_zero, List.set_cons_succ]
          rfl
        refine pure_ (i := 2) (N := some 76) (v := ?_) (a' := ?_) #[false, true, true, false, false, false, false, false, false, false, false, false] rfl rfl (by kernel_rfl) (fun _ _ _ h => h) (Or.inl ⟨by rfl, ?_⟩) ?_ ?_
        rotate_left
        · intro w'
          go_simp
          with_reducible rfl
        rotate_left
        · simp only [Act.put, List.setIfInBounds_toArray, List.set_cons_zero, List.set_cons_succ]
          rfl
        refine pure_ (i := 3) (N := some 77) (v := ?_) (a' := ?_) #[false, true, true, true, false, false, false, false, false, false, false, false] rfl rfl (by kernel_rfl) (fun _ _ _ h => h) (Or.inl ⟨by rfl, ?_⟩) ?_ ?_
        rotate_left
        · intro w'
          go_simp
          with_reducible rfl
        rotate_left
        · simp only [Act.put, List.setIfInBounds_toArray, List.set_cons_zero, List.set_cons_succ]
          rfl
        refine take_ (i := 0) (N := some 74) (v := ?_) (a' := ?_) #[true, true, true, true, false, false, false, false, false, false, false, false] rfl rfl (by kernel_rfl) (fun _ _ _ h => h) (Or.inl ⟨by rfl, ?_⟩) hHeld ?_ ?_
        rotate_left
        · intro w' hS'
          (try dsimp only at hS')
          go_split_ands
          go_simp
          with_reducible rfl
        rotate_left
        · simp only [Act.put, List.setIfInBounds_toArray, List.set_cons_zero, List.set_cons_succ]
          rfl
        refine take_ (i := 4) (N := some 78) (v := ?_) (a' := ?_) #[true, true, true, true, true, false, false, false, false, false, false, false] rfl rfl (by kernel_rfl) (fun _ _ _ h => h) (Or.inl ⟨by rfl, ?_⟩) hHeld ?_ ?_
        rotate_left
        · intro w' hS'
          (try dsimp only at hS')
          go_split_ands
          go_simp
          with_reducible rfl
        rotate_left
        · simp only [Act.put, List.setIfInBounds_toArray, List.set_cons_zero, List.set_cons_succ]
          rfl
        refine join_ (σ := Nat) 2 #[true, true, true, true, true, true, true, true, true, true, false, false] (fun s_ => [(79, .tuple #[.agg #[.int .u64 (hi (farZ px py a b a b)), .int .u64 (lo (farZ px py a b a b))], .int .i64 0]), (9, .pointer (some ⟨s_, 0, none⟩)), (73, .tuple #[.agg #[.int .u64 (hi (farZ px py a b a b)), .int .u64 (lo (farZ px py a b a b))], .int .i64 0]), (80, .agg #[.int .u64 (hi (farZ px py a b a b)), .int .u64 (lo (farZ px py a b a b))]), (81, .int .i64 0)]) (fun s_ w' => (Below w.heap.size w w' ∧ w'.cell? ⟨w.heap.size, 0, none⟩ = some (.int .i64 px) ∧ w'.cell? ⟨w.heap.size, 1, none⟩ = some (.int .i64 py) ∧ w'.cell? ⟨wF.heap.size, 0, none⟩ = some (.int .u64 (hi (farZ px py a b c d))) ∧ w'.cell? ⟨wF.heap.size, 1, none⟩ = some (.int .u64 (lo (farZ px py a b c d))) ∧ w'.cell? ⟨wc.heap.size, 0, none⟩ = some (.int .i64 a) ∧ w'.cell? ⟨wc.heap.size, 1, none⟩ = some (.int .i64 b) ∧ w'.cell? ⟨wc.heap.size, 2, none⟩ = some (.int .i64 a) ∧ w'.cell? ⟨wc.heap.size, 3, none⟩ = some (.int .i64 b) ∧ w'.cell? ⟨wc.heap.size, 4, none⟩ = some (.int .i64 c) ∧ w'.cell? ⟨wc.heap.size, 5, none⟩ = some (.int .i64 b) ∧ w'.cell? ⟨wc.heap.size, 6, none⟩ = some (.int .i64 c) ∧ w'.cell? ⟨wc.heap.size, 7, none⟩ = some (.int .i64 b) ∧ w'.cell? ⟨wc.heap.size, 8, none⟩ = some (.int .i64 a) ∧ w'.cell? ⟨wc.heap.size, 9, none⟩ = some (.int .i64 d) ∧ w'.cell? ⟨wc.heap.size, 10, none⟩ = some (.int .i64 a) ∧ w'.cell? ⟨wc.heap.size, 11, none⟩ = some (.int .i64 d) ∧ w'.cell? ⟨wc.heap.size, 12, none⟩ = some (.int .i64 c) ∧ w'.cell? ⟨wc.heap.size, 13, none⟩ = some (.int .i64 d) ∧ w'.cell? ⟨wc.heap.size, 14, none⟩ = some (.int .i64 c) ∧ w'.cell? ⟨wc.heap.size, 15, none⟩ = some (.int .i64 d)) ∧ w'.heap[s_]? = some (.cells #[.int .u64 0, .int .u64 0] 25 (0, 0)) ∧ w.heap.size ≠ s_ ∧ wF.heap.size ≠ s_ ∧ wc.heap.size ≠ s_ ∧ w.heap.size ≤ s_) ?_ ?_
        rotate_left
        · intro hCont
          refine two_ (i := 5) (j := 9) (Ni := some 79) (Nj := some 9) #[true, true, true, true, true, true, false, false, false, false, false, false] #[true, true, true, true, true, false, false, false, false, true, false, false] rfl rfl rfl rfl (by kernel_rfl) (by decide) (by decide) (fun K hK => ?_) (fun K hK => ?_)
          · skip
            refine goes_ Try.func37 (by kernel_rfl) rfl #[.agg #[.int .i64 px, .int .i64 py], .agg #[.int .i64 a, .int .i64 b, .int .i64 a, .int .i64 b]] (by rfl) rfl rfl (by first | rfl | (simp only [List.map_toArray, List.map_cons, List.map_nil]; rfl)) ?_
            refine (farTo F0.out _).mono ?_
            rintro e w1 ⟨rfl, hb⟩
            refine ⟨_, rfl, ?_⟩
            refine hK.out _ _ ⟨below_then hHeld.1 hb, keeps hb hHeld.2.1, keeps hb hHeld.2.2.1, keeps hb hHeld.2.2.2.1, keeps hb hHeld.2.2.2.2.1, keeps hb hHeld.2.2.2.2.2.1, keeps hb hHeld.2.2.2.2.2.2.1, keeps hb hHeld.2.2.2.2.2.2.2.1, keeps hb hHeld.2.2.2.2.2.2.2.2.1, keeps hb hHeld.2.2.2.2.2.2.2.2.2.1, keeps hb hHeld.2.2.2.2.2.2.2.2.2.2.1, keeps hb hHeld.2.2.2.2.2.2.2.2.2.2.2.1, keeps hb hHeld.2.2.2.2.2.2.2.2.2.2.2.2.1, keeps hb hHeld.2.2.2.2.2.2.2.2.2.2.2.2.2.1, keeps hb hHeld.2.2.2.2.2.2.2.2.2.2.2.2.2.2.1, keeps hb hHeld.2.2.2.2.2.2.2.2.2.2.2.2.2.2.2.1, keeps hb hHeld.2.2.2.2.2.2.2.2.2.2.2.2.2.2.2.2.1, keeps hb hHeld.2.2.2.2.2.2.2.2.2.2.2.2.2.2.2.2.2.1, keeps hb hHeld.2.2.2.2.2.2.2.2.2.2.2.2.2.2.2.2.2.2.1, keeps hb hHeld.2.2.2.2.2.2.2.2.2.2.2.2.2.2.2.2.2.2.2.1, keeps hb hHeld.2.2.2.2.2.2.2.2.2.2.2.2.2.2.2.2.2.2.2.2⟩ (fun hHeld => ?_)
            clear hK K hb
            refine norm_ (a' := ?_) ?_ ?_
            rotate_left
            · show Act.put _ (some 79) _ = _
              simp only [Act.put, List.setIfInBounds_toArray, List.set_cons_zero, List.set_cons_succ]
              rfl
            refine pure_ (i := 6) (N := some 73) (v := ?_) (a' := ?_) #[true, true, true, true, true, true, true, false, false, false, false, false] rfl rfl (by kernel_rfl) (fun _ _ _ h => h) (Or.inl ⟨by rfl, ?_⟩) ?_ ?_
            rotate_left
            · intro w'
              go_simp
              with_reducible rfl
            rotate_left
            · simp only [Act.put, List.setIfInBounds_toArray, List.set_cons_zero, List.set_cons_succ]
              rfl
            refine pure_ (i := 7) (N := some 80) (v := ?_) (a' := ?_) #[true, true, true, true, true, true, true, true, false, false, false, false] rfl rfl (by kernel_rfl) (fun _ _ _ h => h) (Or.inl ⟨by rfl, ?_⟩) ?_ ?_
            rotate_left
            · intro w'
              go_simp
              with_reducible rfl
            rotate_left
            · simp only [Act.put, List.setIfInBounds_toArray, List.set_cons_zero, List.set_cons_succ]
              rfl
            refine pure_ (i := 8) (N := some 81) (v := ?_) (a' := ?_) #[true, true, true, true, true, true, true, true, true, false, false, false] rfl rfl (by kernel_rfl) (fun _ _ _ h => h) (Or.inl ⟨by rfl, ?_⟩) ?_ ?_
            rotate_left
            · intro w'
              go_simp
              with_reducible rfl
            rotate_left
            · simp only [Act.put, List.setIfInBounds_toArray, List.set_cons_zero, List.set_cons_succ]
              rfl
            refine one_ (i := 9) (N := some 9) #[true, true, true, true, true, true, true, true, true, true, false, false] rfl rfl (by kernel_rfl) (by decide) (fun K hK => ?_)
            refine box_step ?hg (N := 9) ?hd (cs := #[.int .u64 0, .int .u64 0]) (t := 25) ?hr ?_; (case hd => rfl); (case hg => rfl); (case hr => first | (go_simp; done) | (go_simp; rfl))
            intro g hg w2 hbox hb
            have n1 : w.heap.size ≠ g := by rw [hg]; exact Nat.ne_of_lt (World.block_lt_of_cell? _ _ (hHeld.2.1))
            have n2 : wF.heap.size ≠ g := by rw [hg]; exact Nat.ne_of_lt (World.block_lt_of_cell? _ _ (hHeld.2.2.2.1))
            have n3 : wc.heap.size ≠ g := by rw [hg]; exact Nat.ne_of_lt (World.block_lt_of_cell? _ _ (hHeld.2.2.2.2.2.1))
            have n4 : w.heap.size ≤ g := by rw [hg]; exact hHeld.1.size
            refine hK.out _ _ ⟨below_then hHeld.1 hb, keeps hb hHeld.2.1, keeps hb hHeld.2.2.1, keeps hb hHeld.2.2.2.1, keeps hb hHeld.2.2.2.2.1, keeps hb hHeld.2.2.2.2.2.1, keeps hb hHeld.2.2.2.2.2.2.1, keeps hb hHeld.2.2.2.2.2.2.2.1, keeps hb hHeld.2.2.2.2.2.2.2.2.1, keeps hb hHeld.2.2.2.2.2.2.2.2.2.1, keeps hb hHeld.2.2.2.2.2.2.2.2.2.2.1, keeps hb hHeld.2.2.2.2.2.2.2.2.2.2.2.1, keeps hb hHeld.2.2.2.2.2.2.2.2.2.2.2.2.1, keeps hb hHeld.2.2.2.2.2.2.2.2.2.2.2.2.2.1, keeps hb hHeld.2.2.2.2.2.2.2.2.2.2.2.2.2.2.1, keeps hb hHeld.2.2.2.2.2.2.2.2.2.2.2.2.2.2.2.1, keeps hb hHeld.2.2.2.2.2.2.2.2.2.2.2.2.2.2.2.2.1, keeps hb hHeld.2.2.2.2.2.2.2.2.2.2.2.2.2.2.2.2.2.1, keeps hb hHeld.2.2.2.2.2.2.2.2.2.2.2.2.2.2.2.2.2.2.1, keeps hb hHeld.2.2.2.2.2.2.2.2.2.2.2.2.2.2.2.2.2.2.2.1, keeps hb hHeld.2.2.2.2.2.2.2.2.2.2.2.2.2.2.2.2.2.2.2.2⟩ (fun hHeld => ?_)
            clear hK K hb hg
            refine norm_ (a' := ?_) ?_ ?_
            rotate_left
            · show Act.put _ (some 9) _ = _
              simp only [Act.put, List.setIfInBounds_toArray, List.set_cons_zero, List.set_cons_succ]
              rfl
            exact norm_ (by simp only [putAll, Act.put, List.setIfInBounds_toArray, List.set_cons_zero, List.set_cons_succ]) (hCont g _ ⟨hHeld, hbox, n1, n2, n3, n4⟩)
          · skip
            refine box_step ?hg (N := 9) ?hd (cs := #[.int .u64 0, .int .u64 0]) (t := 25) ?hr ?_; (case hd => rfl); (case hg => rfl); (case hr => first | (go_simp; done) | (go_simp; rfl))
            intro g hg w2 hbox hb
            have n1 : w.heap.size ≠ g := by rw [hg]; exact Nat.ne_of_lt (World.block_lt_of_cell? _ _ (hHeld.2.1))
            have n2 : wF.heap.size ≠ g := by rw [hg]; exact Nat.ne_of_lt (World.block_lt_of_cell? _ _ (hHeld.2.2.2.1))
            have n3 : wc.heap.size ≠ g := by rw [hg]; exact Nat.ne_of_lt (World.block_lt_of_cell? _ _ (hHeld.2.2.2.2.2.1))
            have n4 : w.heap.size ≤ g := by rw [hg]; exact hHeld.1.size
            refine hK.out _ _ ⟨below_then hHeld.1 hb, keeps hb hHeld.2.1, keeps hb hHeld.2.2.1, keeps hb hHeld.2.2.2.1, keeps hb hHeld.2.2.2.2.1, keeps hb hHeld.2.2.2.2.2.1, keeps hb hHeld.2.2.2.2.2.2.1, keeps hb hHeld.2.2.2.2.2.2.2.1, keeps hb hHeld.2.2.2.2.2.2.2.2.1, keeps hb hHeld.2.2.2.2.2.2.2.2.2.1, keeps hb hHeld.2.2.2.2.2.2.2.2.2.2.1, keeps hb hHeld.2.2.2.2.2.2.2.2.2.2.2.1, keeps hb hHeld.2.2.2.2.2.2.2.2.2.2.2.2.1, keeps hb hHeld.2.2.2.2.2.2.2.2.2.2.2.2.2.1, keeps hb hHeld.2.2.2.2.2.2.2.2.2.2.2.2.2.2.1, keeps hb hHeld.2.2.2.2.2.2.2.2.2.2.2.2.2.2.2.1, keeps hb hHeld.2.2.2.2.2.2.2.2.2.2.2.2.2.2.2.2.1, keeps hb hHeld.2.2.2.2.2.2.2.2.2.2.2.2.2.2.2.2.2.1, keeps hb hHeld.2.2.2.2.2.2.2.2.2.2.2.2.2.2.2.2.2.2.1, keeps hb hHeld.2.2.2.2.2.2.2.2.2.2.2.2.2.2.2.2.2.2.2.1, keeps hb hHeld.2.2.2.2.2.2.2.2.2.2.2.2.2.2.2.2.2.2.2.2⟩ (fun hHeld => ?_)
            clear hK K hb hg
            refine norm_ (a' := ?_) ?_ ?_
            rotate_left
            · show Act.put _ (some 9) _ = _
              simp only [Act.put, List.setIfInBounds_toArray, List.set_cons_zero, List.set_cons_succ]
              rfl
            refine one_ (i := 5) (N := some 79) #[true, true, true, true, true, true, false, false, false, true, false, false] rfl rfl (by kernel_rfl) (by decide) (fun K hK => ?_)
            refine goes_ Try.func37 (by kernel_rfl) rfl #[.agg #[.int .i64 px, .int .i64 py], .agg #[.int .i64 a, .int .i64 b, .int .i64 a, .int .i64 b]] (by rfl) rfl rfl (by first | rfl | (simp only [List.map_toArray, List.map_cons, List.map_nil]; rfl)) ?_
            refine (farTo F0.out _).mono ?_
            rintro e w1 ⟨rfl, hb⟩
            refine ⟨_, rfl, ?_⟩
            replace hbox := blk_below hbox hb
            refine hK.out _ _ ⟨below_then hHeld.1 hb, keeps hb hHeld.2.1, keeps hb hHeld.2.2.1, keeps hb hHeld.2.2.2.1, keeps hb hHeld.2.2.2.2.1, keeps hb hHeld.2.2.2.2.2.1, keeps hb hHeld.2.2.2.2.2.2.1, keeps hb hHeld.2.2.2.2.2.2.2.1, keeps hb hHeld.2.2.2.2.2.2.2.2.1, keeps hb hHeld.2.2.2.2.2.2.2.2.2.1, keeps hb hHeld.2.2.2.2.2.2.2.2.2.2.1, keeps hb hHeld.2.2.2.2.2.2.2.2.2.2.2.1, keeps hb hHeld.2.2.2.2.2.2.2.2.2.2.2.2.1, keeps hb hHeld.2.2.2.2.2.2.2.2.2.2.2.2.2.1, keeps hb hHeld.2.2.2.2.2.2.2.2.2.2.2.2.2.2.1, keeps hb hHeld.2.2.2.2.2.2.2.2.2.2.2.2.2.2.2.1, keeps hb hHeld.2.2.2.2.2.2.2.2.2.2.2.2.2.2.2.2.1, keeps hb hHeld.2.2.2.2.2.2.2.2.2.2.2.2.2.2.2.2.2.1, keeps hb hHeld.2.2.2.2.2.2.2.2.2.2.2.2.2.2.2.2.2.2.1, keeps hb hHeld.2.2.2.2.2.2.2.2.2.2.2.2.2.2.2.2.2.2.2.1, keeps hb hHeld.2.2.2.2.2.2.2.2.2.2.2.2.2.2.2.2.2.2.2.2⟩ (fun hHeld => ?_)
            clear hK K hb
            refine norm_ (a' := ?_) ?_ ?_
            rotate_left
            · show Act.put _ (some 79) _ = _
              simp only [Act.put, List.setIfInBounds_toArray, List.set_cons_zero, List.set_cons_succ]
              rfl
            refine pure_ (i := 6) (N := some 73) (v := ?_) (a' := ?_) #[true, true, true, true, true, true, true, false, false, true, false, false] rfl rfl (by kernel_rfl) (fun _ _ _ h => h) (Or.inl ⟨by rfl, ?_⟩) ?_ ?_
            rotate_left
            · intro w'
              go_simp
              with_reducible rfl
            rotate_left
            · simp only [Act.put, List.setIfInBounds_toArray, List.set_cons_zero, List.set_cons_succ]
              rfl
            refine pure_ (i := 7) (N := some 80) (v := ?_) (a' := ?_) #[true, true, true, true, true, true, true, true, false, true, false, false] rfl rfl (by kernel_rfl) (fun _ _ _ h => h) (Or.inl ⟨by rfl, ?_⟩) ?_ ?_
            rotate_left
            · intro w'
              go_simp
              with_reducible rfl
            rotate_left
            · simp only [Act.put, List.setIfInBounds_toArray, List.set_cons_zero, List.set_cons_succ]
              rfl
            refine pure_ (i := 8) (N := some 81) (v := ?_) (a' := ?_) #[true, true, true, true, true, true, true, true, true, true, false, false] rfl rfl (by kernel_rfl) (fun _ _ _ h => h) (Or.inl ⟨by rfl, ?_⟩) ?_ ?_
            rotate_left
            · intro w'
              go_simp
              with_reducible rfl
            rotate_left
            · simp only [Act.put, List.setIfInBounds_toArray, List.set_cons_zero, List.set_cons_succ]
              rfl
            exact norm_ (by simp only [putAll, Act.put, List.setIfInBounds_toArray, List.set_cons_zero, List.set_cons_succ]) (hCont g _ ⟨hHeld, hbox, n1, n2, n3, n4⟩)
        rintro s w3 ⟨hHeld, hbox, n1, n2, n3, n4⟩
        refine norm_ (a' := ?_) ?_ ?_
        rotate_left
        · simp only [putAll, Act.put, List.setIfInBounds_toArray, List.set_cons_zero, List.set_cons_succ]
          rfl
        refine one_ (i := 10) (N := none) #[true, true, true, true, true, true, true, true, true, true, true, false] rfl rfl (by kernel_rfl) (by decide) (fun K hK => ?_)
        have hs0 : w3.cell? ⟨s, 0, none⟩ = some (.int .u64 0) := (blk_cell hbox 0).trans rfl
        have hs1 : w3.cell? ⟨s, 1, none⟩ = some (.int .u64 0) := (blk_cell hbox 1).trans rfl
        have hf0 := blk_frozen hbox 0
        have hf1 := blk_frozen hbox 1
        refine skip_ (w1 := ?_) (by rfl) rfl ?_ ?_
        rotate_left
        · go_simp
          rfl
        have hbx := blk_put (blk_put hbox 0 (.int .u64 (hi (farZ px py a b a b))) rfl) 1 (.int .u64 (lo (farZ px py a b a b))) rfl
        refine hK.out _ _ ⟨below_set (below_set hHeld.1 n4) n4, (cell_far (p := ⟨s, _, none⟩) n1 _).trans ((cell_far (p := ⟨s, _, none⟩) n1 _).trans hHeld.2.1), (cell_far (p := ⟨s, _, none⟩) n1 _).trans ((cell_far (p := ⟨s, _, none⟩) n1 _).trans hHeld.2.2.1), (cell_far (p := ⟨s, _, none⟩) n2 _).trans ((cell_far (p := ⟨s, _, none⟩) n2 _).trans hHeld.2.2.2.1), (cell_far (p := ⟨s, _, none⟩) n2 _).trans ((cell_far (p := ⟨s, _, none⟩) n2 _).trans hHeld.2.2.2.2.1), (cell_far (p := ⟨s, _, none⟩) n3 _).trans ((cell_far (p := ⟨s, _, none⟩) n3 _).trans hHeld.2.2.2.2.2.1), (cell_far (p := ⟨s, _, none⟩) n3 _).trans ((cell_far (p := ⟨s, _, none⟩) n3 _).trans hHeld.2.2.2.2.2.2.1), (cell_far (p := ⟨s, _, none⟩) n3 _).trans ((cell_far (p := ⟨s, _, none⟩) n3 _).trans hHeld.2.2.2.2.2.2.2.1), (cell_far (p := ⟨s, _, none⟩) n3 _).trans ((cell_far (p := ⟨s, _, none⟩) n3 _).trans hHeld.2.2.2.2.2.2.2.2.1), (cell_far (p := ⟨s, _, none⟩) n3 _).trans ((cell_far (p := ⟨s, _, none⟩) n3 _).trans hHeld.2.2.2.2.2.2.2.2.2.1), (cell_far (p := ⟨s, _, none⟩) n3 _).trans ((cell_far (p := ⟨s, _, none⟩) n3 _).trans hHeld.2.2.2.2.2.2.2.2.2.2.1), (cell_far (p := ⟨s, _, none⟩) n3 _).trans ((cell_far (p := ⟨s, _, none⟩) n3 _).trans hHeld.2.2.2.2.2.2.2.2.2.2.2.1), (cell_far (p := ⟨s, _, none⟩) n3 _).trans ((cell_far (p := ⟨s, _, none⟩) n3 _).trans hHeld.2.2.2.2.2.2.2.2.2.2.2.2.1), (cell_far (p := ⟨s, _, none⟩) n3 _).trans ((cell_far (p := ⟨s, _, none⟩) n3 _).trans hHeld.2.2.2.2.2.2.2.2.2.2.2.2.2.1), (cell_far (p := ⟨s, _, none⟩) n3 _).trans ((cell_far (p := ⟨s, _, none⟩) n3 _).trans hHeld.2.2.2.2.2.2.2.2.2.2.2.2.2.2.1), (cell_far (p := ⟨s, _, none⟩) n3 _).trans ((cell_far (p := ⟨s, _, none⟩) n3 _).trans hHeld.2.2.2.2.2.2.2.2.2.2.2.2.2.2.2.1), (cell_far (p := ⟨s, _, none⟩) n3 _).trans ((cell_far (p := ⟨s, _, none⟩) n3 _).trans hHeld.2.2.2.2.2.2.2.2.2.2.2.2.2.2.2.2.1), (cell_far (p := ⟨s, _, none⟩) n3 _).trans ((cell_far (p := ⟨s, _, none⟩) n3 _).trans hHeld.2.2.2.2.2.2.2.2.2.2.2.2.2.2.2.2.2.1), (cell_far (p := ⟨s, _, none⟩) n3 _).trans ((cell_far (p := ⟨s, _, none⟩) n3 _).trans hHeld.2.2.2.2.2.2.2.2.2.2.2.2.2.2.2.2.2.2.1), (cell_far (p := ⟨s, _, none⟩) n3 _).trans ((cell_far (p := ⟨s, _, none⟩) n3 _).trans hHeld.2.2.2.2.2.2.2.2.2.2.2.2.2.2.2.2.2.2.2.1), (cell_far (p := ⟨s, _, none⟩) n3 _).trans ((cell_far (p := ⟨s, _, none⟩) n3 _).trans hHeld.2.2.2.2.2.2.2.2.2.2.2.2.2.2.2.2.2.2.2.2)⟩ (fun hHeld => ?_)
        clear hK K hs0 hs1 hf0 hf1
        generalize (w3.setCell ⟨s, 0, none⟩ (.int .u64 (hi (farZ px py a b a b)))).setCell ⟨s, 1, none⟩ (.int .u64 (lo (farZ px py a b a b))) = w4 at hHeld hbx ⊢
        have hx0 : w4.cell? ⟨s, 0, none⟩ = some (.int .u64 (hi (farZ px py a b a b))) := (blk_cell hbx 0).trans rfl
        have hx1 : w4.cell? ⟨s, 1, none⟩ = some (.int .u64 (lo (farZ px py a b a b))) := (blk_cell hbx 1).trans rfl
        refine pure_ (i := 11) (N := some 10) (v := ?_) (a' := ?_) #[true, true, true, true, true, true, true, true, true, true, true, true] rfl rfl (by kernel_rfl) (fun _ _ _ h => h) (Or.inl ⟨by rfl, ?_⟩) ?_ ?_
        rotate_left
        · intro w'
          go_simp
          with_reducible rfl
        rotate_left
        · simp only [Act.put, List.setIfInBounds_toArray, List.set_cons_zero, List.set_cons_succ]
          rfl
        refine done_ (by kernel_rfl) ?_
        clear hbox hbx
        obtain ⟨hB, k0, k1, k2, k3, k4, k5, k6, k7, k8, k9, k10, k11, k12, k13, k14, k15, k16, k17, k18, k19⟩ := hHeld
        go_wp2_with (first | (go_at_call 30; refine (num_any _ _).mono ?_; rintro e w' ⟨rfl, rfl⟩) | (go_at_call 28; refine (rCmpTo HL.out.1 _).mono ?_; rintro e w2 ⟨s, hs, rfl, hb2⟩))
        go_roundw
        case rel => exact ⟨1, Or.inr (Or.inl rfl), rfl, below_then (by assumption) hb2, keeps hb2 k0, keeps hb2 k1, keeps hb2 k2, keeps hb2 k3, keeps hb2 k4, keeps hb2 k5, keeps hb2 k6, keeps hb2 k7, keeps hb2 k8, keeps hb2 k9, keeps hb2 k10, keeps hb2 k11, keeps hb2 k12, keeps hb2 k13, keeps hb2 k14, keeps hb2 k15, keeps hb2 k16, keeps hb2 k17, keeps hb2 k18, keeps hb2 k19⟩
        case measure => simp [intOf]
      · go_wp2_with fail
        refine start_ (n := 12) (S := fun w' => Below w.heap.size w w' ∧ w'.cell? ⟨w.heap.size, 0, none⟩ = some (.int .i64 px) ∧ w'.cell? ⟨w.heap.size, 1, none⟩ = some (.int .i64 py) ∧ w'.cell? ⟨wF.heap.size, 0, none⟩ = some (.int .u64 (hi (farZ px py a b c d))) ∧ w'.cell? ⟨wF.heap.size, 1, none⟩ = some (.int .u64 (lo (farZ px py a b c d))) ∧ w'.cell? ⟨wc.heap.size, 0, none⟩ = some (.int .i64 a) ∧ w'.cell? ⟨wc.heap.size, 1, none⟩ = some (.int .i64 b) ∧ w'.cell? ⟨wc.heap.size, 2, none⟩ = some (.int .i64 a) ∧ w'.cell? ⟨wc.heap.size, 3, none⟩ = some (.int .i64 b) ∧ w'.cell? ⟨wc.heap.size, 4, none⟩ = some (.int .i64 c) ∧ w'.cell? ⟨wc.heap.size, 5, none⟩ = some (.int .i64 b) ∧ w'.cell? ⟨wc.heap.size, 6, none⟩ = some (.int .i64 c) ∧ w'.cell? ⟨wc.heap.size, 7, none⟩ = some (.int .i64 b) ∧ w'.cell? ⟨wc.heap.size, 8, none⟩ = some (.int .i64 a) ∧ w'.cell? ⟨wc.heap.size, 9, none⟩ = some (.int .i64 d) ∧ w'.cell? ⟨wc.heap.size, 10, none⟩ = some (.int .i64 a) ∧ w'.cell? ⟨wc.heap.size, 11, none⟩ = some (.int .i64 d) ∧ w'.cell? ⟨wc.heap.size, 12, none⟩ = some (.int .i64 c) ∧ w'.cell? ⟨wc.heap.size, 13, none⟩ = some (.int .i64 d) ∧ w'.cell? ⟨wc.heap.size, 14, none⟩ = some (.int .i64 c) ∧ w'.cell? ⟨wc.heap.size, 15, none⟩ = some (.int .i64 d)) (ds := []) #[false, false, false, false, false, false, false, false, false, false, false, false] (by kernel_rfl) rfl rfl ⟨Below.drew hB, k0, k1, k2, k3, k4, k5, k6, k7, k8, k9, k10, k11, k12, k13, k14, k15, k16, k17, k18, k19⟩ (fun hHeld => ?_)
        clear hB k0 k1 k2 k3 k4 k5 k6 k7 k8 k9 k10 k11 k12 k13 k14 k15 k16 k17 k18 k19
        generalize wr.drew = w0 at hHeld ⊢
        refine pure_ (i := 1) (N := some 75) (v := ?_) (a' := ?_) #[false, true, false, false, false, false, false, false, false, false, false, false] rfl rfl (by kernel_rfl) (fun _ _ _ h => h) (Or.inl ⟨by rfl, ?_⟩) ?_ ?_
        rotate_left
        · intro w'
          go_simp
          with_reducible rfl
        rotate_left
        · simp only [Act.put, List.setIfInBounds_toArray, List.set_cons_zero, List.set_cons_succ]
          rfl
        refine pure_ (i := 2) (N := some 76) (v := ?_) (a' := ?_) #[false, true, true, false, false, false, false, false, false, false, false, false] rfl rfl (by kernel_rfl) (fun _ _ _ h => h) (Or.inl ⟨by rfl, ?_⟩) ?_ ?_
        rotate_left
        · intro w'
          go_simp
          with_reducible rfl
        rotate_left
        · simp only [Act.put, List.setIfInBounds_toArray, List.set_cons_zero, List.set_cons_succ]
          rfl
        refine pure_ (i := 3) (N := some 77) (v := ?_) (a' := ?_) #[false, true, true, true, false, false, false, false, false, false, false, false] rfl rfl (by kernel_rfl) (fun _ _ _ h => h) (Or.inl ⟨by rfl, ?_⟩) ?_ ?_
        rotate_left
        · intro w'
          go_simp
          with_reducible rfl
        rotate_left
        · simp only [Act.put, List.setIfInBounds_toArray, List.set_cons_zero, List.set_cons_succ]
          rfl
        refine take_ (i := 0) (N := some 74) (v := ?_) (a' := ?_) #[true, true, true, true, false, false, false, false, false, false, false, false] rfl rfl (by kernel_rfl) (fun _ _ _ h => h) (Or.inl ⟨by rfl, ?_⟩) hHeld ?_ ?_
        rotate_left
        · intro w' hS'
          (try dsimp only at hS')
          go_split_ands
          go_simp
          with_reducible rfl
        rotate_left
        · simp only [Act.put, List.setIfInBounds_toArray, List.set_cons_zero, List.set_cons_succ]
          rfl
        refine take_ (i := 4) (N := some 78) (v := ?_) (a' := ?_) #[true, true, true, true, true, false, false, false, false, false, false, false] rfl rfl (by kernel_rfl) (fun _ _ _ h => h) (Or.inl ⟨by rfl, ?_⟩) hHeld ?_ ?_
        rotate_left
        · intro w' hS'
          (try dsimp only at hS')
          go_split_ands
          go_simp
          with_reducible rfl
        rotate_left
        · simp only [Act.put, List.setIfInBounds_toArray, List.set_cons_zero, List.set_cons_succ]
          rfl
        refine join_ (σ := Nat) 2 #[true, true, true, true, true, true, true, true, true, true, false, false] (fun s_ => [(79, .tuple #[.agg #[.int .u64 (hi (farZ px py c b c b)), .int .u64 (lo (farZ px py c b c b))], .int .i64 0]), (9, .pointer (some ⟨s_, 0, none⟩)), (73, .tuple #[.agg #[.int .u64 (hi (farZ px py c b c b)), .int .u64 (lo (farZ px py c b c b))], .int .i64 0]), (80, .agg #[.int .u64 (hi (farZ px py c b c b)), .int .u64 (lo (farZ px py c b c b))]), (81, .int .i64 0)]) (fun s_ w' => (Below w.heap.size w w' ∧ w'.cell? ⟨w.heap.size, 0, none⟩ = some (.int .i64 px) ∧ w'.cell? ⟨w.heap.size, 1, none⟩ = some (.int .i64 py) ∧ w'.cell? ⟨wF.heap.size, 0, none⟩ = some (.int .u64 (hi (farZ px py a b c d))) ∧ w'.cell? ⟨wF.heap.size, 1, none⟩ = some (.int .u64 (lo (farZ px py a b c d))) ∧ w'.cell? ⟨wc.heap.size, 0, none⟩ = some (.int .i64 a) ∧ w'.cell? ⟨wc.heap.size, 1, none⟩ = some (.int .i64 b) ∧ w'.cell? ⟨wc.heap.size, 2, none⟩ = some (.int .i64 a) ∧ w'.cell? ⟨wc.heap.size, 3, none⟩ = some (.int .i64 b) ∧ w'.cell? ⟨wc.heap.size, 4, none⟩ = some (.int .i64 c) ∧ w'.cell? ⟨wc.heap.size, 5, none⟩ = some (.int .i64 b) ∧ w'.cell? ⟨wc.heap.size, 6, none⟩ = some (.int .i64 c) ∧ w'.cell? ⟨wc.heap.size, 7, none⟩ = some (.int .i64 b) ∧ w'.cell? ⟨wc.heap.size, 8, none⟩ = some (.int .i64 a) ∧ w'.cell? ⟨wc.heap.size, 9, none⟩ = some (.int .i64 d) ∧ w'.cell? ⟨wc.heap.size, 10, none⟩ = some (.int .i64 a) ∧ w'.cell? ⟨wc.heap.size, 11, none⟩ = some (.int .i64 d) ∧ w'.cell? ⟨wc.heap.size, 12, none⟩ = some (.int .i64 c) ∧ w'.cell? ⟨wc.heap.size, 13, none⟩ = some (.int .i64 d) ∧ w'.cell? ⟨wc.heap.size, 14, none⟩ = some (.int .i64 c) ∧ w'.cell? ⟨wc.heap.size, 15, none⟩ = some (.int .i64 d)) ∧ w'.heap[s_]? = some (.cells #[.int .u64 0, .int .u64 0] 25 (0, 0)) ∧ w.heap.size ≠ s_ ∧ wF.heap.size ≠ s_ ∧ wc.heap.size ≠ s_ ∧ w.heap.size ≤ s_) ?_ ?_
        rotate_left
        · intro hCont
          refine two_ (i := 5) (j := 9) (Ni := some 79) (Nj := some 9) #[true, true, true, true, true, true, false, false, false, false, false, false] #[true, true, true, true, true, false, false, false, false, true, false, false] rfl rfl rfl rfl (by kernel_rfl) (by decide) (by decide) (fun K hK => ?_) (fun K hK => ?_)
          · skip
            refine goes_ Try.func37 (by kernel_rfl) rfl #[.agg #[.int .i64 px, .int .i64 py], .agg #[.int .i64 c, .int .i64 b, .int .i64 c, .int .i64 b]] (by rfl) rfl rfl (by first | rfl | (simp only [List.map_toArray, List.map_cons, List.map_nil]; rfl)) ?_
            refine (farTo F1.out _).mono ?_
            rintro e w1 ⟨rfl, hb⟩
            refine ⟨_, rfl, ?_⟩
            refine hK.out _ _ ⟨below_then hHeld.1 hb, keeps hb hHeld.2.1, keeps hb hHeld.2.2.1, keeps hb hHeld.2.2.2.1, keeps hb hHeld.2.2.2.2.1, keeps hb hHeld.2.2.2.2.2.1, keeps hb hHeld.2.2.2.2.2.2.1, keeps hb hHeld.2.2.2.2.2.2.2.1, keeps hb hHeld.2.2.2.2.2.2.2.2.1, keeps hb hHeld.2.2.2.2.2.2.2.2.2.1, keeps hb hHeld.2.2.2.2.2.2.2.2.2.2.1, keeps hb hHeld.2.2.2.2.2.2.2.2.2.2.2.1, keeps hb hHeld.2.2.2.2.2.2.2.2.2.2.2.2.1, keeps hb hHeld.2.2.2.2.2.2.2.2.2.2.2.2.2.1, keeps hb hHeld.2.2.2.2.2.2.2.2.2.2.2.2.2.2.1, keeps hb hHeld.2.2.2.2.2.2.2.2.2.2.2.2.2.2.2.1, keeps hb hHeld.2.2.2.2.2.2.2.2.2.2.2.2.2.2.2.2.1, keeps hb hHeld.2.2.2.2.2.2.2.2.2.2.2.2.2.2.2.2.2.1, keeps hb hHeld.2.2.2.2.2.2.2.2.2.2.2.2.2.2.2.2.2.2.1, keeps hb hHeld.2.2.2.2.2.2.2.2.2.2.2.2.2.2.2.2.2.2.2.1, keeps hb hHeld.2.2.2.2.2.2.2.2.2.2.2.2.2.2.2.2.2.2.2.2⟩ (fun hHeld => ?_)
            clear hK K hb
            refine norm_ (a' := ?_) ?_ ?_
            rotate_left
            · show Act.put _ (some 79) _ = _
              simp only [Act.put, List.setIfInBounds_toArray, List.set_cons_zero, List.set_cons_succ]
              rfl
            refine pure_ (i := 6) (N := some 73) (v := ?_) (a' := ?_) #[true, true, true, true, true, true, true, false, false, false, false, false] rfl rfl (by kernel_rfl) (fun _ _ _ h => h) (Or.inl ⟨by rfl, ?_⟩) ?_ ?_
            rotate_left
            · intro w'
              go_simp
              with_reducible rfl
            rotate_left
            · simp only [Act.put, List.setIfInBounds_toArray, List.set_cons_zero, List.set_cons_succ]
              rfl
            refine pure_ (i := 7) (N := some 80) (v := ?_) (a' := ?_) #[true, true, true, true, true, true, true, true, false, false, false, false] rfl rfl (by kernel_rfl) (fun _ _ _ h => h) (Or.inl ⟨by rfl, ?_⟩) ?_ ?_
            rotate_left
            · intro w'
              go_simp
              with_reducible rfl
            rotate_left
            · simp only [Act.put, List.setIfInBounds_toArray, List.set_cons_zero, List.set_cons_succ]
              rfl
            refine pure_ (i := 8) (N := some 81) (v := ?_) (a' := ?_) #[true, true, true, true, true, true, true, true, true, false, false, false] rfl rfl (by kernel_rfl) (fun _ _ _ h => h) (Or.inl ⟨by rfl, ?_⟩) ?_ ?_
            rotate_left
            · intro w'
              go_simp
              with_reducible rfl
            rotate_left
            · simp only [Act.put, List.setIfInBounds_toArray, List.set_cons_zero, List.set_cons_succ]
              rfl
            refine one_ (i := 9) (N := some 9) #[true, true, true, true, true, true, true, true, true, true, false, false] rfl rfl (by kernel_rfl) (by decide) (fun K hK => ?_)
            refine box_step ?hg (N := 9) ?hd (cs := #[.int .u64 0, .int .u64 0]) (t := 25) ?hr ?_; (case hd => rfl); (case hg => rfl); (case hr => first | (go_simp; done) | (go_simp; rfl))
            intro g hg w2 hbox hb
            have n1 : w.heap.size ≠ g := by rw [hg]; exact Nat.ne_of_lt (World.block_lt_of_cell? _ _ (hHeld.2.1))
            have n2 : wF.heap.size ≠ g := by rw [hg]; exact Nat.ne_of_lt (World.block_lt_of_cell? _ _ (hHeld.2.2.2.1))
            have n3 : wc.heap.size ≠ g := by rw [hg]; exact Nat.ne_of_lt (World.block_lt_of_cell? _ _ (hHeld.2.2.2.2.2.1))
            have n4 : w.heap.size ≤ g := by rw [hg]; exact hHeld.1.size
            refine hK.out _ _ ⟨below_then hHeld.1 hb, keeps hb hHeld.2.1, keeps hb hHeld.2.2.1, keeps hb hHeld.2.2.2.1, keeps hb hHeld.2.2.2.2.1, keeps hb hHeld.2.2.2.2.2.1, keeps hb hHeld.2.2.2.2.2.2.1, keeps hb hHeld.2.2.2.2.2.2.2.1, keeps hb hHeld.2.2.2.2.2.2.2.2.1, keeps hb hHeld.2.2.2.2.2.2.2.2.2.1, keeps hb hHeld.2.2.2.2.2.2.2.2.2.2.1, keeps hb hHeld.2.2.2.2.2.2.2.2.2.2.2.1, keeps hb hHeld.2.2.2.2.2.2.2.2.2.2.2.2.1, keeps hb hHeld.2.2.2.2.2.2.2.2.2.2.2.2.2.1, keeps hb hHeld.2.2.2.2.2.2.2.2.2.2.2.2.2.2.1, keeps hb hHeld.2.2.2.2.2.2.2.2.2.2.2.2.2.2.2.1, keeps hb hHeld.2.2.2.2.2.2.2.2.2.2.2.2.2.2.2.2.1, keeps hb hHeld.2.2.2.2.2.2.2.2.2.2.2.2.2.2.2.2.2.1, keeps hb hHeld.2.2.2.2.2.2.2.2.2.2.2.2.2.2.2.2.2.2.1, keeps hb hHeld.2.2.2.2.2.2.2.2.2.2.2.2.2.2.2.2.2.2.2.1, keeps hb hHeld.2.2.2.2.2.2.2.2.2.2.2.2.2.2.2.2.2.2.2.2⟩ (fun hHeld => ?_)
            clear hK K hb hg
            refine norm_ (a' := ?_) ?_ ?_
            rotate_left
            · show Act.put _ (some 9) _ = _
              simp only [Act.put, List.setIfInBounds_toArray, List.set_cons_zero, List.set_cons_succ]
              rfl
            exact norm_ (by simp only [putAll, Act.put, List.setIfInBounds_toArray, List.set_cons_zero, List.set_cons_succ]) (hCont g _ ⟨hHeld, hbox, n1, n2, n3, n4⟩)
          · skip
            refine box_step ?hg (N := 9) ?hd (cs := #[.int .u64 0, .int .u64 0]) (t := 25) ?hr ?_; (case hd => rfl); (case hg => rfl); (case hr => first | (go_simp; done) | (go_simp; rfl))
            intro g hg w2 hbox hb
            have n1 : w.heap.size ≠ g := by rw [hg]; exact Nat.ne_of_lt (World.block_lt_of_cell? _ _ (hHeld.2.1))
            have n2 : wF.heap.size ≠ g := by rw [hg]; exact Nat.ne_of_lt (World.block_lt_of_cell? _ _ (hHeld.2.2.2.1))
            have n3 : wc.heap.size ≠ g := by rw [hg]; exact Nat.ne_of_lt (World.block_lt_of_cell? _ _ (hHeld.2.2.2.2.2.1))
            have n4 : w.heap.size ≤ g := by rw [hg]; exact hHeld.1.size
            refine hK.out _ _ ⟨below_then hHeld.1 hb, keeps hb hHeld.2.1, keeps hb hHeld.2.2.1, keeps hb hHeld.2.2.2.1, keeps hb hHeld.2.2.2.2.1, keeps hb hHeld.2.2.2.2.2.1, keeps hb hHeld.2.2.2.2.2.2.1, keeps hb hHeld.2.2.2.2.2.2.2.1, keeps hb hHeld.2.2.2.2.2.2.2.2.1, keeps hb hHeld.2.2.2.2.2.2.2.2.2.1, keeps hb hHeld.2.2.2.2.2.2.2.2.2.2.1, keeps hb hHeld.2.2.2.2.2.2.2.2.2.2.2.1, keeps hb hHeld.2.2.2.2.2.2.2.2.2.2.2.2.1, keeps hb hHeld.2.2.2.2.2.2.2.2.2.2.2.2.2.1, keeps hb hHeld.2.2.2.2.2.2.2.2.2.2.2.2.2.2.1, keeps hb hHeld.2.2.2.2.2.2.2.2.2.2.2.2.2.2.2.1, keeps hb hHeld.2.2.2.2.2.2.2.2.2.2.2.2.2.2.2.2.1, keeps hb hHeld.2.2.2.2.2.2.2.2.2.2.2.2.2.2.2.2.2.1, keeps hb hHeld.2.2.2.2.2.2.2.2.2.2.2.2.2.2.2.2.2.2.1, keeps hb hHeld.2.2.2.2.2.2.2.2.2.2.2.2.2.2.2.2.2.2.2.1, keeps hb hHeld.2.2.2.2.2.2.2.2.2.2.2.2.2.2.2.2.2.2.2.2⟩ (fun hHeld => ?_)
            clear hK K hb hg
            refine norm_ (a' := ?_) ?_ ?_
            rotate_left
            · show Act.put _ (some 9) _ = _
              simp only [Act.put, List.setIfInBounds_toArray, List.set_cons_zero, List.set_cons_succ]
              rfl
            refine one_ (i := 5) (N := some 79) #[true, true, true, true, true, true, false, false, false, true, false, false] rfl rfl (by kernel_rfl) (by decide) (fun K hK => ?_)
            refine goes_ Try.func37 (by kernel_rfl) rfl #[.agg #[.int .i64 px, .int .i64 py], .agg #[.int .i64 c, .int .i64 b, .int .i64 c, .int .i64 b]] (by rfl) rfl rfl (by first | rfl | (simp only [List.map_toArray, List.map_cons, List.map_nil]; rfl)) ?_
            refine (farTo F1.out _).mono ?_
            rintro e w1 ⟨rfl, hb⟩
            refine ⟨_, rfl, ?_⟩
            replace hbox := blk_below hbox hb
            refine hK.out _ _ ⟨below_then hHeld.1 hb, keeps hb hHeld.2.1, keeps hb hHeld.2.2.1, keeps hb hHeld.2.2.2.1, keeps hb hHeld.2.2.2.2.1, keeps hb hHeld.2.2.2.2.2.1, keeps hb hHeld.2.2.2.2.2.2.1, keeps hb hHeld.2.2.2.2.2.2.2.1, keeps hb hHeld.2.2.2.2.2.2.2.2.1, keeps hb hHeld.2.2.2.2.2.2.2.2.2.1, keeps hb hHeld.2.2.2.2.2.2.2.2.2.2.1, keeps hb hHeld.2.2.2.2.2.2.2.2.2.2.2.1, keeps hb hHeld.2.2.2.2.2.2.2.2.2.2.2.2.1, keeps hb hHeld.2.2.2.2.2.2.2.2.2.2.2.2.2.1, keeps hb hHeld.2.2.2.2.2.2.2.2.2.2.2.2.2.2.1, keeps hb hHeld.2.2.2.2.2.2.2.2.2.2.2.2.2.2.2.1, keeps hb hHeld.2.2.2.2.2.2.2.2.2.2.2.2.2.2.2.2.1, keeps hb hHeld.2.2.2.2.2.2.2.2.2.2.2.2.2.2.2.2.2.1, keeps hb hHeld.2.2.2.2.2.2.2.2.2.2.2.2.2.2.2.2.2.2.1, keeps hb hHeld.2.2.2.2.2.2.2.2.2.2.2.2.2.2.2.2.2.2.2.1, keeps hb hHeld.2.2.2.2.2.2.2.2.2.2.2.2.2.2.2.2.2.2.2.2⟩ (fun hHeld => ?_)
            clear hK K hb
            refine norm_ (a' := ?_) ?_ ?_
            rotate_left
            · show Act.put _ (some 79) _ = _
              simp only [Act.put, List.setIfInBounds_toArray, List.set_cons_zero, List.set_cons_succ]
              rfl
            refine pure_ (i := 6) (N := some 73) (v := ?_) (a' := ?_) #[true, true, true, true, true, true, true, false, false, true, false, false] rfl rfl (by kernel_rfl) (fun _ _ _ h => h) (Or.inl ⟨by rfl, ?_⟩) ?_ ?_
            rotate_left
            · intro w'
              go_simp
              with_reducible rfl
            rotate_left
            · simp only [Act.put, List.setIfInBounds_toArray, List.set_cons_zero, List.set_cons_succ]
              rfl
            refine pure_ (i := 7) (N := some 80) (v := ?_) (a' := ?_) #[true, true, true, true, true, true, true, true, false, true, false, false] rfl rfl (by kernel_rfl) (fun _ _ _ h => h) (Or.inl ⟨by rfl, ?_⟩) ?_ ?_
            rotate_left
            · intro w'
              go_simp
              with_reducible rfl
            rotate_left
            · simp only [Act.put, List.setIfInBounds_toArray, List.set_cons_zero, List.set_cons_succ]
              rfl
            refine pure_ (i := 8) (N := some 81) (v := ?_) (a' := ?_) #[true, true, true, true, true, true, true, true, true, true, false, false] rfl rfl (by kernel_rfl) (fun _ _ _ h => h) (Or.inl ⟨by rfl, ?_⟩) ?_ ?_
            rotate_left
            · intro w'
              go_simp
              with_reducible rfl
            rotate_left
            · simp only [Act.put, List.setIfInBounds_toArray, List.set_cons_zero, List.set_cons_succ]
              rfl
            exact norm_ (by simp only [putAll, Act.put, List.setIfInBounds_toArray, List.set_cons_zero, List.set_cons_succ]) (hCont g _ ⟨hHeld, hbox, n1, n2, n3, n4⟩)
        rintro s w3 ⟨hHeld, hbox, n1, n2, n3, n4⟩
        refine norm_ (a' := ?_) ?_ ?_
        rotate_left
        · simp only [putAll, Act.put, List.setIfInBounds_toArray, List.set_cons_zero, List.set_cons_succ]
          rfl
        refine one_ (i := 10) (N := none) #[true, true, true, true, true, true, true, true, true, true, true, false] rfl rfl (by kernel_rfl) (by decide) (fun K hK => ?_)
        have hs0 : w3.cell? ⟨s, 0, none⟩ = some (.int .u64 0) := (blk_cell hbox 0).trans rfl
        have hs1 : w3.cell? ⟨s, 1, none⟩ = some (.int .u64 0) := (blk_cell hbox 1).trans rfl
        have hf0 := blk_frozen hbox 0
        have hf1 := blk_frozen hbox 1
        refine skip_ (w1 := ?_) (by rfl) rfl ?_ ?_
        rotate_left
        · go_simp
          rfl
        have hbx := blk_put (blk_put hbox 0 (.int .u64 (hi (farZ px py c b c b))) rfl) 1 (.int .u64 (lo (farZ px py c b c b))) rfl
        refine hK.out _ _ ⟨below_set (below_set hHeld.1 n4) n4, (cell_far (p := ⟨s, _, none⟩) n1 _).trans ((cell_far (p := ⟨s, _, none⟩) n1 _).trans hHeld.2.1), (cell_far (p := ⟨s, _, none⟩) n1 _).trans ((cell_far (p := ⟨s, _, none⟩) n1 _).trans hHeld.2.2.1), (cell_far (p := ⟨s, _, none⟩) n2 _).trans ((cell_far (p := ⟨s, _, none⟩) n2 _).trans hHeld.2.2.2.1), (cell_far (p := ⟨s, _, none⟩) n2 _).trans ((cell_far (p := ⟨s, _, none⟩) n2 _).trans hHeld.2.2.2.2.1), (cell_far (p := ⟨s, _, none⟩) n3 _).trans ((cell_far (p := ⟨s, _, none⟩) n3 _).trans hHeld.2.2.2.2.2.1), (cell_far (p := ⟨s, _, none⟩) n3 _).trans ((cell_far (p := ⟨s, _, none⟩) n3 _).trans hHeld.2.2.2.2.2.2.1), (cell_far (p := ⟨s, _, none⟩) n3 _).trans ((cell_far (p := ⟨s, _, none⟩) n3 _).trans hHeld.2.2.2.2.2.2.2.1), (cell_far (p := ⟨s, _, none⟩) n3 _).trans ((cell_far (p := ⟨s, _, none⟩) n3 _).trans hHeld.2.2.2.2.2.2.2.2.1), (cell_far (p := ⟨s, _, none⟩) n3 _).trans ((cell_far (p := ⟨s, _, none⟩) n3 _).trans hHeld.2.2.2.2.2.2.2.2.2.1), (cell_far (p := ⟨s, _, none⟩) n3 _).trans ((cell_far (p := ⟨s, _, none⟩) n3 _).trans hHeld.2.2.2.2.2.2.2.2.2.2.1), (cell_far (p := ⟨s, _, none⟩) n3 _).trans ((cell_far (p := ⟨s, _, none⟩) n3 _).trans hHeld.2.2.2.2.2.2.2.2.2.2.2.1), (cell_far (p := ⟨s, _, none⟩) n3 _).trans ((cell_far (p := ⟨s, _, none⟩) n3 _).trans hHeld.2.2.2.2.2.2.2.2.2.2.2.2.1), (cell_far (p := ⟨s, _, none⟩) n3 _).trans ((cell_far (p := ⟨s, _, none⟩) n3 _).trans hHeld.2.2.2.2.2.2.2.2.2.2.2.2.2.1), (cell_far (p := ⟨s, _, none⟩) n3 _).trans ((cell_far (p := ⟨s, _, none⟩) n3 _).trans hHeld.2.2.2.2.2.2.2.2.2.2.2.2.2.2.1), (cell_far (p := ⟨s, _, none⟩) n3 _).trans ((cell_far (p := ⟨s, _, none⟩) n3 _).trans hHeld.2.2.2.2.2.2.2.2.2.2.2.2.2.2.2.1), (cell_far (p := ⟨s, _, none⟩) n3 _).trans ((cell_far (p := ⟨s, _, none⟩) n3 _).trans hHeld.2.2.2.2.2.2.2.2.2.2.2.2.2.2.2.2.1), (cell_far (p := ⟨s, _, none⟩) n3 _).trans ((cell_far (p := ⟨s, _, none⟩) n3 _).trans hHeld.2.2.2.2.2.2.2.2.2.2.2.2.2.2.2.2.2.1), (cell_far (p := ⟨s, _, none⟩) n3 _).trans ((cell_far (p := ⟨s, _, none⟩) n3 _).trans hHeld.2.2.2.2.2.2.2.2.2.2.2.2.2.2.2.2.2.2.1), (cell_far (p := ⟨s, _, none⟩) n3 _).trans ((cell_far (p := ⟨s, _, none⟩) n3 _).trans hHeld.2.2.2.2.2.2.2.2.2.2.2.2.2.2.2.2.2.2.2.1), (cell_far (p := ⟨s, _, none⟩) n3 _).trans ((cell_far (p := ⟨s, _, none⟩) n3 _).trans hHeld.2.2.2.2.2.2.2.2.2.2.2.2.2.2.2.2.2.2.2.2)⟩ (fun hHeld => ?_)
        clear hK K hs0 hs1 hf0 hf1
        generalize (w3.setCell ⟨s, 0, none⟩ (.int .u64 (hi (farZ px py c b c b)))).setCell ⟨s, 1, none⟩ (.int .u64 (lo (farZ px py c b c b))) = w4 at hHeld hbx ⊢
        have hx0 : w4.cell? ⟨s, 0, none⟩ = some (.int .u64 (hi (farZ px py c b c b))) := (blk_cell hbx 0).trans rfl
        have hx1 : w4.cell? ⟨s, 1, none⟩ = some (.int .u64 (lo (farZ px py c b c b))) := (blk_cell hbx 1).trans rfl
        refine pure_ (i := 11) (N := some 10) (v := ?_) (a' := ?_) #[true, true, true, true, true, true, true, true, true, true, true, true] rfl rfl (by kernel_rfl) (fun _ _ _ h => h) (Or.inl ⟨by rfl, ?_⟩) ?_ ?_
        rotate_left
        · intro w'
          go_simp
          with_reducible rfl
        rotate_left
        · simp only [Act.put, List.setIfInBounds_toArray, List.set_cons_zero, List.set_cons_succ]
          rfl
        refine done_ (by kernel_rfl) ?_
        clear hbox hbx
        obtain ⟨hB, k0, k1, k2, k3, k4, k5, k6, k7, k8, k9, k10, k11, k12, k13, k14, k15, k16, k17, k18, k19⟩ := hHeld
        go_wp2_with (first | (go_at_call 30; refine (num_any _ _).mono ?_; rintro e w' ⟨rfl, rfl⟩) | (go_at_call 28; refine (rCmpTo HL.out.2.1 _).mono ?_; rintro e w2 ⟨s, hs, rfl, hb2⟩))
        go_roundw
        case rel => exact ⟨2, Or.inr (Or.inr (Or.inl rfl)), rfl, below_then (by assumption) hb2, keeps hb2 k0, keeps hb2 k1, keeps hb2 k2, keeps hb2 k3, keeps hb2 k4, keeps hb2 k5, keeps hb2 k6, keeps hb2 k7, keeps hb2 k8, keeps hb2 k9, keeps hb2 k10, keeps hb2 k11, keeps hb2 k12, keeps hb2 k13, keeps hb2 k14, keeps hb2 k15, keeps hb2 k16, keeps hb2 k17, keeps hb2 k18, keeps hb2 k19⟩
        case measure => simp [intOf]
      · go_wp2_with fail
        refine start_ (n := 12) (S := fun w' => Below w.heap.size w w' ∧ w'.cell? ⟨w.heap.size, 0, none⟩ = some (.int .i64 px) ∧ w'.cell? ⟨w.heap.size, 1, none⟩ = some (.int .i64 py) ∧ w'.cell? ⟨wF.heap.size, 0, none⟩ = some (.int .u64 (hi (farZ px py a b c d))) ∧ w'.cell? ⟨wF.heap.size, 1, none⟩ = some (.int .u64 (lo (farZ px py a b c d))) ∧ w'.cell? ⟨wc.heap.size, 0, none⟩ = some (.int .i64 a) ∧ w'.cell? ⟨wc.heap.size, 1, none⟩ = some (.int .i64 b) ∧ w'.cell? ⟨wc.heap.size, 2, none⟩ = some (.int .i64 a) ∧ w'.cell? ⟨wc.heap.size, 3, none⟩ = some (.int .i64 b) ∧ w'.cell? ⟨wc.heap.size, 4, none⟩ = some (.int .i64 c) ∧ w'.cell? ⟨wc.heap.size, 5, none⟩ = some (.int .i64 b) ∧ w'.cell? ⟨wc.heap.size, 6, none⟩ = some (.int .i64 c) ∧ w'.cell? ⟨wc.heap.size, 7, none⟩ = some (.int .i64 b) ∧ w'.cell? ⟨wc.heap.size, 8, none⟩ = some (.int .i64 a) ∧ w'.cell? ⟨wc.heap.size, 9, none⟩ = some (.int .i64 d) ∧ w'.cell? ⟨wc.heap.size, 10, none⟩ = some (.int .i64 a) ∧ w'.cell? ⟨wc.heap.size, 11, none⟩ = some (.int .i64 d) ∧ w'.cell? ⟨wc.heap.size, 12, none⟩ = some (.int .i64 c) ∧ w'.cell? ⟨wc.heap.size, 13, none⟩ = some (.int .i64 d) ∧ w'.cell? ⟨wc.heap.size, 14, none⟩ = some (.int .i64 c) ∧ w'.cell? ⟨wc.heap.size, 15, none⟩ = some (.int .i64 d)) (ds := []) #[false, false, false, false, false, false, false, false, false, false, false, false] (by kernel_rfl) rfl rfl ⟨Below.drew hB, k0, k1, k2, k3, k4, k5, k6, k7, k8, k9, k10, k11, k12, k13, k14, k15, k16, k17, k18, k19⟩ (fun hHeld => ?_)
        clear hB k0 k1 k2 k3 k4 k5 k6 k7 k8 k9 k10 k11 k12 k13 k14 k15 k16 k17 k18 k19
        generalize wr.drew = w0 at hHeld ⊢
        refine pure_ (i := 1) (N := some 75) (v := ?_) (a' := ?_) #[false, true, false, false, false, false, false, false, false, false, false, false] rfl rfl (by kernel_rfl) (fun _ _ _ h => h) (Or.inl ⟨by rfl, ?_⟩) ?_ ?_
        rotate_left
        · intro w'
          go_simp
          with_reducible rfl
        rotate_left
        · simp only [Act.put, List.setIfInBounds_toArray, List.set_cons_zero, List.set_cons_succ]
          rfl
        refine pure_ (i := 2) (N := some 76) (v := ?_) (a' := ?_) #[false, true, true, false, false, false, false, false, false, false, false, false] rfl rfl (by kernel_rfl) (fun _ _ _ h => h) (Or.inl ⟨by rfl, ?_⟩) ?_ ?_
        rotate_left
        · intro w'
          go_simp
          with_reducible rfl
        rotate_left
        · simp only [Act.put, List.setIfInBounds_toArray, List.set_cons_zero, List.set_cons_succ]
          rfl
        refine pure_ (i := 3) (N := some 77) (v := ?_) (a' := ?_) #[false, true, true, true, false, false, false, false, false, false, false, false] rfl rfl (by kernel_rfl) (fun _ _ _ h => h) (Or.inl ⟨by rfl, ?_⟩) ?_ ?_
        rotate_left
        · intro w'
          go_simp
          with_reducible rfl
        rotate_left
        · simp only [Act.put, List.setIfInBounds_toArray, List.set_cons_zero, List.set_cons_succ]
          rfl
        refine take_ (i := 0) (N := some 74) (v := ?_) (a' := ?_) #[true, true, true, true, false, false, false, false, false, false, false, false] rfl rfl (by kernel_rfl) (fun _ _ _ h => h) (Or.inl ⟨by rfl, ?_⟩) hHeld ?_ ?_
        rotate_left
        · intro w' hS'
          (try dsimp only at hS')
          go_split_ands
          go_simp
          with_reducible rfl
        rotate_left
        · simp only [Act.put, List.setIfInBounds_toArray, List.set_cons_zero, List.set_cons_succ]
          rfl
        refine take_ (i := 4) (N := some 78) (v := ?_) (a' := ?_) #[true, true, true, true, true, false, false, false, false, false, false, false] rfl rfl (by kernel_rfl) (fun _ _ _ h => h) (Or.inl ⟨by rfl, ?_⟩) hHeld ?_ ?_
        rotate_left
        · intro w' hS'
          (try dsimp only at hS')
          go_split_ands
          go_simp
          with_reducible rfl
        rotate_left
        · simp only [Act.put, List.setIfInBounds_toArray, List.set_cons_zero, List.set_cons_succ]
          rfl
        refine join_ (σ := Nat) 2 #[true, true, true, true, true, true, true, true, true, true, false, false] (fun s_ => [(79, .tuple #[.agg #[.int .u64 (hi (farZ px py a d a d)), .int .u64 (lo (farZ px py a d a d))], .int .i64 0]), (9, .pointer (some ⟨s_, 0, none⟩)), (73, .tuple #[.agg #[.int .u64 (hi (farZ px py a d a d)), .int .u64 (lo (farZ px py a d a d))], .int .i64 0]), (80, .agg #[.int .u64 (hi (farZ px py a d a d)), .int .u64 (lo (farZ px py a d a d))]), (81, .int .i64 0)]) (fun s_ w' => (Below w.heap.size w w' ∧ w'.cell? ⟨w.heap.size, 0, none⟩ = some (.int .i64 px) ∧ w'.cell? ⟨w.heap.size, 1, none⟩ = some (.int .i64 py) ∧ w'.cell? ⟨wF.heap.size, 0, none⟩ = some (.int .u64 (hi (farZ px py a b c d))) ∧ w'.cell? ⟨wF.heap.size, 1, none⟩ = some (.int .u64 (lo (farZ px py a b c d))) ∧ w'.cell? ⟨wc.heap.size, 0, none⟩ = some (.int .i64 a) ∧ w'.cell? ⟨wc.heap.size, 1, none⟩ = some (.int .i64 b) ∧ w'.cell? ⟨wc.heap.size, 2, none⟩ = some (.int .i64 a) ∧ w'.cell? ⟨wc.heap.size, 3, none⟩ = some (.int .i64 b) ∧ w'.cell? ⟨wc.heap.size, 4, none⟩ = some (.int .i64 c) ∧ w'.cell? ⟨wc.heap.size, 5, none⟩ = some (.int .i64 b) ∧ w'.cell? ⟨wc.heap.size, 6, none⟩ = some (.int .i64 c) ∧ w'.cell? ⟨wc.heap.size, 7, none⟩ = some (.int .i64 b) ∧ w'.cell? ⟨wc.heap.size, 8, none⟩ = some (.int .i64 a) ∧ w'.cell? ⟨wc.heap.size, 9, none⟩ = some (.int .i64 d) ∧ w'.cell? ⟨wc.heap.size, 10, none⟩ = some (.int .i64 a) ∧ w'.cell? ⟨wc.heap.size, 11, none⟩ = some (.int .i64 d) ∧ w'.cell? ⟨wc.heap.size, 12, none⟩ = some (.int .i64 c) ∧ w'.cell? ⟨wc.heap.size, 13, none⟩ = some (.int .i64 d) ∧ w'.cell? ⟨wc.heap.size, 14, none⟩ = some (.int .i64 c) ∧ w'.cell? ⟨wc.heap.size, 15, none⟩ = some (.int .i64 d)) ∧ w'.heap[s_]? = some (.cells #[.int .u64 0, .int .u64 0] 25 (0, 0)) ∧ w.heap.size ≠ s_ ∧ wF.heap.size ≠ s_ ∧ wc.heap.size ≠ s_ ∧ w.heap.size ≤ s_) ?_ ?_
        rotate_left
        · intro hCont
          refine two_ (i := 5) (j := 9) (Ni := some 79) (Nj := some 9) #[true, true, true, true, true, true, false, false, false, false, false, false] #[true, true, true, true, true, false, false, false, false, true, false, false] rfl rfl rfl rfl (by kernel_rfl) (by decide) (by decide) (fun K hK => ?_) (fun K hK => ?_)
          · skip
            refine goes_ Try.func37 (by kernel_rfl) rfl #[.agg #[.int .i64 px, .int .i64 py], .agg #[.int .i64 a, .int .i64 d, .int .i64 a, .int .i64 d]] (by rfl) rfl rfl (by first | rfl | (simp only [List.map_toArray, List.map_cons, List.map_nil]; rfl)) ?_
            refine (farTo F2.out _).mono ?_
            rintro e w1 ⟨rfl, hb⟩
            refine ⟨_, rfl, ?_⟩
            refine hK.out _ _ ⟨below_then hHeld.1 hb, keeps hb hHeld.2.1, keeps hb hHeld.2.2.1, keeps hb hHeld.2.2.2.1, keeps hb hHeld.2.2.2.2.1, keeps hb hHeld.2.2.2.2.2.1, keeps hb hHeld.2.2.2.2.2.2.1, keeps hb hHeld.2.2.2.2.2.2.2.1, keeps hb hHeld.2.2.2.2.2.2.2.2.1, keeps hb hHeld.2.2.2.2.2.2.2.2.2.1, keeps hb hHeld.2.2.2.2.2.2.2.2.2.2.1, keeps hb hHeld.2.2.2.2.2.2.2.2.2.2.2.1, keeps hb hHeld.2.2.2.2.2.2.2.2.2.2.2.2.1, keeps hb hHeld.2.2.2.2.2.2.2.2.2.2.2.2.2.1, keeps hb hHeld.2.2.2.2.2.2.2.2.2.2.2.2.2.2.1, keeps hb hHeld.2.2.2.2.2.2.2.2.2.2.2.2.2.2.2.1, keeps hb hHeld.2.2.2.2.2.2.2.2.2.2.2.2.2.2.2.2.1, keeps hb hHeld.2.2.2.2.2.2.2.2.2.2.2.2.2.2.2.2.2.1, keeps hb hHeld.2.2.2.2.2.2.2.2.2.2.2.2.2.2.2.2.2.2.1, keeps hb hHeld.2.2.2.2.2.2.2.2.2.2.2.2.2.2.2.2.2.2.2.1, keeps hb hHeld.2.2.2.2.2.2.2.2.2.2.2.2.2.2.2.2.2.2.2.2⟩ (fun hHeld => ?_)
            clear hK K hb
            refine norm_ (a' := ?_) ?_ ?_
            rotate_left
            · show Act.put _ (some 79) _ = _
              simp only [Act.put, List.setIfInBounds_toArray, List.set_cons_zero, List.set_cons_succ]
              rfl
            refine pure_ (i := 6) (N := some 73) (v := ?_) (a' := ?_) #[true, true, true, true, true, true, true, false, false, false, false, false] rfl rfl (by kernel_rfl) (fun _ _ _ h => h) (Or.inl ⟨by rfl, ?_⟩) ?_ ?_
            rotate_left
            · intro w'
              go_simp
              with_reducible rfl
            rotate_left
            · simp only [Act.put, List.setIfInBounds_toArray, List.set_cons_zero, List.set_cons_succ]
              rfl
            refine pure_ (i := 7) (N := some 80) (v := ?_) (a' := ?_) #[true, true, true, true, true, true, true, true, false, false, false, false] rfl rfl (by kernel_rfl) (fun _ _ _ h => h) (Or.inl ⟨by rfl, ?_⟩) ?_ ?_
            rotate_left
            · intro w'
              go_simp
              with_reducible rfl
            rotate_left
            · simp only [Act.put, List.setIfInBounds_toArray, List.set_cons_zero, List.set_cons_succ]
              rfl
            refine pure_ (i := 8) (N := some 81) (v := ?_) (a' := ?_) #[true, true, true, true, true, true, true, true, true, false, false, false] rfl rfl (by kernel_rfl) (fun _ _ _ h => h) (Or.inl ⟨by rfl, ?_⟩) ?_ ?_
            rotate_left
            · intro w'
              go_simp
              with_reducible rfl
            rotate_left
            · simp only [Act.put, List.setIfInBounds_toArray, List.set_cons_zero, List.set_cons_succ]
              rfl
            refine one_ (i := 9) (N := some 9) #[true, true, true, true, true, true, true, true, true, true, false, false] rfl rfl (by kernel_rfl) (by decide) (fun K hK => ?_)
            refine box_step ?hg (N := 9) ?hd (cs := #[.int .u64 0, .int .u64 0]) (t := 25) ?hr ?_; (case hd => rfl); (case hg => rfl); (case hr => first | (go_simp; done) | (go_simp; rfl))
            intro g hg w2 hbox hb
            have n1 : w.heap.size ≠ g := by rw [hg]; exact Nat.ne_of_lt (World.block_lt_of_cell? _ _ (hHeld.2.1))
            have n2 : wF.heap.size ≠ g := by rw [hg]; exact Nat.ne_of_lt (World.block_lt_of_cell? _ _ (hHeld.2.2.2.1))
            have n3 : wc.heap.size ≠ g := by rw [hg]; exact Nat.ne_of_lt (World.block_lt_of_cell? _ _ (hHeld.2.2.2.2.2.1))
            have n4 : w.heap.size ≤ g := by rw [hg]; exact hHeld.1.size
            refine hK.out _ _ ⟨below_then hHeld.1 hb, keeps hb hHeld.2.1, keeps hb hHeld.2.2.1, keeps hb hHeld.2.2.2.1, keeps hb hHeld.2.2.2.2.1, keeps hb hHeld.2.2.2.2.2.1, keeps hb hHeld.2.2.2.2.2.2.1, keeps hb hHeld.2.2.2.2.2.2.2.1, keeps hb hHeld.2.2.2.2.2.2.2.2.1, keeps hb hHeld.2.2.2.2.2.2.2.2.2.1, keeps hb hHeld.2.2.2.2.2.2.2.2.2.2.1, keeps hb hHeld.2.2.2.2.2.2.2.2.2.2.2.1, keeps hb hHeld.2.2.2.2.2.2.2.2.2.2.2.2.1, keeps hb hHeld.2.2.2.2.2.2.2.2.2.2.2.2.2.1, keeps hb hHeld.2.2.2.2.2.2.2.2.2.2.2.2.2.2.1, keeps hb hHeld.2.2.2.2.2.2.2.2.2.2.2.2.2.2.2.1, keeps hb hHeld.2.2.2.2.2.2.2.2.2.2.2.2.2.2.2.2.1, keeps hb hHeld.2.2.2.2.2.2.2.2.2.2.2.2.2.2.2.2.2.1, keeps hb hHeld.2.2.2.2.2.2.2.2.2.2.2.2.2.2.2.2.2.2.1, keeps hb hHeld.2.2.2.2.2.2.2.2.2.2.2.2.2.2.2.2.2.2.2.1, keeps hb hHeld.2.2.2.2.2.2.2.2.2.2.2.2.2.2.2.2.2.2.2.2⟩ (fun hHeld => ?_)
            clear hK K hb hg
            refine norm_ (a' := ?_) ?_ ?_
            rotate_left
            · show Act.put _ (some 9) _ = _
              simp only [Act.put, List.setIfInBounds_toArray, List.set_cons_zero, List.set_cons_succ]
              rfl
            exact norm_ (by simp only [putAll, Act.put, List.setIfInBounds_toArray, List.set_cons_zero, List.set_cons_succ]) (hCont g _ ⟨hHeld, hbox, n1, n2, n3, n4⟩)
          · skip
            refine box_step ?hg (N := 9) ?hd (cs := #[.int .u64 0, .int .u64 0]) (t := 25) ?hr ?_; (case hd => rfl); (case hg => rfl); (case hr => first | (go_simp; done) | (go_simp; rfl))
            intro g hg w2 hbox hb
            have n1 : w.heap.size ≠ g := by rw [hg]; exact Nat.ne_of_lt (World.block_lt_of_cell? _ _ (hHeld.2.1))
            have n2 : wF.heap.size ≠ g := by rw [hg]; exact Nat.ne_of_lt (World.block_lt_of_cell? _ _ (hHeld.2.2.2.1))
            have n3 : wc.heap.size ≠ g := by rw [hg]; exact Nat.ne_of_lt (World.block_lt_of_cell? _ _ (hHeld.2.2.2.2.2.1))
            have n4 : w.heap.size ≤ g := by rw [hg]; exact hHeld.1.size
            refine hK.out _ _ ⟨below_then hHeld.1 hb, keeps hb hHeld.2.1, keeps hb hHeld.2.2.1, keeps hb hHeld.2.2.2.1, keeps hb hHeld.2.2.2.2.1, keeps hb hHeld.2.2.2.2.2.1, keeps hb hHeld.2.2.2.2.2.2.1, keeps hb hHeld.2.2.2.2.2.2.2.1, keeps hb hHeld.2.2.2.2.2.2.2.2.1, keeps hb hHeld.2.2.2.2.2.2.2.2.2.1, keeps hb hHeld.2.2.2.2.2.2.2.2.2.2.1, keeps hb hHeld.2.2.2.2.2.2.2.2.2.2.2.1, keeps hb hHeld.2.2.2.2.2.2.2.2.2.2.2.2.1, keeps hb hHeld.2.2.2.2.2.2.2.2.2.2.2.2.2.1, keeps hb hHeld.2.2.2.2.2.2.2.2.2.2.2.2.2.2.1, keeps hb hHeld.2.2.2.2.2.2.2.2.2.2.2.2.2.2.2.1, keeps hb hHeld.2.2.2.2.2.2.2.2.2.2.2.2.2.2.2.2.1, keeps hb hHeld.2.2.2.2.2.2.2.2.2.2.2.2.2.2.2.2.2.1, keeps hb hHeld.2.2.2.2.2.2.2.2.2.2.2.2.2.2.2.2.2.2.1, keeps hb hHeld.2.2.2.2.2.2.2.2.2.2.2.2.2.2.2.2.2.2.2.1, keeps hb hHeld.2.2.2.2.2.2.2.2.2.2.2.2.2.2.2.2.2.2.2.2⟩ (fun hHeld => ?_)
            clear hK K hb hg
            refine norm_ (a' := ?_) ?_ ?_
            rotate_left
            · show Act.put _ (some 9) _ = _
              simp only [Act.put, List.setIfInBounds_toArray, List.set_cons_zero, List.set_cons_succ]
              rfl
            refine one_ (i := 5) (N := some 79) #[true, true, true, true, true, true, false, false, false, true, false, false] rfl rfl (by kernel_rfl) (by decide) (fun K hK => ?_)
            refine goes_ Try.func37 (by kernel_rfl) rfl #[.agg #[.int .i64 px, .int .i64 py], .agg #[.int .i64 a, .int .i64 d, .int .i64 a, .int .i64 d]] (by rfl) rfl rfl (by first | rfl | (simp only [List.map_toArray, List.map_cons, List.map_nil]; rfl)) ?_
            refine (farTo F2.out _).mono ?_
            rintro e w1 ⟨rfl, hb⟩
            refine ⟨_, rfl, ?_⟩
            replace hbox := blk_below hbox hb
            refine hK.out _ _ ⟨below_then hHeld.1 hb, keeps hb hHeld.2.1, keeps hb hHeld.2.2.1, keeps hb hHeld.2.2.2.1, keeps hb hHeld.2.2.2.2.1, keeps hb hHeld.2.2.2.2.2.1, keeps hb hHeld.2.2.2.2.2.2.1, keeps hb hHeld.2.2.2.2.2.2.2.1, keeps hb hHeld.2.2.2.2.2.2.2.2.1, keeps hb hHeld.2.2.2.2.2.2.2.2.2.1, keeps hb hHeld.2.2.2.2.2.2.2.2.2.2.1, keeps hb hHeld.2.2.2.2.2.2.2.2.2.2.2.1, keeps hb hHeld.2.2.2.2.2.2.2.2.2.2.2.2.1, keeps hb hHeld.2.2.2.2.2.2.2.2.2.2.2.2.2.1, keeps hb hHeld.2.2.2.2.2.2.2.2.2.2.2.2.2.2.1, keeps hb hHeld.2.2.2.2.2.2.2.2.2.2.2.2.2.2.2.1, keeps hb hHeld.2.2.2.2.2.2.2.2.2.2.2.2.2.2.2.2.1, keeps hb hHeld.2.2.2.2.2.2.2.2.2.2.2.2.2.2.2.2.2.1, keeps hb hHeld.2.2.2.2.2.2.2.2.2.2.2.2.2.2.2.2.2.2.1, keeps hb hHeld.2.2.2.2.2.2.2.2.2.2.2.2.2.2.2.2.2.2.2.1, keeps hb hHeld.2.2.2.2.2.2.2.2.2.2.2.2.2.2.2.2.2.2.2.2⟩ (fun hHeld => ?_)
            clear hK K hb
            refine norm_ (a' := ?_) ?_ ?_
            rotate_left
            · show Act.put _ (some 79) _ = _
              simp only [Act.put, List.setIfInBounds_toArray, List.set_cons_zero, List.set_cons_succ]
              rfl
            refine pure_ (i := 6) (N := some 73) (v := ?_) (a' := ?_) #[true, true, true, true, true, true, true, false, false, true, false, false] rfl rfl (by kernel_rfl) (fun _ _ _ h => h) (Or.inl ⟨by rfl, ?_⟩) ?_ ?_
            rotate_left
            · intro w'
              go_simp
              with_reducible rfl
            rotate_left
            · simp only [Act.put, List.setIfInBounds_toArray, List.set_cons_zero, List.set_cons_succ]
              rfl
            refine pure_ (i := 7) (N := some 80) (v := ?_) (a' := ?_) #[true, true, true, true, true, true, true, true, false, true, false, false] rfl rfl (by kernel_rfl) (fun _ _ _ h => h) (Or.inl ⟨by rfl, ?_⟩) ?_ ?_
            rotate_left
            · intro w'
              go_simp
              with_reducible rfl
            rotate_left
            · simp only [Act.put, List.setIfInBounds_toArray, List.set_cons_zero, List.set_cons_succ]
              rfl
            refine pure_ (i := 8) (N := some 81) (v := ?_) (a' := ?_) #[true, true, true, true, true, true, true, true, true, true, false, false] rfl rfl (by kernel_rfl) (fun _ _ _ h => h) (Or.inl ⟨by rfl, ?_⟩) ?_ ?_
            rotate_left
            · intro w'
              go_simp
              with_reducible rfl
            rotate_left
            · simp only [Act.put, List.setIfInBounds_toArray, List.set_cons_zero, List.set_cons_succ]
              rfl
            exact norm_ (by simp only [putAll, Act.put, List.setIfInBounds_toArray, List.set_cons_zero, List.set_cons_succ]) (hCont g _ ⟨hHeld, hbox, n1, n2, n3, n4⟩)
        rintro s w3 ⟨hHeld, hbox, n1, n2, n3, n4⟩
        refine norm_ (a' := ?_) ?_ ?_
        rotate_left
        · simp only [putAll, Act.put, List.setIfInBounds_toArray, List.set_cons_zero, List.set_cons_succ]
          rfl
        refine one_ (i := 10) (N := none) #[true, true, true, true, true, true, true, true, true, true, true, false] rfl rfl (by kernel_rfl) (by decide) (fun K hK => ?_)
        have hs0 : w3.cell? ⟨s, 0, none⟩ = some (.int .u64 0) := (blk_cell hbox 0).trans rfl
        have hs1 : w3.cell? ⟨s, 1, none⟩ = some (.int .u64 0) := (blk_cell hbox 1).trans rfl
        have hf0 := blk_frozen hbox 0
        have hf1 := blk_frozen hbox 1
        refine skip_ (w1 := ?_) (by rfl) rfl ?_ ?_
        rotate_left
        · go_simp
          rfl
        have hbx := blk_put (blk_put hbox 0 (.int .u64 (hi (farZ px py a d a d))) rfl) 1 (.int .u64 (lo (farZ px py a d a d))) rfl
        refine hK.out _ _ ⟨below_set (below_set hHeld.1 n4) n4, (cell_far (p := ⟨s, _, none⟩) n1 _).trans ((cell_far (p := ⟨s, _, none⟩) n1 _).trans hHeld.2.1), (cell_far (p := ⟨s, _, none⟩) n1 _).trans ((cell_far (p := ⟨s, _, none⟩) n1 _).trans hHeld.2.2.1), (cell_far (p := ⟨s, _, none⟩) n2 _).trans ((cell_far (p := ⟨s, _, none⟩) n2 _).trans hHeld.2.2.2.1), (cell_far (p := ⟨s, _, none⟩) n2 _).trans ((cell_far (p := ⟨s, _, none⟩) n2 _).trans hHeld.2.2.2.2.1), (cell_far (p := ⟨s, _, none⟩) n3 _).trans ((cell_far (p := ⟨s, _, none⟩) n3 _).trans hHeld.2.2.2.2.2.1), (cell_far (p := ⟨s, _, none⟩) n3 _).trans ((cell_far (p := ⟨s, _, none⟩) n3 _).trans hHeld.2.2.2.2.2.2.1), (cell_far (p := ⟨s, _, none⟩) n3 _).trans ((cell_far (p := ⟨s, _, none⟩) n3 _).trans hHeld.2.2.2.2.2.2.2.1), (cell_far (p := ⟨s, _, none⟩) n3 _).trans ((cell_far (p := ⟨s, _, none⟩) n3 _).trans hHeld.2.2.2.2.2.2.2.2.1), (cell_far (p := ⟨s, _, none⟩) n3 _).trans ((cell_far (p := ⟨s, _, none⟩) n3 _).trans hHeld.2.2.2.2.2.2.2.2.2.1), (cell_far (p := ⟨s, _, none⟩) n3 _).trans ((cell_far (p := ⟨s, _, none⟩) n3 _).trans hHeld.2.2.2.2.2.2.2.2.2.2.1), (cell_far (p := ⟨s, _, none⟩) n3 _).trans ((cell_far (p := ⟨s, _, none⟩) n3 _).trans hHeld.2.2.2.2.2.2.2.2.2.2.2.1), (cell_far (p := ⟨s, _, none⟩) n3 _).trans ((cell_far (p := ⟨s, _, none⟩) n3 _).trans hHeld.2.2.2.2.2.2.2.2.2.2.2.2.1), (cell_far (p := ⟨s, _, none⟩) n3 _).trans ((cell_far (p := ⟨s, _, none⟩) n3 _).trans hHeld.2.2.2.2.2.2.2.2.2.2.2.2.2.1), (cell_far (p := ⟨s, _, none⟩) n3 _).trans ((cell_far (p := ⟨s, _, none⟩) n3 _).trans hHeld.2.2.2.2.2.2.2.2.2.2.2.2.2.2.1), (cell_far (p := ⟨s, _, none⟩) n3 _).trans ((cell_far (p := ⟨s, _, none⟩) n3 _).trans hHeld.2.2.2.2.2.2.2.2.2.2.2.2.2.2.2.1), (cell_far (p := ⟨s, _, none⟩) n3 _).trans ((cell_far (p := ⟨s, _, none⟩) n3 _).trans hHeld.2.2.2.2.2.2.2.2.2.2.2.2.2.2.2.2.1), (cell_far (p := ⟨s, _, none⟩) n3 _).trans ((cell_far (p := ⟨s, _, none⟩) n3 _).trans hHeld.2.2.2.2.2.2.2.2.2.2.2.2.2.2.2.2.2.1), (cell_far (p := ⟨s, _, none⟩) n3 _).trans ((cell_far (p := ⟨s, _, none⟩) n3 _).trans hHeld.2.2.2.2.2.2.2.2.2.2.2.2.2.2.2.2.2.2.1), (cell_far (p := ⟨s, _, none⟩) n3 _).trans ((cell_far (p := ⟨s, _, none⟩) n3 _).trans hHeld.2.2.2.2.2.2.2.2.2.2.2.2.2.2.2.2.2.2.2.1), (cell_far (p := ⟨s, _, none⟩) n3 _).trans ((cell_far (p := ⟨s, _, none⟩) n3 _).trans hHeld.2.2.2.2.2.2.2.2.2.2.2.2.2.2.2.2.2.2.2.2)⟩ (fun hHeld => ?_)
        clear hK K hs0 hs1 hf0 hf1
        generalize (w3.setCell ⟨s, 0, none⟩ (.int .u64 (hi (farZ px py a d a d)))).setCell ⟨s, 1, none⟩ (.int .u64 (lo (farZ px py a d a d))) = w4 at hHeld hbx ⊢
        have hx0 : w4.cell? ⟨s, 0, none⟩ = some (.int .u64 (hi (farZ px py a d a d))) := (blk_cell hbx 0).trans rfl
        have hx1 : w4.cell? ⟨s, 1, none⟩ = some (.int .u64 (lo (farZ px py a d a d))) := (blk_cell hbx 1).trans rfl
        refine pure_ (i := 11) (N := some 10) (v := ?_) (a' := ?_) #[true, true, true, true, true, true, true, true, true, true, true, true] rfl rfl (by kernel_rfl) (fun _ _ _ h => h) (Or.inl ⟨by rfl, ?_⟩) ?_ ?_
        rotate_left
        · intro w'
          go_simp
          with_reducible rfl
        rotate_left
        · simp only [Act.put, List.setIfInBounds_toArray, List.set_cons_zero, List.set_cons_succ]
          rfl
        refine done_ (by kernel_rfl) ?_
        clear hbox hbx
        obtain ⟨hB, k0, k1, k2, k3, k4, k5, k6, k7, k8, k9, k10, k11, k12, k13, k14, k15, k16, k17, k18, k19⟩ := hHeld
        go_wp2_with (first | (go_at_call 30; refine (num_any _ _).mono ?_; rintro e w' ⟨rfl, rfl⟩) | (go_at_call 28; refine (rCmpTo HL.out.2.2.1 _).mono ?_; rintro e w2 ⟨s, hs, rfl, hb2⟩))
        go_roundw
        case rel => exact ⟨3, Or.inr (Or.inr (Or.inr (Or.inl rfl))), rfl, below_then (by assumption) hb2, keeps hb2 k0, keeps hb2 k1, keeps hb2 k2, keeps hb2 k3, keeps hb2 k4, keeps hb2 k5, keeps hb2 k6, keeps hb2 k7, keeps hb2 k8, keeps hb2 k9, keeps hb2 k10, keeps hb2 k11, keeps hb2 k12, keeps hb2 k13, keeps hb2 k14, keeps hb2 k15, keeps hb2 k16, keeps hb2 k17, keeps hb2 k18, keeps hb2 k19⟩
        case measure => simp [intOf]
      · go_wp2_with fail
        refine start_ (n := 12) (S := fun w' => Below w.heap.size w w' ∧ w'.cell? ⟨w.heap.size, 0, none⟩ = some (.int .i64 px) ∧ w'.cell? ⟨w.heap.size, 1, none⟩ = some (.int .i64 py) ∧ w'.cell? ⟨wF.heap.size, 0, none⟩ = some (.int .u64 (hi (farZ px py a b c d))) ∧ w'.cell? ⟨wF.heap.size, 1, none⟩ = some (.int .u64 (lo (farZ px py a b c d))) ∧ w'.cell? ⟨wc.heap.size, 0, none⟩ = some (.int .i64 a) ∧ w'.cell? ⟨wc.heap.size, 1, none⟩ = some (.int .i64 b) ∧ w'.cell? ⟨wc.heap.size, 2, none⟩ = some (.int .i64 a) ∧ w'.cell? ⟨wc.heap.size, 3, none⟩ = some (.int .i64 b) ∧ w'.cell? ⟨wc.heap.size, 4, none⟩ = some (.int .i64 c) ∧ w'.cell? ⟨wc.heap.size, 5, none⟩ = some (.int .i64 b) ∧ w'.cell? ⟨wc.heap.size, 6, none⟩ = some (.int .i64 c) ∧ w'.cell? ⟨wc.heap.size, 7, none⟩ = some (.int .i64 b) ∧ w'.cell? ⟨wc.heap.size, 8, none⟩ = some (.int .i64 a) ∧ w'.cell? ⟨wc.heap.size, 9, none⟩ = some (.int .i64 d) ∧ w'.cell? ⟨wc.heap.size, 10, none⟩ = some (.int .i64 a) ∧ w'.cell? ⟨wc.heap.size, 11, none⟩ = some (.int .i64 d) ∧ w'.cell? ⟨wc.heap.size, 12, none⟩ = some (.int .i64 c) ∧ w'.cell? ⟨wc.heap.size, 13, none⟩ = some (.int .i64 d) ∧ w'.cell? ⟨wc.heap.size, 14, none⟩ = some (.int .i64 c) ∧ w'.cell? ⟨wc.heap.size, 15, none⟩ = some (.int .i64 d)) (ds := []) #[false, false, false, false, false, false, false, false, false, false, false, false] (by kernel_rfl) rfl rfl ⟨Below.drew hB, k0, k1, k2, k3, k4, k5, k6, k7, k8, k9, k10, k11, k12, k13, k14, k15, k16, k17, k18, k19⟩ (fun hHeld => ?_)
        clear hB k0 k1 k2 k3 k4 k5 k6 k7 k8 k9 k10 k11 k12 k13 k14 k15 k16 k17 k18 k19
        generalize wr.drew = w0 at hHeld ⊢
        refine pure_ (i := 1) (N := some 75) (v := ?_) (a' := ?_) #[false, true, false, false, false, false, false, false, false, false, false, false] rfl rfl (by kernel_rfl) (fun _ _ _ h => h) (Or.inl ⟨by rfl, ?_⟩) ?_ ?_
        rotate_left
        · intro w'
          go_simp
          with_reducible rfl
        rotate_left
        · simp only [Act.put, List.setIfInBounds_toArray, List.set_cons_zero, List.set_cons_succ]
          rfl
        refine pure_ (i := 2) (N := some 76) (v := ?_) (a' := ?_) #[false, true, true, false, false, false, false, false, false, false, false, false] rfl rfl (by kernel_rfl) (fun _ _ _ h => h) (Or.inl ⟨by rfl, ?_⟩) ?_ ?_
        rotate_left
        · intro w'
          go_simp
          with_reducible rfl
        rotate_left
        · simp only [Act.put, List.setIfInBounds_toArray, List.set_cons_zero, List.set_cons_succ]
          rfl
        refine pure_ (i := 3) (N := some 77) (v := ?_) (a' := ?_) #[false, true, true, true, false, false, false, false, false, false, false, false] rfl rfl (by kernel_rfl) (fun _ _ _ h => h) (Or.inl ⟨by rfl, ?_⟩) ?_ ?_
        rotate_left
        · intro w'
          go_simp
          with_reducible rfl
        rotate_left
        · simp only [Act.put, List.setIfInBounds_toArray, List.set_cons_zero, List.set_cons_succ]
          rfl
        refine take_ (i := 0) (N := some 74) (v := ?_) (a' := ?_) #[true, true, true, true, false, false, false, false, false, false, false, false] rfl rfl (by kernel_rfl) (fun _ _ _ h => h) (Or.inl ⟨by rfl, ?_⟩) hHeld ?_ ?_
        rotate_left
        · intro w' hS'
          (try dsimp only at hS')
          go_split_ands
          go_simp
          with_reducible rfl
        rotate_left
        · simp only [Act.put, List.setIfInBounds_toArray, List.set_cons_zero, List.set_cons_succ]
          rfl
        refine take_ (i := 4) (N := some 78) (v := ?_) (a' := ?_) #[true, true, true, true, true, false, false, false, false, false, false, false] rfl rfl (by kernel_rfl) (fun _ _ _ h => h) (Or.inl ⟨by rfl, ?_⟩) hHeld ?_ ?_
        rotate_left
        · intro w' hS'
          (try dsimp only at hS')
          go_split_ands
          go_simp
          with_reducible rfl
        rotate_left
        · simp only [Act.put, List.setIfInBounds_toArray, List.set_cons_zero, List.set_cons_succ]
          rfl
        refine join_ (σ := Nat) 2 #[true, true, true, true, true, true, true, true, true, true, false, false] (fun s_ => [(79, .tuple #[.agg #[.int .u64 (hi (farZ px py c d c d)), .int .u64 (lo (farZ px py c d c d))], .int .i64 0]), (9, .pointer (some ⟨s_, 0, none⟩)), (73, .tuple #[.agg #[.int .u64 (hi (farZ px py c d c d)), .int .u64 (lo (farZ px py c d c d))], .int .i64 0]), (80, .agg #[.int .u64 (hi (farZ px py c d c d)), .int .u64 (lo (farZ px py c d c d))]), (81, .int .i64 0)]) (fun s_ w' => (Below w.heap.size w w' ∧ w'.cell? ⟨w.heap.size, 0, none⟩ = some (.int .i64 px) ∧ w'.cell? ⟨w.heap.size, 1, none⟩ = some (.int .i64 py) ∧ w'.cell? ⟨wF.heap.size, 0, none⟩ = some (.int .u64 (hi (farZ px py a b c d))) ∧ w'.cell? ⟨wF.heap.size, 1, none⟩ = some (.int .u64 (lo (farZ px py a b c d))) ∧ w'.cell? ⟨wc.heap.size, 0, none⟩ = some (.int .i64 a) ∧ w'.cell? ⟨wc.heap.size, 1, none⟩ = some (.int .i64 b) ∧ w'.cell? ⟨wc.heap.size, 2, none⟩ = some (.int .i64 a) ∧ w'.cell? ⟨wc.heap.size, 3, none⟩ = some (.int .i64 b) ∧ w'.cell? ⟨wc.heap.size, 4, none⟩ = some (.int .i64 c) ∧ w'.cell? ⟨wc.heap.size, 5, none⟩ = some (.int .i64 b) ∧ w'.cell? ⟨wc.heap.size, 6, none⟩ = some (.int .i64 c) ∧ w'.cell? ⟨wc.heap.size, 7, none⟩ = some (.int .i64 b) ∧ w'.cell? ⟨wc.heap.size, 8, none⟩ = some (.int .i64 a) ∧ w'.cell? ⟨wc.heap.size, 9, none⟩ = some (.int .i64 d) ∧ w'.cell? ⟨wc.heap.size, 10, none⟩ = some (.int .i64 a) ∧ w'.cell? ⟨wc.heap.size, 11, none⟩ = some (.int .i64 d) ∧ w'.cell? ⟨wc.heap.size, 12, none⟩ = some (.int .i64 c) ∧ w'.cell? ⟨wc.heap.size, 13, none⟩ = some (.int .i64 d) ∧ w'.cell? ⟨wc.heap.size, 14, none⟩ = some (.int .i64 c) ∧ w'.cell? ⟨wc.heap.size, 15, none⟩ = some (.int .i64 d)) ∧ w'.heap[s_]? = some (.cells #[.int .u64 0, .int .u64 0] 25 (0, 0)) ∧ w.heap.size ≠ s_ ∧ wF.heap.size ≠ s_ ∧ wc.heap.size ≠ s_ ∧ w.heap.size ≤ s_) ?_ ?_
        rotate_left
        · intro hCont
          refine two_ (i := 5) (j := 9) (Ni := some 79) (Nj := some 9) #[true, true, true, true, true, true, false, false, false, false, false, false] #[true, true, true, true, true, false, false, false, false, true, false, false] rfl rfl rfl rfl (by kernel_rfl) (by decide) (by decide) (fun K hK => ?_) (fun K hK => ?_)
          · skip
            refine goes_ Try.func37 (by kernel_rfl) rfl #[.agg #[.int .i64 px, .int .i64 py], .agg #[.int .i64 c, .int .i64 d, .int .i64 c, .int .i64 d]] (by rfl) rfl rfl (by first | rfl | (simp only [List.map_toArray, List.map_cons, List.map_nil]; rfl)) ?_
            refine (farTo F3.out _).mono ?_
            rintro e w1 ⟨rfl, hb⟩
            refine ⟨_, rfl, ?_⟩
            refine hK.out _ _ ⟨below_then hHeld.1 hb, keeps hb hHeld.2.1, keeps hb hHeld.2.2.1, keeps hb hHeld.2.2.2.1, keeps hb hHeld.2.2.2.2.1, keeps hb hHeld.2.2.2.2.2.1, keeps hb hHeld.2.2.2.2.2.2.1, keeps hb hHeld.2.2.2.2.2.2.2.1, keeps hb hHeld.2.2.2.2.2.2.2.2.1, keeps hb hHeld.2.2.2.2.2.2.2.2.2.1, keeps hb hHeld.2.2.2.2.2.2.2.2.2.2.1, keeps hb hHeld.2.2.2.2.2.2.2.2.2.2.2.1, keeps hb hHeld.2.2.2.2.2.2.2.2.2.2.2.2.1, keeps hb hHeld.2.2.2.2.2.2.2.2.2.2.2.2.2.1, keeps hb hHeld.2.2.2.2.2.2.2.2.2.2.2.2.2.2.1, keeps hb hHeld.2.2.2.2.2.2.2.2.2.2.2.2.2.2.2.1, keeps hb hHeld.2.2.2.2.2.2.2.2.2.2.2.2.2.2.2.2.1, keeps hb hHeld.2.2.2.2.2.2.2.2.2.2.2.2.2.2.2.2.2.1, keeps hb hHeld.2.2.2.2.2.2.2.2.2.2.2.2.2.2.2.2.2.2.1, keeps hb hHeld.2.2.2.2.2.2.2.2.2.2.2.2.2.2.2.2.2.2.2.1, keeps hb hHeld.2.2.2.2.2.2.2.2.2.2.2.2.2.2.2.2.2.2.2.2⟩ (fun hHeld => ?_)
            clear hK K hb
            refine norm_ (a' := ?_) ?_ ?_
            rotate_left
            · show Act.put _ (some 79) _ = _
              simp only [Act.put, List.setIfInBounds_toArray, List.set_cons_zero, List.set_cons_succ]
              rfl
            refine pure_ (i := 6) (N := some 73) (v := ?_) (a' := ?_) #[true, true, true, true, true, true, true, false, false, false, false, false] rfl rfl (by kernel_rfl) (fun _ _ _ h => h) (Or.inl ⟨by rfl, ?_⟩) ?_ ?_
            rotate_left
            · intro w'
              go_simp
              with_reducible rfl
            rotate_left
            · simp only [Act.put, List.setIfInBounds_toArray, List.set_cons_zero, List.set_cons_succ]
              rfl
            refine pure_ (i := 7) (N := some 80) (v := ?_) (a' := ?_) #[true, true, true, true, true, true, true, true, false, false, false, false] rfl rfl (by kernel_rfl) (fun _ _ _ h => h) (Or.inl ⟨by rfl, ?_⟩) ?_ ?_
            rotate_left
            · intro w'
              go_simp
              with_reducible rfl
            rotate_left
            · simp only [Act.put, List.setIfInBounds_toArray, List.set_cons_zero, List.set_cons_succ]
              rfl
            refine pure_ (i := 8) (N := some 81) (v := ?_) (a' := ?_) #[true, true, true, true, true, true, true, true, true, false, false, false] rfl rfl (by kernel_rfl) (fun _ _ _ h => h) (Or.inl ⟨by rfl, ?_⟩) ?_ ?_
            rotate_left
            · intro w'
              go_simp
              with_reducible rfl
            rotate_left
            · simp only [Act.put, List.setIfInBounds_toArray, List.set_cons_zero, List.set_cons_succ]
              rfl
            refine one_ (i := 9) (N := some 9) #[true, true, true, true, true, true, true, true, true, true, false, false] rfl rfl (by kernel_rfl) (by decide) (fun K hK => ?_)
            refine box_step ?hg (N := 9) ?hd (cs := #[.int .u64 0, .int .u64 0]) (t := 25) ?hr ?_; (case hd => rfl); (case hg => rfl); (case hr => first | (go_simp; done) | (go_simp; rfl))
            intro g hg w2 hbox hb
            have n1 : w.heap.size ≠ g := by rw [hg]; exact Nat.ne_of_lt (World.block_lt_of_cell? _ _ (hHeld.2.1))
            have n2 : wF.heap.size ≠ g := by rw [hg]; exact Nat.ne_of_lt (World.block_lt_of_cell? _ _ (hHeld.2.2.2.1))
            have n3 : wc.heap.size ≠ g := by rw [hg]; exact Nat.ne_of_lt (World.block_lt_of_cell? _ _ (hHeld.2.2.2.2.2.1))
            have n4 : w.heap.size ≤ g := by rw [hg]; exact hHeld.1.size
            refine hK.out _ _ ⟨below_then hHeld.1 hb, keeps hb hHeld.2.1, keeps hb hHeld.2.2.1, keeps hb hHeld.2.2.2.1, keeps hb hHeld.2.2.2.2.1, keeps hb hHeld.2.2.2.2.2.1, keeps hb hHeld.2.2.2.2.2.2.1, keeps hb hHeld.2.2.2.2.2.2.2.1, keeps hb hHeld.2.2.2.2.2.2.2.2.1, keeps hb hHeld.2.2.2.2.2.2.2.2.2.1, keeps hb hHeld.2.2.2.2.2.2.2.2.2.2.1, keeps hb hHeld.2.2.2.2.2.2.2.2.2.2.2.1, keeps hb hHeld.2.2.2.2.2.2.2.2.2.2.2.2.1, keeps hb hHeld.2.2.2.2.2.2.2.2.2.2.2.2.2.1, keeps hb hHeld.2.2.2.2.2.2.2.2.2.2.2.2.2.2.1, keeps hb hHeld.2.2.2.2.2.2.2.2.2.2.2.2.2.2.2.1, keeps hb hHeld.2.2.2.2.2.2.2.2.2.2.2.2.2.2.2.2.1, keeps hb hHeld.2.2.2.2.2.2.2.2.2.2.2.2.2.2.2.2.2.1, keeps hb hHeld.2.2.2.2.2.2.2.2.2.2.2.2.2.2.2.2.2.2.1, keeps hb hHeld.2.2.2.2.2.2.2.2.2.2.2.2.2.2.2.2.2.2.2.1, keeps hb hHeld.2.2.2.2.2.2.2.2.2.2.2.2.2.2.2.2.2.2.2.2⟩ (fun hHeld => ?_)
            clear hK K hb hg
            refine norm_ (a' := ?_) ?_ ?_
            rotate_left
            · show Act.put _ (some 9) _ = _
              simp only [Act.put, List.setIfInBounds_toArray, List.set_cons_zero, List.set_cons_succ]
              rfl
            exact norm_ (by simp only [putAll, Act.put, List.setIfInBounds_toArray, List.set_cons_zero, List.set_cons_succ]) (hCont g _ ⟨hHeld, hbox, n1, n2, n3, n4⟩)
          · skip
            refine box_step ?hg (N := 9) ?hd (cs := #[.int .u64 0, .int .u64 0]) (t := 25) ?hr ?_; (case hd => rfl); (case hg => rfl); (case hr => first | (go_simp; done) | (go_simp; rfl))
            intro g hg w2 hbox hb
            have n1 : w.heap.size ≠ g := by rw [hg]; exact Nat.ne_of_lt (World.block_lt_of_cell? _ _ (hHeld.2.1))
            have n2 : wF.heap.size ≠ g := by rw [hg]; exact Nat.ne_of_lt (World.block_lt_of_cell? _ _ (hHeld.2.2.2.1))
            have n3 : wc.heap.size ≠ g := by rw [hg]; exact Nat.ne_of_lt (World.block_lt_of_cell? _ _ (hHeld.2.2.2.2.2.1))
            have n4 : w.heap.size ≤ g := by rw [hg]; exact hHeld.1.size
            refine hK.out _ _ ⟨below_then hHeld.1 hb, keeps hb hHeld.2.1, keeps hb hHeld.2.2.1, keeps hb hHeld.2.2.2.1, keeps hb hHeld.2.2.2.2.1, keeps hb hHeld.2.2.2.2.2.1, keeps hb hHeld.2.2.2.2.2.2.1, keeps hb hHeld.2.2.2.2.2.2.2.1, keeps hb hHeld.2.2.2.2.2.2.2.2.1, keeps hb hHeld.2.2.2.2.2.2.2.2.2.1, keeps hb hHeld.2.2.2.2.2.2.2.2.2.2.1, keeps hb hHeld.2.2.2.2.2.2.2.2.2.2.2.1, keeps hb hHeld.2.2.2.2.2.2.2.2.2.2.2.2.1, keeps hb hHeld.2.2.2.2.2.2.2.2.2.2.2.2.2.1, keeps hb hHeld.2.2.2.2.2.2.2.2.2.2.2.2.2.2.1, keeps hb hHeld.2.2.2.2.2.2.2.2.2.2.2.2.2.2.2.1, keeps hb hHeld.2.2.2.2.2.2.2.2.2.2.2.2.2.2.2.2.1, keeps hb hHeld.2.2.2.2.2.2.2.2.2.2.2.2.2.2.2.2.2.1, keeps hb hHeld.2.2.2.2.2.2.2.2.2.2.2.2.2.2.2.2.2.2.1, keeps hb hHeld.2.2.2.2.2.2.2.2.2.2.2.2.2.2.2.2.2.2.2.1, keeps hb hHeld.2.2.2.2.2.2.2.2.2.2.2.2.2.2.2.2.2.2.2.2⟩ (fun hHeld => ?_)
            clear hK K hb hg
            refine norm_ (a' := ?_) ?_ ?_
            rotate_left
            · show Act.put _ (some 9) _ = _
              simp only [Act.put, List.setIfInBounds_toArray, List.set_cons_zero, List.set_cons_succ]
              rfl
            refine one_ (i := 5) (N := some 79) #[true, true, true, true, true, true, false, false, false, true, false, false] rfl rfl (by kernel_rfl) (by decide) (fun K hK => ?_)
            refine goes_ Try.func37 (by kernel_rfl) rfl #[.agg #[.int .i64 px, .int .i64 py], .agg #[.int .i64 c, .int .i64 d, .int .i64 c, .int .i64 d]] (by rfl) rfl rfl (by first | rfl | (simp only [List.map_toArray, List.map_cons, List.map_nil]; rfl)) ?_
            refine (farTo F3.out _).mono ?_
            rintro e w1 ⟨rfl, hb⟩
            refine ⟨_, rfl, ?_⟩
            replace hbox := blk_below hbox hb
            refine hK.out _ _ ⟨below_then hHeld.1 hb, keeps hb hHeld.2.1, keeps hb hHeld.2.2.1, keeps hb hHeld.2.2.2.1, keeps hb hHeld.2.2.2.2.1, keeps hb hHeld.2.2.2.2.2.1, keeps hb hHeld.2.2.2.2.2.2.1, keeps hb hHeld.2.2.2.2.2.2.2.1, keeps hb hHeld.2.2.2.2.2.2.2.2.1, keeps hb hHeld.2.2.2.2.2.2.2.2.2.1, keeps hb hHeld.2.2.2.2.2.2.2.2.2.2.1, keeps hb hHeld.2.2.2.2.2.2.2.2.2.2.2.1, keeps hb hHeld.2.2.2.2.2.2.2.2.2.2.2.2.1, keeps hb hHeld.2.2.2.2.2.2.2.2.2.2.2.2.2.1, keeps hb hHeld.2.2.2.2.2.2.2.2.2.2.2.2.2.2.1, keeps hb hHeld.2.2.2.2.2.2.2.2.2.2.2.2.2.2.2.1, keeps hb hHeld.2.2.2.2.2.2.2.2.2.2.2.2.2.2.2.2.1, keeps hb hHeld.2.2.2.2.2.2.2.2.2.2.2.2.2.2.2.2.2.1, keeps hb hHeld.2.2.2.2.2.2.2.2.2.2.2.2.2.2.2.2.2.2.1, keeps hb hHeld.2.2.2.2.2.2.2.2.2.2.2.2.2.2.2.2.2.2.2.1, keeps hb hHeld.2.2.2.2.2.2.2.2.2.2.2.2.2.2.2.2.2.2.2.2⟩ (fun hHeld => ?_)
            clear hK K hb
            refine norm_ (a' := ?_) ?_ ?_
            rotate_left
            · show Act.put _ (some 79) _ = _
              simp only [Act.put, List.setIfInBounds_toArray, List.set_cons_zero, List.set_cons_succ]
              rfl
            refine pure_ (i := 6) (N := some 73) (v := ?_) (a' := ?_) #[true, true, true, true, true, true, true, false, false, true, false, false] rfl rfl (by kernel_rfl) (fun _ _ _ h => h) (Or.inl ⟨by rfl, ?_⟩) ?_ ?_
            rotate_left
            · intro w'
              go_simp
              with_reducible rfl
            rotate_left
            · simp only [Act.put, List.setIfInBounds_toArray, List.set_cons_zero, List.set_cons_succ]
              rfl
            refine pure_ (i := 7) (N := some 80) (v := ?_) (a' := ?_) #[true, true, true, true, true, true, true, true, false, true, false, false] rfl rfl (by kernel_rfl) (fun _ _ _ h => h) (Or.inl ⟨by rfl, ?_⟩) ?_ ?_
            rotate_left
            · intro w'
              go_simp
              with_reducible rfl
            rotate_left
            · simp only [Act.put, List.setIfInBounds_toArray, List.set_cons_zero, List.set_cons_succ]
              rfl
            refine pure_ (i := 8) (N := some 81) (v := ?_) (a' := ?_) #[true, true, true, true, true, true, true, true, true, true, false, false] rfl rfl (by kernel_rfl) (fun _ _ _ h => h) (Or.inl ⟨by rfl, ?_⟩) ?_ ?_
            rotate_left
            · intro w'
              go_simp
              with_reducible rfl
            rotate_left
            · simp only [Act.put, List.setIfInBounds_toArray, List.set_cons_zero, List.set_cons_succ]
              rfl
            exact norm_ (by simp only [putAll, Act.put, List.setIfInBounds_toArray, List.set_cons_zero, List.set_cons_succ]) (hCont g _ ⟨hHeld, hbox, n1, n2, n3, n4⟩)
        rintro s w3 ⟨hHeld, hbox, n1, n2, n3, n4⟩
        refine norm_ (a' := ?_) ?_ ?_
        rotate_left
        · simp only [putAll, Act.put, List.setIfInBounds_toArray, List.set_cons_zero, List.set_cons_succ]
          rfl
        refine one_ (i := 10) (N := none) #[true, true, true, true, true, true, true, true, true, true, true, false] rfl rfl (by kernel_rfl) (by decide) (fun K hK => ?_)
        have hs0 : w3.cell? ⟨s, 0, none⟩ = some (.int .u64 0) := (blk_cell hbox 0).trans rfl
        have hs1 : w3.cell? ⟨s, 1, none⟩ = some (.int .u64 0) := (blk_cell hbox 1).trans rfl
        have hf0 := blk_frozen hbox 0
        have hf1 := blk_frozen hbox 1
        refine skip_ (w1 := ?_) (by rfl) rfl ?_ ?_
        rotate_left
        · go_simp
          rfl
        have hbx := blk_put (blk_put hbox 0 (.int .u64 (hi (farZ px py c d c d))) rfl) 1 (.int .u64 (lo (farZ px py c d c d))) rfl
        refine hK.out _ _ ⟨below_set (below_set hHeld.1 n4) n4, (cell_far (p := ⟨s, _, none⟩) n1 _).trans ((cell_far (p := ⟨s, _, none⟩) n1 _).trans hHeld.2.1), (cell_far (p := ⟨s, _, none⟩) n1 _).trans ((cell_far (p := ⟨s, _, none⟩) n1 _).trans hHeld.2.2.1), (cell_far (p := ⟨s, _, none⟩) n2 _).trans ((cell_far (p := ⟨s, _, none⟩) n2 _).trans hHeld.2.2.2.1), (cell_far (p := ⟨s, _, none⟩) n2 _).trans ((cell_far (p := ⟨s, _, none⟩) n2 _).trans hHeld.2.2.2.2.1), (cell_far (p := ⟨s, _, none⟩) n3 _).trans ((cell_far (p := ⟨s, _, none⟩) n3 _).trans hHeld.2.2.2.2.2.1), (cell_far (p := ⟨s, _, none⟩) n3 _).trans ((cell_far (p := ⟨s, _, none⟩) n3 _).trans hHeld.2.2.2.2.2.2.1), (cell_far (p := ⟨s, _, none⟩) n3 _).trans ((cell_far (p := ⟨s, _, none⟩) n3 _).trans hHeld.2.2.2.2.2.2.2.1), (cell_far (p := ⟨s, _, none⟩) n3 _).trans ((cell_far (p := ⟨s, _, none⟩) n3 _).trans hHeld.2.2.2.2.2.2.2.2.1), (cell_far (p := ⟨s, _, none⟩) n3 _).trans ((cell_far (p := ⟨s, _, none⟩) n3 _).trans hHeld.2.2.2.2.2.2.2.2.2.1), (cell_far (p := ⟨s, _, none⟩) n3 _).trans ((cell_far (p := ⟨s, _, none⟩) n3 _).trans hHeld.2.2.2.2.2.2.2.2.2.2.1), (cell_far (p := ⟨s, _, none⟩) n3 _).trans ((cell_far (p := ⟨s, _, none⟩) n3 _).trans hHeld.2.2.2.2.2.2.2.2.2.2.2.1), (cell_far (p := ⟨s, _, none⟩) n3 _).trans ((cell_far (p := ⟨s, _, none⟩) n3 _).trans hHeld.2.2.2.2.2.2.2.2.2.2.2.2.1), (cell_far (p := ⟨s, _, none⟩) n3 _).trans ((cell_far (p := ⟨s, _, none⟩) n3 _).trans hHeld.2.2.2.2.2.2.2.2.2.2.2.2.2.1), (cell_far (p := ⟨s, _, none⟩) n3 _).trans ((cell_far (p := ⟨s, _, none⟩) n3 _).trans hHeld.2.2.2.2.2.2.2.2.2.2.2.2.2.2.1), (cell_far (p := ⟨s, _, none⟩) n3 _).trans ((cell_far (p := ⟨s, _, none⟩) n3 _).trans hHeld.2.2.2.2.2.2.2.2.2.2.2.2.2.2.2.1), (cell_far (p := ⟨s, _, none⟩) n3 _).trans ((cell_far (p := ⟨s, _, none⟩) n3 _).trans hHeld.2.2.2.2.2.2.2.2.2.2.2.2.2.2.2.2.1), (cell_far (p := ⟨s, _, none⟩) n3 _).trans ((cell_far (p := ⟨s, _, none⟩) n3 _).trans hHeld.2.2.2.2.2.2.2.2.2.2.2.2.2.2.2.2.2.1), (cell_far (p := ⟨s, _, none⟩) n3 _).trans ((cell_far (p := ⟨s, _, none⟩) n3 _).trans hHeld.2.2.2.2.2.2.2.2.2.2.2.2.2.2.2.2.2.2.1), (cell_far (p := ⟨s, _, none⟩) n3 _).trans ((cell_far (p := ⟨s, _, none⟩) n3 _).trans hHeld.2.2.2.2.2.2.2.2.2.2.2.2.2.2.2.2.2.2.2.1), (cell_far (p := ⟨s, _, none⟩) n3 _).trans ((cell_far (p := ⟨s, _, none⟩) n3 _).trans hHeld.2.2.2.2.2.2.2.2.2.2.2.2.2.2.2.2.2.2.2.2)⟩ (fun hHeld => ?_)
        clear hK K hs0 hs1 hf0 hf1
        generalize (w3.setCell ⟨s, 0, none⟩ (.int .u64 (hi (farZ px py c d c d)))).setCell ⟨s, 1, none⟩ (.int .u64 (lo (farZ px py c d c d))) = w4 at hHeld hbx ⊢
        have hx0 : w4.cell? ⟨s, 0, none⟩ = some (.int .u64 (hi (farZ px py c d c d))) := (blk_cell hbx 0).trans rfl
        have hx1 : w4.cell? ⟨s, 1, none⟩ = some (.int .u64 (lo (farZ px py c d c d))) := (blk_cell hbx 1).trans rfl
        refine pure_ (i := 11) (N := some 10) (v := ?_) (a' := ?_) #[true, true, true, true, true, true, true, true, true, true, true, true] rfl rfl (by kernel_rfl) (fun _ _ _ h => h) (Or.inl ⟨by rfl, ?_⟩) ?_ ?_
        rotate_left
        · intro w'
          go_simp
          with_reducible rfl
        rotate_left
        · simp only [Act.put, List.setIfInBounds_toArray, List.set_cons_zero, List.set_cons_succ]
          rfl
        refine done_ (by kernel_rfl) ?_
        clear hbox hbx
        obtain ⟨hB, k0, k1, k2, k3, k4, k5, k6, k7, k8, k9, k10, k11, k12, k13, k14, k15, k16, k17, k18, k19⟩ := hHeld
        go_wp2_with (first | (go_at_call 30; refine (num_any _ _).mono ?_; rintro e w' ⟨rfl, rfl⟩) | (go_at_call 28; refine (rCmpTo HL.out.2.2.2 _).mono ?_; rintro e w2 ⟨s, hs, rfl, hb2⟩))
        go_roundw
        case rel => exact ⟨4, Or.inr (Or.inr (Or.inr (Or.inr rfl))), rfl, below_then (by assumption) hb2, keeps hb2 k0, keeps hb2 k1, keeps hb2 k2, keeps hb2 k3, keeps hb2 k4, keeps hb2 k5, keeps hb2 k6, keeps hb2 k7, keeps hb2 k8, keeps hb2 k9, keeps hb2 k10, keeps hb2 k11, keeps hb2 k12, keeps hb2 k13, keeps hb2 k14, keeps hb2 k15, keeps hb2 k16, keeps hb2 k17, keeps hb2 k18, keeps hb2 k19⟩
        case measure => simp [intOf]
      · go_wp2
        go_ret
        exact ⟨rfl, by assumption⟩
theorem fars_any (px py a b c d : Int) (w : World) :
    Calls Try.prog 11 #[.agg #[.int .i64 px, .int .i64 py], .agg #[.int .i64 a, .int .i64 b, .int .i64 c, .int .i64 d]] w fun e w' => e = .returned (.bool true) ∧ Below w.heap.size w w' := by
  cases h : farIs px py a b c d with
  | false => exact fars_no px py a b c d w h
  | true => exact fars_yes px py a b c d w h
end Go.Proofs.Ytkpmmbcbegpdpaa.GW
