/- What furlonglaw4.ShapeLines answers: yes. -/
import Derived.Test.YtmednnpmkhgfpaaShAw
import Derived.Test.YtmednnpmkhgfpaaMaskL
namespace Go.Proofs.Ytmednnpmkhgfpaa.SH
open Go Go.RowKit Go.Proofs.YtmednnpmkhgfpaaW.PrintWords Go.Proofs.YtmednnpmkhgfpaaW.PrintLast Go.Proofs.YtmednnpmkhgfpaaW.PrintMore Go.Proofs.Ytmednnpmkhgfpaa.PShapes Go.Proofs.Ytmednnpmkhgfpaa.Geo
set_option linter.unusedVariables false
set_option linter.unusedSimpArgs false
attribute [local go_sem high] eqA23 eqA30

theorem rc_one {W : World} {s : Nat} {A : Option Addr} {n c : Nat} {ps : List S23} (h : W.heap[s]? = some (.cells #[.slice A n c] 31 (0, 0))) (hn : n = ps.length) (hc : n ≤ c) (hp : PC W A ps) : RC W (some ⟨s, 0, none⟩) [ps] := by
  refine ⟨rfl, by show (1 : Nat) ≤ _; omega, fun _ => ⟨⟨s, 0, none⟩, rfl, fun j p hp' => ?_⟩⟩
  have hj : j = 0 := by have := (List.getElem?_eq_some_iff.1 hp').1; simp at this; exact this
  subst hj
  cases hp'
  subst hn
  refine ⟨[.slice A ps.length c], rfl, ⟨A, c, rfl, hc, hp⟩, fun i u hu => ?_⟩
  have hi : i = 0 := by have := (List.getElem?_eq_some_iff.1 hu).1; simp at this; exact this
  subst hi
  cases hu
  exact (blk_cell h 0).trans rfl
theorem mul_bd {z u : Int} (hz : -1 ≤ z) (hz' : z ≤ 11) (hu : 1 ≤ u) (hu' : u ≤ 8) : -8 ≤ z * u ∧ z * u ≤ 88 := by
  have h1 : 0 ≤ (z + 1) * u := Int.mul_nonneg (by omega) (by omega)
  have h2 : (z + 1) * u ≤ 12 * u := Int.mul_le_mul_of_nonneg_right (by omega) (by omega)
  have e : (z + 1) * u = z * u + u := by rw [Int.add_mul, Int.one_mul]
  have h3 : 0 ≤ (11 - z) * u := Int.mul_nonneg (by omega) (by omega)
  have e3 : (11 - z) * u = 11 * u - z * u := by rw [Int.sub_mul]
  omega
theorem mul_le_iff {z m u : Int} (hu : 1 ≤ u) : (z * u ≤ m * u ↔ z ≤ m) ∧ (0 ≤ z * u ↔ 0 ≤ z) := by
  refine ⟨⟨fun h => Int.le_of_mul_le_mul_right h (by omega), fun h => Int.mul_le_mul_of_nonneg_right h (by omega)⟩, ⟨fun h => ?_, fun h => Int.mul_nonneg h (by omega)⟩⟩
  refine Int.not_lt.1 fun hz => ?_
  have := Int.mul_neg_of_neg_of_pos hz (show 0 < u by omega)
  omega
theorem line_on {ax ay u v m z : Int} (hu : 1 ≤ u) (hv : 1 ≤ v) (hm : 0 < m) (ha : ptB ax ay = true) (hb : ptB (ax + m * u) (ay + m * v) = true) :
    onB (ax + z * u) (ay + z * v) ax ay (ax + m * u) (ay + m * v) = decide (0 ≤ z ∧ z ≤ m) := by
  have e : crossZ ax ay (ax + m * u) (ay + m * v) (ax + z * u) (ay + z * v) = 0 := by unfold crossZ; grind
  have iu := mul_le_iff (z := z) (m := m) hu
  have iv := mul_le_iff (z := z) (m := m) hv
  have ju := mul_le_iff (z := m) (m := m) hu
  have jv := mul_le_iff (z := m) (m := m) hv
  rw [ptB_iff] at ha hb
  unfold onB turnZ
  rw [e, Bool.eq_iff_iff, Bool.and_eq_true, withinB_iff, decide_eq_true_eq, decide_eq_true_eq]
  have h0 : sg 0 = 0 := rfl
  omega
theorem line_off {ax ay u v m z : Int} (hu : 1 ≤ u) (hv : 1 ≤ v) (hm : 0 < m) : onB (ax + z * u) (ay + z * v + v * m + 1) ax ay (ax + m * u) (ay + m * v) = false := by
  have e : crossZ ax ay (ax + m * u) (ay + m * v) (ax + z * u) (ay + z * v + v * m + 1) = m * u * (v * m + 1) := by unfold crossZ; grind
  have p1 : 0 < m * u := Int.mul_pos hm (by omega)
  have p2 : 0 < v * m := Int.mul_pos (by omega) hm
  have p3 : 0 < m * u * (v * m + 1) := Int.mul_pos p1 (by omega)
  unfold onB turnZ
  rw [e]
  have : sg (m * u * (v * m + 1)) ≠ 0 := fun h => by have := sg_zero.1 h; omega
  rw [decide_eq_false this]
  rfl
/-- shape.Has of a line of two points -/
theorem has_line (a b p : S23) (ha : ptP a = true) (hb : ptP b = true) (hne : a ≠ b) (hp : ptP p = true) (A : Option Addr) (c : Nat) (w : World) (h : RC w A [[a, b]]) (r : Bool) (hr : onP p a b = r) :
    Calls Try.prog 12 #[.agg #[.int .i64 1, .int .i64 1, .slice A 1 c], .agg #[.int .i64 p.f0, .int .i64 p.f1]] w fun e w' => e = .returned (.tuple #[.bool r, .int .i64 0]) ∧ Below w.heap.size w w' := by
  have h2 := Has_any (lineF 1 a b) A c p w h
  have hm := lineF_may (id := 1) (by omega) (by omega) ha hb hne
  rw [show hasV (lineF 1 a b) p = r by unfold hasV; rw [hm, hp, lineF_has, hr]; rfl, show okE (mayB (lineF 1 a b) && ptP p) = 0 by rw [hm, hp]; rfl] at h2
  exact h2
set_option maxHeartbeats 8000000 in
set_option maxRecDepth 100000 in
theorem lines_any (x y dx dy k : Int) (w : World) : Calls Try.prog 9 #[.int .i64 x, .int .i64 y, .int .i64 dx, .int .i64 dy, .int .i64 k] w fun e w' => e = .returned (.bool true) ∧ Below w.heap.size w w' := by
  obtain ⟨mx, hmx⟩ : ∃ t, Go.bits .and .i64 x 65535 = t := ⟨_, rfl⟩
  obtain ⟨my, hmy⟩ : ∃ t, Go.bits .and .i64 y 65535 = t := ⟨_, rfl⟩
  obtain ⟨mu, hmu⟩ : ∃ t, Go.bits .and .i64 dx 7 = t := ⟨_, rfl⟩
  obtain ⟨mv, hmv⟩ : ∃ t, Go.bits .and .i64 dy 7 = t := ⟨_, rfl⟩
  obtain ⟨mk, hmk⟩ : ∃ t, Go.bits .and .i64 k 7 = t := ⟨_, rfl⟩
  have b1 := and_65535 x
  have b2 := and_65535 y
  have b3 := and_7 dx
  have b4 := and_7 dy
  have b5 := and_7 k
  rw [hmx] at b1
  rw [hmy] at b2
  rw [hmu] at b3
  rw [hmv] at b4
  rw [hmk] at b5
  have wr : ∀ z : Int, -100 ≤ z → z ≤ 100000 → IntKind.i64.wrap z = z := fun z h0 h1 => IntWalk.i64_in z ⟨by omega, by omega⟩
  have w64 : ∀ z : Int, -100 ≤ z → z ≤ 100000 → wrap64 z = z := fun z h0 h1 => by unfold wrap64; omega
  have bmu : 0 ≤ (2 + mk) * (1 + mu) ∧ (2 + mk) * (1 + mu) ≤ 88 := ⟨Int.mul_nonneg (by omega) (by omega), (mul_bd (by omega) (by omega) (by omega) (by omega)).2⟩
  have bmv : 0 ≤ (2 + mk) * (1 + mv) ∧ (2 + mk) * (1 + mv) ≤ 88 := ⟨Int.mul_nonneg (by omega) (by omega), (mul_bd (by omega) (by omega) (by omega) (by omega)).2⟩
  go_enter Try.func9, Try.ntmps9
  go_wp2_with fail
  refine (awake_any _).mono ?_
  rintro e w1 ⟨rfl, hb⟩
  have HB := Aside0.mk hb
  clear hb
  go_wp2_with fail
  have hc1 := blk_alloc (blk_alloc (blk_alloc (blk_new w1 (.cells #[.int .i64 (1000 + mx), .int .i64 (1000 + my)] 23)) (.cells #[.int .i64 (1000 + mx), .int .i64 (1000 + my), .int .i64 (1000 + mx + (2 + mk) * (1 + mu)), .int .i64 (1000 + my + (2 + mk) * (1 + mv))] 23)) (.cells #[.slice (some ⟨w1.heap.size + 1, 0, none⟩) 2 2] 31)) (.cells #[.int .i64 1, .int .i64 1, .slice (some ⟨w1.heap.size + 1 + 1, 0, none⟩) 1 1] 27)
  have hc2 := blk_alloc (blk_alloc (blk_new (w1.alloc (.cells #[.int .i64 (1000 + mx), .int .i64 (1000 + my)] 23)) (.cells #[.int .i64 (1000 + mx), .int .i64 (1000 + my), .int .i64 (1000 + mx + (2 + mk) * (1 + mu)), .int .i64 (1000 + my + (2 + mk) * (1 + mv))] 23)) (.cells #[.slice (some ⟨w1.heap.size + 1, 0, none⟩) 2 2] 31)) (.cells #[.int .i64 1, .int .i64 1, .slice (some ⟨w1.heap.size + 1 + 1, 0, none⟩) 1 1] 27)
  have hc3 := blk_alloc (blk_new ((w1.alloc (.cells #[.int .i64 (1000 + mx), .int .i64 (1000 + my)] 23)).alloc (.cells #[.int .i64 (1000 + mx), .int .i64 (1000 + my), .int .i64 (1000 + mx + (2 + mk) * (1 + mu)), .int .i64 (1000 + my + (2 + mk) * (1 + mv))] 23)) (.cells #[.slice (some ⟨w1.heap.size + 1, 0, none⟩) 2 2] 31)) (.cells #[.int .i64 1, .int .i64 1, .slice (some ⟨w1.heap.size + 1 + 1, 0, none⟩) 1 1] 27)
  have hc4 := blk_new (((w1.alloc (.cells #[.int .i64 (1000 + mx), .int .i64 (1000 + my)] 23)).alloc (.cells #[.int .i64 (1000 + mx), .int .i64 (1000 + my), .int .i64 (1000 + mx + (2 + mk) * (1 + mu)), .int .i64 (1000 + my + (2 + mk) * (1 + mv))] 23)).alloc (.cells #[.slice (some ⟨w1.heap.size + 1, 0, none⟩) 2 2] 31)) (.cells #[.int .i64 1, .int .i64 1, .slice (some ⟨w1.heap.size + 1 + 1, 0, none⟩) 1 1] 27)
  simp only [World.size_alloc] at hc2 hc3 hc4
  have hB0 := below_alloc (below_alloc (below_alloc (below_alloc HB.out (.cells #[.int .i64 (1000 + mx), .int .i64 (1000 + my)] 23)) (.cells #[.int .i64 (1000 + mx), .int .i64 (1000 + my), .int .i64 (1000 + mx + (2 + mk) * (1 + mu)), .int .i64 (1000 + my + (2 + mk) * (1 + mv))] 23)) (.cells #[.slice (some ⟨w1.heap.size + 1, 0, none⟩) 2 2] 31)) (.cells #[.int .i64 1, .int .i64 1, .slice (some ⟨w1.heap.size + 1 + 1, 0, none⟩) 1 1] 27)
  generalize (((w1.alloc (.cells #[.int .i64 (1000 + mx), .int .i64 (1000 + my)] 23)).alloc (.cells #[.int .i64 (1000 + mx), .int .i64 (1000 + my), .int .i64 (1000 + mx + (2 + mk) * (1 + mu)), .int .i64 (1000 + my + (2 + mk) * (1 + mv))] 23)).alloc (.cells #[.slice (some ⟨w1.heap.size + 1, 0, none⟩) 2 2] 31)).alloc (.cells #[.int .i64 1, .int .i64 1, .slice (some ⟨w1.heap.size + 1 + 1, 0, none⟩) 1 1] 27) = W0 at *
  obtain ⟨ax, hax⟩ : ∃ t, 1000 + mx = t := ⟨_, rfl⟩
  obtain ⟨ay, hay⟩ : ∃ t, 1000 + my = t := ⟨_, rfl⟩
  obtain ⟨u, hu⟩ : ∃ t, 1 + mu = t := ⟨_, rfl⟩
  obtain ⟨v, hv⟩ : ∃ t, 1 + mv = t := ⟨_, rfl⟩
  obtain ⟨m, hm⟩ : ∃ t, 2 + mk = t := ⟨_, rfl⟩
  simp only [hax, hay, hu, hv, hm] at hc1 hc2 hc3 hc4 hB0 bmu bmv ⊢
  have xa : 1000 ≤ ax ∧ ax ≤ 66535 := by omega
  have ya : 1000 ≤ ay ∧ ay ≤ 66535 := by omega
  have ub : 1 ≤ u ∧ u ≤ 8 := by omega
  have vb : 1 ≤ v ∧ v ≤ 8 := by omega
  have mb : 2 ≤ m ∧ m ≤ 9 := by omega
  have bvm : 0 ≤ v * m ∧ v * m ≤ 88 := by rw [Int.mul_comm]; exact bmv
  have hpa : ptP ⟨ax, ay⟩ = true := by rw [ptP_iff]; simp only; omega
  have hpb : ptP ⟨ax + m * u, ay + m * v⟩ = true := by rw [ptP_iff]; simp only; omega
  have hne : (⟨ax, ay⟩ : S23) ≠ ⟨ax + m * u, ay + m * v⟩ := by
    intro e
    simp only [S23.mk.injEq] at e
    have := Int.mul_pos (show 0 < m by omega) (show 0 < u by omega)
    omega
  have HRC := Aside0.mk (rc_one (ps := [⟨ax, ay⟩, ⟨ax + m * u, ay + m * v⟩]) hc3 rfl (Nat.le_refl _) (pc_block hc2 (by show (2 : Nat) ≤ _; omega) (fun j hj => by
    have hj2 : j < 2 := hj
    have h2 : j = 0 ∨ j = 1 := by omega
    rcases h2 with rfl | rfl <;> exact ⟨rfl, rfl⟩)))
  have HA := Aside0.mk hc1
  have HF := Aside0.mk hc4
  have HB0 := Aside0.mk hB0
  have HPa := Aside0.mk hpa
  have HPb := Aside0.mk hpb
  have HNe := Aside0.mk hne
  clear hc1 hc2 hc3 hc4 hB0 HB hmx hmy hmu hmv hmk b1 b2 b3 b4 b5 hax hay hu hv hm hpa hpb hne
  generalize w1.heap.size = ab at *
  go_loopw [16] (fun i wr => ∃ z : Int, -1 ≤ z ∧ z ≤ m + 2 ∧ i = .int .i64 z ∧ Aside0 (Below W0.heap.size W0 wr)) (fun i _ => (m + 2 - intOf i).toNat)
  case atStart => exact ⟨-1, by omega, by omega, rfl, ⟨Below.refl _ _⟩⟩
  case round =>
    obtain ⟨z, hz0, hz1, rfl, HW⟩ := hrel
    by_cases hz : z ≤ m + 1
    · have bzu := mul_bd (z := z) (u := u) (by omega) (by omega) ub.1 ub.2
      have bzv := mul_bd (z := z) (u := v) (by omega) (by omega) vb.1 vb.2
      have hpp : ptP ⟨ax + z * u, ay + z * v⟩ = true := by rw [ptP_iff]; simp only; omega
      have hpq : ptP ⟨ax + z * u, ay + z * v + v * m + 1⟩ = true := by rw [ptP_iff]; simp only; omega
      have HPp := Aside0.mk hpp
      have HPq := Aside0.mk hpq
      obtain ⟨ans, hans⟩ : ∃ ans, decide (0 ≤ z ∧ z ≤ m) = ans := ⟨_, rfl⟩
      have HOn := Aside0.mk (show onP ⟨ax + z * u, ay + z * v⟩ ⟨ax, ay⟩ ⟨ax + m * u, ay + m * v⟩ = ans from (line_on ub.1 vb.1 (by omega) HPa.out HPb.out).trans hans)
      have HD := Aside0.mk hans
      clear hans
      have HOff := Aside0.mk (show onP ⟨ax + z * u, ay + z * v + v * m + 1⟩ ⟨ax, ay⟩ ⟨ax + m * u, ay + m * v⟩ = false from line_off ub.1 vb.1 (by omega))
      have hA := blk_below HA.out HW.out
      have hF := blk_below HF.out HW.out
      have HRw := Aside0.mk (Kd.C_below HRC.out HW.out)
      have a0 : wr.cell? ⟨ab, 0, none⟩ = some (.int .i64 ax) := (blk_cell hA 0).trans rfl
      have a1 : wr.cell? ⟨ab, 1, none⟩ = some (.int .i64 ay) := (blk_cell hA 1).trans rfl
      have f0 : wr.cell? ⟨ab + 1 + 1 + 1, 0, none⟩ = some (.int .i64 1) := (blk_cell hF 0).trans rfl
      have f1 : wr.cell? ⟨ab + 1 + 1 + 1, 1, none⟩ = some (.int .i64 1) := (blk_cell hF 1).trans rfl
      have f2 : wr.cell? ⟨ab + 1 + 1 + 1, 2, none⟩ = some (.slice (some ⟨ab + 1 + 1, 0, none⟩) 1 1) := (blk_cell hF 2).trans rfl
      have fl := blk_lt hF
      have HF1 := Aside0.mk hF
      have e1 : wrap64 (m + 1) = m + 1 := by unfold wrap64; omega
      have e2 : IntKind.i64.wrap (m + 1) = m + 1 := IntWalk.i64_in _ ⟨by omega, by omega⟩
      clear hpp hpq hA hF
      go_wp2_with fail
      clear a0 a1 f0 f1 f2 fl
      have HP1 := Aside0.mk (blk_new wr (.cells #[.int .i64 (ax + z * u), .int .i64 (ay + z * v)] 23))
      have HF2 := Aside0.mk (blk_alloc HF1.out (.cells #[.int .i64 (ax + z * u), .int .i64 (ay + z * v)] 23))
      have HW2 := Aside0.mk (below_alloc HW.out (.cells #[.int .i64 (ax + z * u), .int .i64 (ay + z * v)] 23))
      have HR2 := Aside0.mk (Kd.C_below HRw.out (below_alloc (Below.refl _ _) (.cells #[.int .i64 (ax + z * u), .int .i64 (ay + z * v)] 23)))
      generalize wr.alloc (.cells #[.int .i64 (ax + z * u), .int .i64 (ay + z * v)] 23) = V at *
      generalize wr.heap.size = pb at *
      refine (has_line ⟨ax, ay⟩ ⟨ax + m * u, ay + m * v⟩ ⟨ax + z * u, ay + z * v⟩ HPa.out HPb.out HNe.out HPp.out _ 1 V HR2.out _ HOn.out).mono ?_
      rintro e V1 ⟨rfl, hb⟩
      have hP := blk_below HP1.out hb
      have hF := blk_below HF2.out hb
      have HW3 := Aside0.mk (below_then HW2.out HW2.out.size hb)
      have HR3 := Aside0.mk (Kd.C_below HR2.out hb)
      have p0 : V1.cell? ⟨pb, 0, none⟩ = some (.int .i64 (ax + z * u)) := (blk_cell hP 0).trans rfl
      have p1 : V1.cell? ⟨pb, 1, none⟩ = some (.int .i64 (ay + z * v)) := (blk_cell hP 1).trans rfl
      have f0 : V1.cell? ⟨ab + 1 + 1 + 1, 0, none⟩ = some (.int .i64 1) := (blk_cell hF 0).trans rfl
      have f1 : V1.cell? ⟨ab + 1 + 1 + 1, 1, none⟩ = some (.int .i64 1) := (blk_cell hF 1).trans rfl
      have f2 : V1.cell? ⟨ab + 1 + 1 + 1, 2, none⟩ = some (.slice (some ⟨ab + 1 + 1, 0, none⟩) 1 1) := (blk_cell hF 2).trans rfl
      clear hb hP hF HP1 HF2 HW2 HR2 HF1 HRw
      go_wp2_with fail
      clear p0 p1 f0 f1 f2
      refine (has_line ⟨ax, ay⟩ ⟨ax + m * u, ay + m * v⟩ ⟨ax + z * u, ay + z * v + v * m + 1⟩ HPa.out HPb.out HNe.out HPq.out _ 1 V1 HR3.out _ HOff.out).mono ?_
      rintro e V2 ⟨rfl, hb⟩
      have HW4 := Aside0.mk (below_then HW3.out HW3.out.size hb)
      clear hb HW3 HR3 HOn HOff HPp HPq
      have hcase : z < 0 ∨ (0 ≤ z ∧ z ≤ m) ∨ (0 ≤ z ∧ m < z) := by omega
      have e3 : IntKind.i64.wrap (z + 1) = z + 1 := IntWalk.i64_in _ ⟨by omega, by omega⟩
      have e4 : wrap64 (z + 1) = z + 1 := by unfold wrap64; omega
      rcases hcase with h1 | ⟨h1, h2⟩ | ⟨h1, h2⟩
      · obtain rfl : ans = false := by rw [← HD.out]; exact decide_eq_false (by omega)
        clear HD
        have hn : ¬ 0 ≤ z := by omega
        go_wp2_with ((go_at_call 13; refine (num_any _ _).mono ?_; rintro e w' ⟨rfl, rfl⟩))
        go_roundw
        case rel => exact ⟨z + 1, by omega, by omega, by first | rfl | go_num, HW4⟩
        case measure => simp [intOf]; omega
      · obtain rfl : ans = true := by rw [← HD.out]; exact decide_eq_true ⟨h1, h2⟩
        clear HD
        go_wp2_with ((go_at_call 13; refine (num_any _ _).mono ?_; rintro e w' ⟨rfl, rfl⟩))
        go_roundw
        case rel => exact ⟨z + 1, by omega, by omega, by first | rfl | go_num, HW4⟩
        case measure => simp [intOf]; omega
      · obtain rfl : ans = false := by rw [← HD.out]; exact decide_eq_false (by omega)
        clear HD
        have hn : ¬ z ≤ m := by omega
        go_wp2_with ((go_at_call 13; refine (num_any _ _).mono ?_; rintro e w' ⟨rfl, rfl⟩))
        go_roundw
        case rel => exact ⟨z + 1, by omega, by omega, by first | rfl | go_num, HW4⟩
        case measure => simp [intOf]; omega
    · have e1 : wrap64 (m + 1) = m + 1 := by unfold wrap64; omega
      have e2 : IntKind.i64.wrap (m + 1) = m + 1 := IntWalk.i64_in _ ⟨by omega, by omega⟩
      go_wp2_with fail
      go_ret
      exact ⟨rfl, below_then HB0.out HB0.out.size HW.out⟩
end Go.Proofs.Ytmednnpmkhgfpaa.SH
