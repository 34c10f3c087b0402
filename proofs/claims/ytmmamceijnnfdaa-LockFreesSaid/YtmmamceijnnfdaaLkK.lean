/- What is free is taken by whoever comes: the statement LockFrees answers true, whatever the two rows of ids. -/
import Derived.Test.YtmmamceijnnfdaaLkJ
namespace Go.Proofs.Ytmmamceijnnfdaa.LK
open Go Go.RowKit Go.Maps Go.Proofs.YtmmamceijnnfdaaW.PrintWords Go.Proofs.YtmmamceijnnfdaaW.PrintLast Go.Proofs.YtmmamceijnnfdaaW.PrintMore Go.Proofs.Ytmmamceijnnfdaa.PLockActs
set_option linter.unusedVariables false
set_option linter.unusedSimpArgs false
attribute [local go_sem high] eqA30

def b1 : S30 := ⟨1, 1⟩
theorem wf_b1 : wfTx b1 := ⟨by decide, by decide⟩
def clash (ids other : List Int) : Bool := ids.any fun x => hasId other x
theorem clash_next (ids other : List Int) (k : Nat) (hk : k < ids.length) : clash (ids.take (k + 1)) other = (clash (ids.take k) other || hasId other (rd ids k)) := by
  unfold clash
  rw [List.take_succ_eq_append_getElem hk, List.any_append]
  have e : rd ids k = ids[k] := by unfold rd; simp [hk]
  rw [e]
  simp
theorem hasId_next (l : List Int) (m : Nat) (x : Int) (hm : m < l.length) : hasId (l.take (m + 1)) x = (hasId (l.take m) x || (x == rd l m)) := by
  unfold hasId
  rw [List.take_succ_eq_append_getElem hm, List.any_append]
  have e : rd l m = l[m] := by unfold rd; simp [hm]
  rw [e]
  simp [Bool.beq_comm]
theorem clash_iff {ids other : List Int} : clash ids other = true ↔ ∃ x ∈ ids, x ∈ other := by
  unfold clash
  rw [List.any_eq_true]
  simp [hasId_iff]
def two (ids other : List Int) : List S55 := takenL [⟨a1, ids, false⟩] b1 other false
theorem two_ok (ids other : List Int) : takeOkL [⟨a1, ids, false⟩] b1 other false = !clash ids other := by
  have hc : (!clash ids other) = true ↔ ¬ ∃ x ∈ ids, x ∈ other := by rw [Bool.not_eq_true', ← clash_iff, Bool.not_eq_true]
  rw [Bool.eq_iff_iff, okL_iff, hc]
  constructor
  · intro h ⟨x, h1, h2⟩
    have := (h _ (List.mem_singleton.2 rfl)).2 x h2
    rw [hasId_iff.2 h1] at this
    cases this
  · intro h x hx
    rw [List.mem_singleton] at hx
    subst hx
    refine ⟨⟨eqTx_false.1 rfl, rfl, by simp⟩, fun id hid => ?_⟩
    rw [← Bool.not_eq_true, hasId_iff]
    exact fun h1 => h ⟨id, h1, hid⟩
theorem two_cases (ids other : List Int) : two ids other = [⟨a1, ids, false⟩, ⟨b1, other, false⟩] ∨ two ids other = [⟨a1, ids, false⟩] := by
  unfold two takenL
  split
  · exact Or.inl rfl
  · exact Or.inr rfl
theorem two_len (ids other : List Int) : ((two ids other).length + 1) * 16 ≤ 140737488355328 := by
  rcases two_cases ids other with h | h <;> rw [h] <;> simp
theorem two_next (ids other : List Int) : takeOkL (two ids other) a2 [] true = false ∧ takenL (two ids other) a2 [] true = two ids other := by
  have h1 : takeOkL (two ids other) a2 [] true = false := by
    rcases two_cases ids other with h | h <;> rw [h] <;> rfl
  exact ⟨h1, by unfold takenL; rw [h1]; rfl⟩
theorem two_free (ids other : List Int) : freeL (two ids other) b1 = [⟨a1, ids, false⟩] := by
  rcases two_cases ids other with h | h <;> rw [h] <;> rfl
set_option maxHeartbeats 16000000 in
set_option maxRecDepth 100000 in
theorem frees_any (A0 A1 : Option Addr) (c0 c1 : Nat) (ids other : List Int) (w : World) (hI0 : Kd.C (Kd.int .i64) w A0 ids.length ids) (hI1 : Kd.C (Kd.int .i64) w A1 other.length other)
    (hw0 : ∀ id ∈ ids, (Lit.int .i64 id).wf = true) (hw1 : ∀ id ∈ other, (Lit.int .i64 id).wf = true) (hl0 : ids.length * 8 ≤ 140737488351232) (hl1 : other.length * 8 ≤ 140737488351232) :
    Calls Try.prog 5 #[.slice A0 ids.length c0, .slice A1 other.length c1] w fun e w' => e = .returned (.bool true) ∧ Below w.heap.size w w' := by
  have HI0 := Aside0.mk hI0
  have HI1 := Aside0.mk hI1
  have HW0 := Aside0.mk hw0
  have HW1 := Aside0.mk hw1
  have HL0 := Aside0.mk hl0
  have HL1 := Aside0.mk hl1
  have hm0 := C_max hI0
  have hm1 := C_max hI1
  clear hI0 hI1 hw0 hw1 hl0 hl1
  go_enter Try.func5, Try.ntmps5
  go_wp2_with fail
  refine (awake_any _).mono ?_
  rintro e w0 ⟨rfl, hb⟩
  have HB0 := Aside0.mk hb
  replace HI0 := Aside0.mk (Kd.C_below HI0.out hb)
  replace HI1 := Aside0.mk (Kd.C_below HI1.out hb)
  clear hb
  go_wp2_with fail
  refine (new_law _).mono ?_
  rintro e w1 ⟨tb, rfl, hT, hB⟩
  have HT1 := Aside0.mk hT
  have HB1 := Aside0.mk hB
  clear hT hB
  go_wp2_with fail
  have hT := ((HT1.out.alloc (.cells #[.int .i64 0, .int .i64 1] 30)).alloc (.cells #[.int .i64 1, .int .i64 1] 30)).alloc (.cells #[.int .i64 0, .int .i64 2] 30)
  have hA := blk_alloc (blk_alloc (blk_new w1 (.cells #[.int .i64 0, .int .i64 1] 30)) (.cells #[.int .i64 1, .int .i64 1] 30)) (.cells #[.int .i64 0, .int .i64 2] 30)
  have hBx := blk_alloc (blk_new (w1.alloc (.cells #[.int .i64 0, .int .i64 1] 30)) (.cells #[.int .i64 1, .int .i64 1] 30)) (.cells #[.int .i64 0, .int .i64 2] 30)
  have hCx := blk_new ((w1.alloc (.cells #[.int .i64 0, .int .i64 1] 30)).alloc (.cells #[.int .i64 1, .int .i64 1] 30)) (.cells #[.int .i64 0, .int .i64 2] 30)
  have hW := below_alloc (below_alloc (below_alloc HB1.out (.cells #[.int .i64 0, .int .i64 1] 30)) (.cells #[.int .i64 1, .int .i64 1] 30)) (.cells #[.int .i64 0, .int .i64 2] 30)
  simp only [World.size_alloc] at hT hBx hCx
  refine (take_law hT a1 A0 c0 ids false wf_a1 (fun W' hM => Kd.C_below HI0.out (Mv.low hW hM hT.base)) HW0.out (by have := HL0.out; omega) (by decide) true [⟨a1, ids, false⟩] rfl rfl).mono ?_
  rintro e w2 ⟨rfl, hT2, hM2⟩
  have HT2 := Aside0.mk hT2
  have HB2 := Aside0.mk (Mv.low hW hM2 hT.base)
  have HbA := Aside0.mk (hM2.blk hA (by simp))
  have HbB := Aside0.mk (hM2.blk hBx (by simp))
  have HbC := Aside0.mk (hM2.blk hCx (by simp))
  clear hT hA hBx hCx hW hT2 hM2
  have bB0 : w2.cell? ⟨w1.heap.size + 1, 0, none⟩ = some (.int .i64 1) := (blk_cell HbB.out 0).trans rfl
  have bB1 : w2.cell? ⟨w1.heap.size + 1, 1, none⟩ = some (.int .i64 1) := (blk_cell HbB.out 1).trans rfl
  have bBl := blk_lt HbB.out
  go_wp2_with fail
  clear bB0 bB1 bBl
  refine (take_law HT2.out b1 A1 c1 other false wf_b1 (fun W' hM => Kd.C_below HI1.out (Mv.low HB2.out hM HT2.out.base)) HW1.out (by have := HL0.out; have := HL1.out; omega) (by simp) (!clash ids other) (two ids other) (two_ok ids other) rfl).mono ?_
  rintro e w3 ⟨rfl, hT2, hM2⟩
  have HT3 := Aside0.mk hT2
  have HB3 := Aside0.mk (Mv.low HB2.out hM2 HT2.out.base)
  replace HbA := Aside0.mk (hM2.blk HbA.out (by simp))
  replace HbB := Aside0.mk (hM2.blk HbB.out (by simp))
  replace HbC := Aside0.mk (hM2.blk HbC.out (by simp))
  clear hT2 hM2
  go_wp2_with fail
  go_loopw [11, 12] (fun s i wr => ∃ k : Nat, k ≤ ids.length ∧ i = .int .i64 k ∧ s = .bool (clash (ids.take k) other) ∧ Aside0 (Below w3.heap.size w3 wr)) (fun _ i _ => ids.length - (intOf i).toNat)
  case atStart => exact ⟨0, Nat.zero_le _, rfl, rfl, ⟨Below.refl _ _⟩⟩
  case round =>
    obtain ⟨k, hk, rfl, rfl, HBr⟩ := hrel
    by_cases hlt : k < ids.length
    · obtain ⟨wo, hwo⟩ : ∃ wo : World, wo = wr := ⟨_, rfl⟩
      subst hwo
      obtain ⟨ad0, e0, hx0⟩ := atInt HI0.out k hlt
      subst e0
      go_wp2_with fail
      go_loopw [11, 13] (fun s j wr => ∃ m : Nat, m ≤ other.length ∧ j = .int .i64 m ∧ s = .bool (clash (ids.take k) other || hasId (other.take m) (rd ids k)) ∧ Aside0 (Below w3.heap.size w3 wr)) (fun _ j _ => other.length - (intOf j).toNat)
      case atStart => exact ⟨0, Nat.zero_le _, rfl, by simp [hasId], HBr⟩
      case round =>
        obtain ⟨m, hm, rfl, rfl, HBm⟩ := hrel
        by_cases hlm : m < other.length
        · obtain ⟨ad1, e1, hx1⟩ := atInt HI1.out m hlm
          subst e1
          have hX0 := pw_cell_below (below_then HB3.out HB3.out.size HBm.out) hx0
          have hX1 := pw_cell_below (below_then HB3.out HB3.out.size HBm.out) hx1
          have HN := Aside0.mk (hasId_next other m (rd ids k) hlm)
          generalize hb : (clash (ids.take k) other || hasId (other.take m) (rd ids k)) = b
          have HBb := Aside0.mk hb
          clear hb
          cases b
          · go_wp2_with fail
            go_quiet (fail)
            go_wp2_with fail
            go_roundw
            case rel => exact ⟨m + 1, by omega, by go_num, by rw [HN.out, ← Bool.or_assoc, HBb.out]; rfl, ⟨pw_below_drewN HBm.out _⟩⟩
            case measure => simp [intOf]; omega
          · go_wp2_with fail
            go_quiet (fail)
            go_wp2_with fail
            go_roundw
            case rel => exact ⟨m + 1, by omega, by go_num, by rw [HN.out, ← Bool.or_assoc, HBb.out]; rfl, ⟨pw_below_drewN HBm.out _⟩⟩
            case measure => simp [intOf]; omega
        · obtain rfl : m = other.length := by omega
          rw [List.take_length]
          rw [← clash_next ids other k hlt]
          go_wp2_with fail
          go_roundw
          case rel => exact ⟨k + 1, by omega, by go_num, rfl, HBm⟩
          case measure => simp [intOf]; omega
    · obtain rfl : k = ids.length := by omega
      rw [List.take_length]
      have HT4 := Aside0.mk (HT3.out.step HBr.out)
      have HB4 := Aside0.mk (below_then HB3.out HB3.out.size HBr.out)
      replace HbA := Aside0.mk (blk_below HbA.out HBr.out)
      replace HbB := Aside0.mk (blk_below HbB.out HBr.out)
      replace HbC := Aside0.mk (blk_below HbC.out HBr.out)
      generalize clash ids other = cl
      have bC0 : wr.cell? ⟨w1.heap.size + 1 + 1, 0, none⟩ = some (.int .i64 0) := (blk_cell HbC.out 0).trans rfl
      have bC1 : wr.cell? ⟨w1.heap.size + 1 + 1, 1, none⟩ = some (.int .i64 2) := (blk_cell HbC.out 1).trans rfl
      have bCl := blk_lt HbC.out
      go_wp2_with fail
      clear bC0 bC1 bCl
      refine (take_law HT4.out a2 none 0 [] true wf_a2 (fun W' _ => C_nilI W') (by decide) (by have := HL0.out; have := HL1.out; simp; omega) (by exact two_len ids other) false (two ids other) (by exact (two_next ids other).1) (by exact (two_next ids other).2)).mono ?_
      rintro e w5 ⟨rfl, hT2, hM2⟩
      have HT5 := Aside0.mk hT2
      have HB5 := Aside0.mk (Mv.low HB4.out hM2 HT4.out.base)
      replace HbA := Aside0.mk (hM2.blk HbA.out (by simp))
      replace HbB := Aside0.mk (hM2.blk HbB.out (by simp))
      replace HbC := Aside0.mk (hM2.blk HbC.out (by simp))
      clear hT2 hM2
      have bB0 : w5.cell? ⟨w1.heap.size + 1, 0, none⟩ = some (.int .i64 1) := (blk_cell HbB.out 0).trans rfl
      have bB1 : w5.cell? ⟨w1.heap.size + 1, 1, none⟩ = some (.int .i64 1) := (blk_cell HbB.out 1).trans rfl
      have bBl := blk_lt HbB.out
      go_wp2_with fail
      clear bB0 bB1 bBl
      refine (free_law HT5.out b1 wf_b1 [⟨a1, ids, false⟩] (by exact two_free ids other)).mono ?_
      rintro e w6 ⟨rfl, hT2, hM2⟩
      have HT6 := Aside0.mk hT2
      have HB6 := Aside0.mk (Mv.low HB5.out hM2 HT5.out.base)
      replace HbA := Aside0.mk (hM2.blk HbA.out (by simp))
      replace HbB := Aside0.mk (hM2.blk HbB.out (by simp))
      replace HbC := Aside0.mk (hM2.blk HbC.out (by simp))
      clear hT2 hM2
      have bA0 : w6.cell? ⟨w1.heap.size, 0, none⟩ = some (.int .i64 0) := (blk_cell HbA.out 0).trans rfl
      have bA1 : w6.cell? ⟨w1.heap.size, 1, none⟩ = some (.int .i64 1) := (blk_cell HbA.out 1).trans rfl
      have bAl := blk_lt HbA.out
      go_wp2_with fail
      clear bA0 bA1 bAl
      refine (free_law HT6.out a1 wf_a1 [] (by rfl)).mono ?_
      rintro e w7 ⟨rfl, hT2, hM2⟩
      have HT7 := Aside0.mk hT2
      have HB7 := Aside0.mk (Mv.low HB6.out hM2 HT6.out.base)
      replace HbA := Aside0.mk (hM2.blk HbA.out (by simp))
      replace HbB := Aside0.mk (hM2.blk HbB.out (by simp))
      replace HbC := Aside0.mk (hM2.blk HbC.out (by simp))
      clear hT2 hM2
      have bC0 : w7.cell? ⟨w1.heap.size + 1 + 1, 0, none⟩ = some (.int .i64 0) := (blk_cell HbC.out 0).trans rfl
      have bC1 : w7.cell? ⟨w1.heap.size + 1 + 1, 1, none⟩ = some (.int .i64 2) := (blk_cell HbC.out 1).trans rfl
      have bCl := blk_lt HbC.out
      go_wp2_with fail
      clear bC0 bC1 bCl
      refine (take_law HT7.out a2 none 0 [] true wf_a2 (fun W' _ => C_nilI W') (by decide) (by have := HL0.out; have := HL1.out; simp; omega) (by decide) true [⟨a2, [], true⟩] (by rfl) (by rfl)).mono ?_
      rintro e w8 ⟨rfl, hT2, hM2⟩
      have HT8 := Aside0.mk hT2
      have HB8 := Aside0.mk (Mv.low HB7.out hM2 HT7.out.base)
      replace HbA := Aside0.mk (hM2.blk HbA.out (by simp))
      replace HbB := Aside0.mk (hM2.blk HbB.out (by simp))
      replace HbC := Aside0.mk (hM2.blk HbC.out (by simp))
      clear hT2 hM2
      have bA0 : w8.cell? ⟨w1.heap.size, 0, none⟩ = some (.int .i64 0) := (blk_cell HbA.out 0).trans rfl
      have bA1 : w8.cell? ⟨w1.heap.size, 1, none⟩ = some (.int .i64 1) := (blk_cell HbA.out 1).trans rfl
      have bAl := blk_lt HbA.out
      go_wp2_with fail
      clear bA0 bA1 bAl
      refine (take_law HT8.out a1 none 0 [] false wf_a1 (fun W' _ => C_nilI W') (by decide) (by have := HL0.out; have := HL1.out; simp; omega) (by decide) false [⟨a2, [], true⟩] (by rfl) (by rfl)).mono ?_
      rintro e w9 ⟨rfl, hT2, hM2⟩
      have HT9 := Aside0.mk hT2
      have HB9 := Aside0.mk (Mv.low HB8.out hM2 HT8.out.base)
      replace HbA := Aside0.mk (hM2.blk HbA.out (by simp))
      replace HbB := Aside0.mk (hM2.blk HbB.out (by simp))
      replace HbC := Aside0.mk (hM2.blk HbC.out (by simp))
      clear hT2 hM2
      go_wp2_with fail
      refine (holder_law HT9.out 12345 (by decide) (a2, true) rfl).mono ?_
      rintro e w10 ⟨rfl, hb⟩
      have HT10 := Aside0.mk (HT9.out.step hb)
      have HB10 := Aside0.mk (below_then HB9.out HB9.out.size hb)
      replace HbA := Aside0.mk (blk_below HbA.out hb)
      replace HbB := Aside0.mk (blk_below HbB.out hb)
      replace HbC := Aside0.mk (blk_below HbC.out hb)
      clear hb
      have bC0 : w10.cell? ⟨w1.heap.size + 1 + 1, 0, none⟩ = some (.int .i64 0) := (blk_cell HbC.out 0).trans rfl
      have bC1 : w10.cell? ⟨w1.heap.size + 1 + 1, 1, none⟩ = some (.int .i64 2) := (blk_cell HbC.out 1).trans rfl
      have bCl := blk_lt HbC.out
      go_wp2_with fail
      clear bC0 bC1 bCl
      have hT := HT10.out.alloc (.cells #[.int .i64 a2.f0, .int .i64 a2.f1] 30)
      have hH := blk_new w10 (.cells #[.int .i64 a2.f0, .int .i64 a2.f1] 30)
      have hW := below_alloc HB10.out (.cells #[.int .i64 a2.f0, .int .i64 a2.f1] 30)
      refine (free_law hT a2 wf_a2 [] rfl).mono ?_
      rintro e w11 ⟨rfl, hT2, hM2⟩
      have HT11 := Aside0.mk hT2
      have HB11 := Aside0.mk (Mv.low hW hM2 hT.base)
      replace HbA := Aside0.mk (hM2.blk (blk_alloc HbA.out _) (by simp))
      replace HbB := Aside0.mk (hM2.blk (blk_alloc HbB.out _) (by simp))
      replace HbC := Aside0.mk (hM2.blk (blk_alloc HbC.out _) (by simp))
      have HbH := Aside0.mk (hM2.blk hH (by simp))
      clear hT hH hW hT2 hM2
      have bA0 : w11.cell? ⟨w1.heap.size, 0, none⟩ = some (.int .i64 0) := (blk_cell HbA.out 0).trans rfl
      have bA1 : w11.cell? ⟨w1.heap.size, 1, none⟩ = some (.int .i64 1) := (blk_cell HbA.out 1).trans rfl
      have bAl := blk_lt HbA.out
      go_wp2_with fail
      clear bA0 bA1 bAl
      refine (take_law HT11.out a1 none 0 [] false wf_a1 (fun W' _ => C_nilI W') (by decide) (by have := HL0.out; have := HL1.out; simp; omega) (by decide) true [⟨a1, [], false⟩] (by rfl) (by rfl)).mono ?_
      rintro e w12 ⟨rfl, hT2, hM2⟩
      have HT12 := Aside0.mk hT2
      have HB12 := Aside0.mk (Mv.low HB11.out hM2 HT11.out.base)
      replace HbA := Aside0.mk (hM2.blk HbA.out (by simp))
      replace HbB := Aside0.mk (hM2.blk HbB.out (by simp))
      replace HbC := Aside0.mk (hM2.blk HbC.out (by simp))
      replace HbH := Aside0.mk (hM2.blk HbH.out (by simp))
      clear hT2 hM2
      have bC0 : w12.cell? ⟨w1.heap.size + 1 + 1, 0, none⟩ = some (.int .i64 0) := (blk_cell HbC.out 0).trans rfl
      have bC1 : w12.cell? ⟨w1.heap.size + 1 + 1, 1, none⟩ = some (.int .i64 2) := (blk_cell HbC.out 1).trans rfl
      have bCl := blk_lt HbC.out
      go_wp2_with fail
      clear bC0 bC1 bCl
      refine (take_law HT12.out a2 none 0 [] true wf_a2 (fun W' _ => C_nilI W') (by decide) (by have := HL0.out; have := HL1.out; simp; omega) (by decide) false [⟨a1, [], false⟩] (by rfl) (by rfl)).mono ?_
      rintro e w13 ⟨rfl, hT2, hM2⟩
      have HT13 := Aside0.mk hT2
      have HB13 := Aside0.mk (Mv.low HB12.out hM2 HT12.out.base)
      replace HbA := Aside0.mk (hM2.blk HbA.out (by simp))
      replace HbB := Aside0.mk (hM2.blk HbB.out (by simp))
      replace HbC := Aside0.mk (hM2.blk HbC.out (by simp))
      replace HbH := Aside0.mk (hM2.blk HbH.out (by simp))
      clear hT2 hM2
      go_wp2_with fail
      obtain ⟨W, hW⟩ : ∃ W : World, W = w13 := ⟨_, rfl⟩
      subst hW
      refine start_ (n := 45) (S := fun w' => Below W.heap.size W w') (ds := []) #[false, false, false, false, false, false, false, false, false, false, false, false, false, false, false, false, false, false, false, false, false, false, false, false, false, false, false, false, false, false, false, false, false, false, false, false, false, false, false, false, false, false, false, false, false] (by kernel_rfl) rfl rfl (below_drew (Below.refl _ _)) (fun hHeld => ?_)
      refine pure_ (i := 0) (N := (some 88)) (v := ?_) (a' := ?_) #[true, false, false, false, false, false, false, false, false, false, false, false, false, false, false, false, false, false, false, false, false, false, false, false, false, false, false, false, false, false, false, false, false, false, false, false, false, false, false, false, false, false, false, false, false] rfl rfl (by kernel_rfl) (fun _ _ _ h => h) (Or.inl ⟨by rfl, ?_⟩) ?_ ?_
      rotate_left
      · intro w'
        go_simp
        all_goals with_reducible rfl
      rotate_left
      · simp only [Act.put, List.setIfInBounds_toArray, List.set_cons_zero, List.set_cons_succ]
        rfl
      refine pure_ (i := 1) (N := (some 89)) (v := ?_) (a' := ?_) #[true, true, false, false, false, false, false, false, false, false, false, false, false, false, false, false, false, false, false, false, false, false, false, false, false, false, false, false, false, false, false, false, false, false, false, false, false, false, false, false, false, false, false, false, false] rfl rfl (by kernel_rfl) (fun _ _ _ h => h) (Or.inl ⟨by rfl, ?_⟩) ?_ ?_
      rotate_left
      · intro w'
        go_simp
        all_goals with_reducible rfl
      rotate_left
      · simp only [Act.put, List.setIfInBounds_toArray, List.set_cons_zero, List.set_cons_succ]
        rfl
      refine pure_ (i := 2) (N := (some 90)) (v := ?_) (a' := ?_) #[true, true, true, false, false, false, false, false, false, false, false, false, false, false, false, false, false, false, false, false, false, false, false, false, false, false, false, false, false, false, false, false, false, false, false, false, false, false, false, false, false, false, false, false, false] rfl rfl (by kernel_rfl) (fun _ _ _ h => h) (Or.inl ⟨by rfl, ?_⟩) ?_ ?_
      rotate_left
      · intro w'
        go_simp
        all_goals with_reducible rfl
      rotate_left
      · simp only [Act.put, List.setIfInBounds_toArray, List.set_cons_zero, List.set_cons_succ]
        rfl
      refine pure_ (i := 3) (N := (some 91)) (v := ?_) (a' := ?_) #[true, true, true, true, false, false, false, false, false, false, false, false, false, false, false, false, false, false, false, false, false, false, false, false, false, false, false, false, false, false, false, false, false, false, false, false, false, false, false, false, false, false, false, false, false] rfl rfl (by kernel_rfl) (fun _ _ _ h => h) (Or.inl ⟨by rfl, ?_⟩) ?_ ?_
      rotate_left
      · intro w'
        go_simp
        all_goals with_reducible rfl
      rotate_left
      · simp only [Act.put, List.setIfInBounds_toArray, List.set_cons_zero, List.set_cons_succ]
        rfl
      refine pure_ (i := 4) (N := (some 92)) (v := ?_) (a' := ?_) #[true, true, true, true, true, false, false, false, false, false, false, false, false, false, false, false, false, false, false, false, false, false, false, false, false, false, false, false, false, false, false, false, false, false, false, false, false, false, false, false, false, false, false, false, false] rfl rfl (by kernel_rfl) (fun _ _ _ h => h) (Or.inl ⟨by rfl, ?_⟩) ?_ ?_
      rotate_left
      · intro w'
        go_simp
        all_goals with_reducible rfl
      rotate_left
      · simp only [Act.put, List.setIfInBounds_toArray, List.set_cons_zero, List.set_cons_succ]
        rfl
      refine pure_ (i := 5) (N := (some 93)) (v := ?_) (a' := ?_) #[true, true, true, true, true, true, false, false, false, false, false, false, false, false, false, false, false, false, false, false, false, false, false, false, false, false, false, false, false, false, false, false, false, false, false, false, false, false, false, false, false, false, false, false, false] rfl rfl (by kernel_rfl) (fun _ _ _ h => h) (Or.inl ⟨by rfl, ?_⟩) ?_ ?_
      rotate_left
      · intro w'
        go_simp
        all_goals with_reducible rfl
      rotate_left
      · simp only [Act.put, List.setIfInBounds_toArray, List.set_cons_zero, List.set_cons_succ]
        rfl
      refine pure_ (i := 6) (N := (some 94)) (v := ?_) (a' := ?_) #[true, true, true, true, true, true, true, false, false, false, false, false, false, false, false, false, false, false, false, false, false, false, false, false, false, false, false, false, false, false, false, false, false, false, false, false, false, false, false, false, false, false, false, false, false] rfl rfl (by kernel_rfl) (fun _ _ _ h => h) (Or.inl ⟨by rfl, ?_⟩) ?_ ?_
      rotate_left
      · intro w'
        go_simp
        all_goals with_reducible rfl
      rotate_left
      · simp only [Act.put, List.setIfInBounds_toArray, List.set_cons_zero, List.set_cons_succ]
        rfl
      refine pure_ (i := 7) (N := (some 95)) (v := ?_) (a' := ?_) #[true, true, true, true, true, true, true, true, false, false, false, false, false, false, false, false, false, false, false, false, false, false, false, false, false, false, false, false, false, false, false, false, false, false, false, false, false, false, false, false, false, false, false, false, false] rfl rfl (by kernel_rfl) (fun _ _ _ h => h) (Or.inl ⟨by rfl, ?_⟩) ?_ ?_
      rotate_left
      · intro w'
        go_simp
        all_goals with_reducible rfl
      rotate_left
      · simp only [Act.put, List.setIfInBounds_toArray, List.set_cons_zero, List.set_cons_succ]
        rfl
      refine pure_ (i := 8) (N := (some 96)) (v := ?_) (a' := ?_) #[true, true, true, true, true, true, true, true, true, false, false, false, false, false, false, false, false, false, false, false, false, false, false, false, false, false, false, false, false, false, false, false, false, false, false, false, false, false, false, false, false, false, false, false, false] rfl rfl (by kernel_rfl) (fun _ _ _ h => h) (Or.inl ⟨by rfl, ?_⟩) ?_ ?_
      rotate_left
      · intro w'
        go_simp
        all_goals with_reducible rfl
      rotate_left
      · simp only [Act.put, List.setIfInBounds_toArray, List.set_cons_zero, List.set_cons_succ]
        rfl
      refine pure_ (i := 9) (N := (some 97)) (v := ?_) (a' := ?_) #[true, true, true, true, true, true, true, true, true, true, false, false, false, false, false, false, false, false, false, false, false, false, false, false, false, false, false, false, false, false, false, false, false, false, false, false, false, false, false, false, false, false, false, false, false] rfl rfl (by kernel_rfl) (fun _ _ _ h => h) (Or.inl ⟨by rfl, ?_⟩) ?_ ?_
      rotate_left
      · intro w'
        go_simp
        all_goals with_reducible rfl
      rotate_left
      · simp only [Act.put, List.setIfInBounds_toArray, List.set_cons_zero, List.set_cons_succ]
        rfl
      refine pure_ (i := 10) (N := (some 98)) (v := ?_) (a' := ?_) #[true, true, true, true, true, true, true, true, true, true, true, false, false, false, false, false, false, false, false, false, false, false, false, false, false, false, false, false, false, false, false, false, false, false, false, false, false, false, false, false, false, false, false, false, false] rfl rfl (by kernel_rfl) (fun _ _ _ h => h) (Or.inl ⟨by rfl, ?_⟩) ?_ ?_
      rotate_left
      · intro w'
        go_simp
        all_goals with_reducible rfl
      rotate_left
      · simp only [Act.put, List.setIfInBounds_toArray, List.set_cons_zero, List.set_cons_succ]
        rfl
      refine pure_ (i := 11) (N := (some 99)) (v := ?_) (a' := ?_) #[true, true, true, true, true, true, true, true, true, true, true, true, false, false, false, false, false, false, false, false, false, false, false, false, false, false, false, false, false, false, false, false, false, false, false, false, false, false, false, false, false, false, false, false, false] rfl rfl (by kernel_rfl) (fun _ _ _ h => h) (Or.inl ⟨by rfl, ?_⟩) ?_ ?_
      rotate_left
      · intro w'
        go_simp
        all_goals with_reducible rfl
      rotate_left
      · simp only [Act.put, List.setIfInBounds_toArray, List.set_cons_zero, List.set_cons_succ]
        rfl
      refine pure_ (i := 12) (N := (some 100)) (v := ?_) (a' := ?_) #[true, true, true, true, true, true, true, true, true, true, true, true, true, false, false, false, false, false, false, false, false, false, false, false, false, false, false, false, false, false, false, false, false, false, false, false, false, false, false, false, false, false, false, false, false] rfl rfl (by kernel_rfl) (fun _ _ _ h => h) (Or.inl ⟨by rfl, ?_⟩) ?_ ?_
      rotate_left
      · intro w'
        go_simp
        all_goals with_reducible rfl
      rotate_left
      · simp only [Act.put, List.setIfInBounds_toArray, List.set_cons_zero, List.set_cons_succ]
        rfl
      refine pure_ (i := 13) (N := (some 101)) (v := ?_) (a' := ?_) #[true, true, true, true, true, true, true, true, true, true, true, true, true, true, false, false, false, false, false, false, false, false, false, false, false, false, false, false, false, false, false, false, false, false, false, false, false, false, false, false, false, false, false, false, false] rfl rfl (by kernel_rfl) (fun _ _ _ h => h) (Or.inl ⟨by rfl, ?_⟩) ?_ ?_
      rotate_left
      · intro w'
        go_simp
        all_goals with_reducible rfl
      rotate_left
      · simp only [Act.put, List.setIfInBounds_toArray, List.set_cons_zero, List.set_cons_succ]
        rfl
      refine pure_ (i := 14) (N := (some 102)) (v := ?_) (a' := ?_) #[true, true, true, true, true, true, true, true, true, true, true, true, true, true, true, false, false, false, false, false, false, false, false, false, false, false, false, false, false, false, false, false, false, false, false, false, false, false, false, false, false, false, false, false, false] rfl rfl (by kernel_rfl) (fun _ _ _ h => h) (Or.inl ⟨by rfl, ?_⟩) ?_ ?_
      rotate_left
      · intro w'
        go_simp
        all_goals with_reducible rfl
      rotate_left
      · simp only [Act.put, List.setIfInBounds_toArray, List.set_cons_zero, List.set_cons_succ]
        rfl
      refine pure_ (i := 15) (N := (some 103)) (v := ?_) (a' := ?_) #[true, true, true, true, true, true, true, true, true, true, true, true, true, true, true, true, false, false, false, false, false, false, false, false, false, false, false, false, false, false, false, false, false, false, false, false, false, false, false, false, false, false, false, false, false] rfl rfl (by kernel_rfl) (fun _ _ _ h => h) (Or.inl ⟨by rfl, ?_⟩) ?_ ?_
      rotate_left
      · intro w'
        go_simp
        all_goals with_reducible rfl
      rotate_left
      · simp only [Act.put, List.setIfInBounds_toArray, List.set_cons_zero, List.set_cons_succ]
        rfl
      refine pure_ (i := 16) (N := (some 104)) (v := ?_) (a' := ?_) #[true, true, true, true, true, true, true, true, true, true, true, true, true, true, true, true, true, false, false, false, false, false, false, false, false, false, false, false, false, false, false, false, false, false, false, false, false, false, false, false, false, false, false, false, false] rfl rfl (by kernel_rfl) (fun _ _ _ h => h) (Or.inl ⟨by rfl, ?_⟩) ?_ ?_
      rotate_left
      · intro w'
        go_simp
        all_goals with_reducible rfl
      rotate_left
      · simp only [Act.put, List.setIfInBounds_toArray, List.set_cons_zero, List.set_cons_succ]
        rfl
      refine pure_ (i := 17) (N := (some 105)) (v := ?_) (a' := ?_) #[true, true, true, true, true, true, true, true, true, true, true, true, true, true, true, true, true, true, false, false, false, false, false, false, false, false, false, false, false, false, false, false, false, false, false, false, false, false, false, false, false, false, false, false, false] rfl rfl (by kernel_rfl) (fun _ _ _ h => h) (Or.inl ⟨by rfl, ?_⟩) ?_ ?_
      rotate_left
      · intro w'
        go_simp
        all_goals with_reducible rfl
      rotate_left
      · simp only [Act.put, List.setIfInBounds_toArray, List.set_cons_zero, List.set_cons_succ]
        rfl
      refine pure_ (i := 18) (N := (some 106)) (v := ?_) (a' := ?_) #[true, true, true, true, true, true, true, true, true, true, true, true, true, true, true, true, true, true, true, false, false, false, false, false, false, false, false, false, false, false, false, false, false, false, false, false, false, false, false, false, false, false, false, false, false] rfl rfl (by kernel_rfl) (fun _ _ _ h => h) (Or.inl ⟨by rfl, ?_⟩) ?_ ?_
      rotate_left
      · intro w'
        go_simp
        all_goals with_reducible rfl
      rotate_left
      · simp only [Act.put, List.setIfInBounds_toArray, List.set_cons_zero, List.set_cons_succ]
        rfl
      refine pure_ (i := 19) (N := (some 107)) (v := ?_) (a' := ?_) #[true, true, true, true, true, true, true, true, true, true, true, true, true, true, true, true, true, true, true, true, false, false, false, false, false, false, false, false, false, false, false, false, false, false, false, false, false, false, false, false, false, false, false, false, false] rfl rfl (by kernel_rfl) (fun _ _ _ h => h) (Or.inl ⟨by rfl, ?_⟩) ?_ ?_
      rotate_left
      · intro w'
        go_simp
        all_goals with_reducible rfl
      rotate_left
      · simp only [Act.put, List.setIfInBounds_toArray, List.set_cons_zero, List.set_cons_succ]
        rfl
      refine pure_ (i := 20) (N := (some 108)) (v := ?_) (a' := ?_) #[true, true, true, true, true, true, true, true, true, true, true, true, true, true, true, true, true, true, true, true, true, false, false, false, false, false, false, false, false, false, false, false, false, false, false, false, false, false, false, false, false, false, false, false, false] rfl rfl (by kernel_rfl) (fun _ _ _ h => h) (Or.inl ⟨by rfl, ?_⟩) ?_ ?_
      rotate_left
      · intro w'
        go_simp
        all_goals with_reducible rfl
      rotate_left
      · simp only [Act.put, List.setIfInBounds_toArray, List.set_cons_zero, List.set_cons_succ]
        rfl
      refine pure_ (i := 21) (N := (some 109)) (v := ?_) (a' := ?_) #[true, true, true, true, true, true, true, true, true, true, true, true, true, true, true, true, true, true, true, true, true, true, false, false, false, false, false, false, false, false, false, false, false, false, false, false, false, false, false, false, false, false, false, false, false] rfl rfl (by kernel_rfl) (fun _ _ _ h => h) (Or.inl ⟨by rfl, ?_⟩) ?_ ?_
      rotate_left
      · intro w'
        go_simp
        all_goals with_reducible rfl
      rotate_left
      · simp only [Act.put, List.setIfInBounds_toArray, List.set_cons_zero, List.set_cons_succ]
        rfl
      refine take_ (i := 22) (N := (some 110)) (v := ?_) (a' := ?_) #[true, true, true, true, true, true, true, true, true, true, true, true, true, true, true, true, true, true, true, true, true, true, true, false, false, false, false, false, false, false, false, false, false, false, false, false, false, false, false, false, false, false, false, false, false] rfl rfl (by kernel_rfl) (fun _ _ _ h => h) (Or.inl ⟨by rfl, ?_⟩) hHeld ?_ ?_
      rotate_left
      · intro w' hS'
        (try dsimp only at hS')
        have bH0 : w'.cell? ⟨w10.heap.size, 0, none⟩ = some (.int .i64 a2.f0) := (blk_cell (blk_below HbH.out hS') 0).trans rfl
        have bH1 : w'.cell? ⟨w10.heap.size, 1, none⟩ = some (.int .i64 a2.f1) := (blk_cell (blk_below HbH.out hS') 1).trans rfl
        go_simp
        all_goals with_reducible rfl
      rotate_left
      · simp only [Act.put, List.setIfInBounds_toArray, List.set_cons_zero, List.set_cons_succ]
        rfl
      refine take_ (i := 23) (N := (some 111)) (v := ?_) (a' := ?_) #[true, true, true, true, true, true, true, true, true, true, true, true, true, true, true, true, true, true, true, true, true, true, true, true, false, false, false, false, false, false, false, false, false, false, false, false, false, false, false, false, false, false, false, false, false] rfl rfl (by kernel_rfl) (fun _ _ _ h => h) (Or.inl ⟨by rfl, ?_⟩) hHeld ?_ ?_
      rotate_left
      · intro w' hS'
        (try dsimp only at hS')
        have bC0 : w'.cell? ⟨w1.heap.size + 1 + 1, 0, none⟩ = some (.int .i64 0) := (blk_cell (blk_below HbC.out hS') 0).trans rfl
        have bC1 : w'.cell? ⟨w1.heap.size + 1 + 1, 1, none⟩ = some (.int .i64 2) := (blk_cell (blk_below HbC.out hS') 1).trans rfl
        go_simp
        all_goals with_reducible rfl
      rotate_left
      · simp only [Act.put, List.setIfInBounds_toArray, List.set_cons_zero, List.set_cons_succ]
        rfl
      refine pure_ (i := 24) (N := (some 112)) (v := ?_) (a' := ?_) #[true, true, true, true, true, true, true, true, true, true, true, true, true, true, true, true, true, true, true, true, true, true, true, true, true, false, false, false, false, false, false, false, false, false, false, false, false, false, false, false, false, false, false, false, false] rfl rfl (by kernel_rfl) (fun _ _ _ h => h) (Or.inl ⟨by rfl, ?_⟩) ?_ ?_
      rotate_left
      · intro w'
        go_simp
        all_goals with_reducible rfl
      rotate_left
      · simp only [Act.put, List.setIfInBounds_toArray, List.set_cons_zero, List.set_cons_succ]
        rfl
      refine pure_ (i := 25) (N := (some 113)) (v := ?_) (a' := ?_) #[true, true, true, true, true, true, true, true, true, true, true, true, true, true, true, true, true, true, true, true, true, true, true, true, true, true, false, false, false, false, false, false, false, false, false, false, false, false, false, false, false, false, false, false, false] rfl rfl (by kernel_rfl) (fun _ _ _ h => h) (Or.inl ⟨by rfl, ?_⟩) ?_ ?_
      rotate_left
      · intro w'
        go_simp
        all_goals with_reducible rfl
      rotate_left
      · simp only [Act.put, List.setIfInBounds_toArray, List.set_cons_zero, List.set_cons_succ]
        rfl
      refine pure_ (i := 26) (N := (some 114)) (v := ?_) (a' := ?_) #[true, true, true, true, true, true, true, true, true, true, true, true, true, true, true, true, true, true, true, true, true, true, true, true, true, true, true, false, false, false, false, false, false, false, false, false, false, false, false, false, false, false, false, false, false] rfl rfl (by kernel_rfl) (fun _ _ _ h => h) (Or.inl ⟨by rfl, ?_⟩) ?_ ?_
      rotate_left
      · intro w'
        go_simp
        all_goals with_reducible rfl
      rotate_left
      · simp only [Act.put, List.setIfInBounds_toArray, List.set_cons_zero, List.set_cons_succ]
        rfl
      refine pure_ (i := 27) (N := (some 115)) (v := ?_) (a' := ?_) #[true, true, true, true, true, true, true, true, true, true, true, true, true, true, true, true, true, true, true, true, true, true, true, true, true, true, true, true, false, false, false, false, false, false, false, false, false, false, false, false, false, false, false, false, false] rfl rfl (by kernel_rfl) (fun _ _ _ h => h) (Or.inl ⟨by rfl, ?_⟩) ?_ ?_
      rotate_left
      · intro w'
        go_simp
        all_goals with_reducible rfl
      rotate_left
      · simp only [Act.put, List.setIfInBounds_toArray, List.set_cons_zero, List.set_cons_succ]
        rfl
      refine pure_ (i := 28) (N := (some 116)) (v := ?_) (a' := ?_) #[true, true, true, true, true, true, true, true, true, true, true, true, true, true, true, true, true, true, true, true, true, true, true, true, true, true, true, true, true, false, false, false, false, false, false, false, false, false, false, false, false, false, false, false, false] rfl rfl (by kernel_rfl) (fun _ _ _ h => h) (Or.inl ⟨by rfl, ?_⟩) ?_ ?_
      rotate_left
      · intro w'
        go_simp
        all_goals with_reducible rfl
      rotate_left
      · simp only [Act.put, List.setIfInBounds_toArray, List.set_cons_zero, List.set_cons_succ]
        rfl
      refine pure_ (i := 29) (N := (some 117)) (v := ?_) (a' := ?_) #[true, true, true, true, true, true, true, true, true, true, true, true, true, true, true, true, true, true, true, true, true, true, true, true, true, true, true, true, true, true, false, false, false, false, false, false, false, false, false, false, false, false, false, false, false] rfl rfl (by kernel_rfl) (fun _ _ _ h => h) (Or.inl ⟨by rfl, ?_⟩) ?_ ?_
      rotate_left
      · intro w'
        go_simp
        all_goals with_reducible rfl
      rotate_left
      · simp only [Act.put, List.setIfInBounds_toArray, List.set_cons_zero, List.set_cons_succ]
        rfl
      refine pure_ (i := 30) (N := (some 118)) (v := ?_) (a' := ?_) #[true, true, true, true, true, true, true, true, true, true, true, true, true, true, true, true, true, true, true, true, true, true, true, true, true, true, true, true, true, true, true, false, false, false, false, false, false, false, false, false, false, false, false, false, false] rfl rfl (by kernel_rfl) (fun _ _ _ h => h) (Or.inl ⟨by rfl, ?_⟩) ?_ ?_
      rotate_left
      · intro w'
        go_simp
        all_goals with_reducible rfl
      rotate_left
      · simp only [Act.put, List.setIfInBounds_toArray, List.set_cons_zero, List.set_cons_succ]
        rfl
      refine pure_ (i := 31) (N := (some 119)) (v := ?_) (a' := ?_) #[true, true, true, true, true, true, true, true, true, true, true, true, true, true, true, true, true, true, true, true, true, true, true, true, true, true, true, true, true, true, true, true, false, false, false, false, false, false, false, false, false, false, false, false, false] rfl rfl (by kernel_rfl) (fun _ _ _ h => h) (Or.inl ⟨by rfl, ?_⟩) ?_ ?_
      rotate_left
      · intro w'
        go_simp
        all_goals with_reducible rfl
      rotate_left
      · simp only [Act.put, List.setIfInBounds_toArray, List.set_cons_zero, List.set_cons_succ]
        rfl
      refine pure_ (i := 32) (N := (some 120)) (v := ?_) (a' := ?_) #[true, true, true, true, true, true, true, true, true, true, true, true, true, true, true, true, true, true, true, true, true, true, true, true, true, true, true, true, true, true, true, true, true, false, false, false, false, false, false, false, false, false, false, false, false] rfl rfl (by kernel_rfl) (fun _ _ _ h => h) (Or.inl ⟨by rfl, ?_⟩) ?_ ?_
      rotate_left
      · intro w'
        go_simp
        all_goals with_reducible rfl
      rotate_left
      · simp only [Act.put, List.setIfInBounds_toArray, List.set_cons_zero, List.set_cons_succ]
        rfl
      refine pure_ (i := 33) (N := (some 121)) (v := ?_) (a' := ?_) #[true, true, true, true, true, true, true, true, true, true, true, true, true, true, true, true, true, true, true, true, true, true, true, true, true, true, true, true, true, true, true, true, true, true, false, false, false, false, false, false, false, false, false, false, false] rfl rfl (by kernel_rfl) (fun _ _ _ h => h) (Or.inl ⟨by rfl, ?_⟩) ?_ ?_
      rotate_left
      · intro w'
        go_simp
        all_goals with_reducible rfl
      rotate_left
      · simp only [Act.put, List.setIfInBounds_toArray, List.set_cons_zero, List.set_cons_succ]
        rfl
      refine pure_ (i := 34) (N := (some 122)) (v := ?_) (a' := ?_) #[true, true, true, true, true, true, true, true, true, true, true, true, true, true, true, true, true, true, true, true, true, true, true, true, true, true, true, true, true, true, true, true, true, true, true, false, false, false, false, false, false, false, false, false, false] rfl rfl (by kernel_rfl) (fun _ _ _ h => h) (Or.inl ⟨by rfl, ?_⟩) ?_ ?_
      rotate_left
      · intro w'
        go_simp
        all_goals with_reducible rfl
      rotate_left
      · simp only [Act.put, List.setIfInBounds_toArray, List.set_cons_zero, List.set_cons_succ]
        rfl
      refine take_ (i := 36) (N := (some 124)) (v := ?_) (a' := ?_) #[true, true, true, true, true, true, true, true, true, true, true, true, true, true, true, true, true, true, true, true, true, true, true, true, true, true, true, true, true, true, true, true, true, true, true, false, true, false, false, false, false, false, false, false, false] rfl rfl (by kernel_rfl) (fun _ _ _ h => h) (Or.inl ⟨by rfl, ?_⟩) hHeld ?_ ?_
      rotate_left
      · intro w' hS'
        (try dsimp only at hS')
        have bA0 : w'.cell? ⟨w1.heap.size, 0, none⟩ = some (.int .i64 0) := (blk_cell (blk_below HbA.out hS') 0).trans rfl
        have bA1 : w'.cell? ⟨w1.heap.size, 1, none⟩ = some (.int .i64 1) := (blk_cell (blk_below HbA.out hS') 1).trans rfl
        go_simp
        all_goals with_reducible rfl
      rotate_left
      · simp only [Act.put, List.setIfInBounds_toArray, List.set_cons_zero, List.set_cons_succ]
        rfl
      refine join_ (σ := Value × Nat) 7 #[true, true, true, true, true, true, true, true, true, true, true, true, true, true, true, true, true, true, true, true, true, true, true, true, true, true, true, true, true, true, true, true, true, true, true, true, true, true, false, false, false, false, false, false, false] (fun s_ => [(123, s_.1), (125, .slice (some ⟨s_.2, 0, none⟩) 1 1)]) (fun s_ w' => Below W.heap.size W w' ∧ AllRow w' s_.1 [a1] ∧ w'.heap[s_.2]? = some (.cells #[.int .i64 0, .int .i64 1] 30 (0, 0))) ?_ ?_
      rotate_left
      · intro hCont
        refine two_ (i := 35) (j := 37) (Ni := some 123) (Nj := some 125) #[true, true, true, true, true, true, true, true, true, true, true, true, true, true, true, true, true, true, true, true, true, true, true, true, true, true, true, true, true, true, true, true, true, true, true, true, true, false, false, false, false, false, false, false, false] #[true, true, true, true, true, true, true, true, true, true, true, true, true, true, true, true, true, true, true, true, true, true, true, true, true, true, true, true, true, true, true, true, true, true, true, false, true, true, false, false, false, false, false, false, false] rfl rfl rfl rfl (by kernel_rfl) (by decide) (by decide) (fun K hK => ?_) (fun K hK => ?_)
        · refine goes_ Try.func17 (by kernel_rfl) rfl #[.pointer (some ⟨tb, 0, none⟩)] (by rfl) rfl rfl (by first | rfl | (simp only [List.map_toArray, List.map_cons, List.map_nil]; rfl)) ?_
          refine ((all_law (HT13.out.step hHeld) (by decide))).mono ?_
          rintro e w4 ⟨v4, rfl, hR4, hb4⟩
          refine ⟨_, rfl, ?_⟩
          have hrow := allRow_of hR4
          refine hK.out _ _ (below_then hHeld hHeld.size hb4) (fun hHeld => ?_)
          clear hK K
          refine norm_ (a' := ?_) ?_ ?_
          rotate_left
          · show Act.put _ (some 123) _ = _
            simp only [Act.put, List.setIfInBounds_toArray, List.set_cons_zero, List.set_cons_succ]
            rfl
          refine one_ (i := 37) (N := some 125) #[true, true, true, true, true, true, true, true, true, true, true, true, true, true, true, true, true, true, true, true, true, true, true, true, true, true, true, true, true, true, true, true, true, true, true, true, true, true, false, false, false, false, false, false, false] rfl rfl (by kernel_rfl) (by decide) (fun K hK => ?_)
          refine value_ (w1 := World.alloc w4 (.cells #[.int .i64 0, .int .i64 1] 30)) (v := .slice (some ⟨(w4).heap.size, 0, none⟩) 1 1) (by rfl) rfl (by first | (go_simp; done) | (go_simp; rfl)) ?_
          have hlit := blk_new w4 (.cells #[.int .i64 0, .int .i64 1] 30)
          replace hrow := hrow.below (below_alloc (Below.refl _ _) (.cells #[.int .i64 0, .int .i64 1] 30))
          refine hK.out _ _ (below_alloc hHeld _) (fun hHeld => ?_)
          clear hK K
          exact norm_ (by simp only [putAll, Act.put, List.setIfInBounds_toArray, List.set_cons_zero, List.set_cons_succ]; try rfl) (hCont (v4, _) _ ⟨hHeld, hrow, hlit⟩)
        · refine value_ (w1 := World.alloc W.drew (.cells #[.int .i64 0, .int .i64 1] 30)) (v := .slice (some ⟨(W.drew).heap.size, 0, none⟩) 1 1) (by rfl) rfl (by first | (go_simp; done) | (go_simp; rfl)) ?_
          have hlit := blk_new W.drew (.cells #[.int .i64 0, .int .i64 1] 30)
          refine hK.out _ _ (below_alloc hHeld _) (fun hHeld => ?_)
          clear hK K
          refine norm_ (a' := ?_) ?_ ?_
          rotate_left
          · show Act.put _ (some 125) _ = _
            simp only [Act.put, List.setIfInBounds_toArray, List.set_cons_zero, List.set_cons_succ]
            rfl
          refine one_ (i := 35) (N := some 123) #[true, true, true, true, true, true, true, true, true, true, true, true, true, true, true, true, true, true, true, true, true, true, true, true, true, true, true, true, true, true, true, true, true, true, true, true, true, true, false, false, false, false, false, false, false] rfl rfl (by kernel_rfl) (by decide) (fun K hK => ?_)
          refine goes_ Try.func17 (by kernel_rfl) rfl #[.pointer (some ⟨tb, 0, none⟩)] (by rfl) rfl rfl (by first | rfl | (simp only [List.map_toArray, List.map_cons, List.map_nil]; rfl)) ?_
          refine ((all_law (HT13.out.step hHeld) (by decide))).mono ?_
          rintro e w4 ⟨v4, rfl, hR4, hb4⟩
          refine ⟨_, rfl, ?_⟩
          have hrow := allRow_of hR4
          replace hlit := blk_below hlit hb4
          refine hK.out _ _ (below_then hHeld hHeld.size hb4) (fun hHeld => ?_)
          clear hK K
          exact norm_ (by simp only [putAll, Act.put, List.setIfInBounds_toArray, List.set_cons_zero, List.set_cons_succ]; try rfl) (hCont (v4, _) _ ⟨hHeld, hrow, hlit⟩)
      rintro ⟨v4, s4⟩ w4 ⟨hHeld, hRow, hLit⟩
      obtain ⟨A4, c4, rfl, hc4, hC4⟩ := hRow
      refine norm_ (a' := ?_) ?_ ?_
      rotate_left
      · simp only [putAll, Act.put, List.setIfInBounds_toArray, List.set_cons_zero, List.set_cons_succ]
        rfl
      refine one_ (i := 38) (N := (some 126)) #[true, true, true, true, true, true, true, true, true, true, true, true, true, true, true, true, true, true, true, true, true, true, true, true, true, true, true, true, true, true, true, true, true, true, true, true, true, true, true, false, false, false, false, false, false] rfl rfl (by kernel_rfl) (by decide) (fun K hK => ?_)
      refine goes_ Try.func16 (by kernel_rfl) rfl #[.slice A4 1 c4, .slice (some ⟨s4, 0, none⟩) 1 1] (by rfl) rfl rfl (by first | rfl | (simp only [List.map_toArray, List.map_cons, List.map_nil]; rfl)) ?_
      refine ((sameTxs_to A4 c4 [a1] _ _ [a1] true _ rfl hC4 hc4 (C_lit1 (t := a1) hLit) (Nat.le_refl _))).mono ?_
      rintro e w5 ⟨rfl, hb5⟩
      refine ⟨_, rfl, ?_⟩
      refine hK.out _ _ (below_then hHeld hHeld.size hb5.below) (fun hHeld => ?_)
      clear hK K
      refine norm_ (a' := ?_) ?_ ?_
      rotate_left
      · show Act.put _ (some 126) _ = _
        simp only [Act.put, List.setIfInBounds_toArray, List.set_cons_zero, List.set_cons_succ]
        rfl
      refine pure_ (i := 39) (N := (some 127)) (v := ?_) (a' := ?_) #[true, true, true, true, true, true, true, true, true, true, true, true, true, true, true, true, true, true, true, true, true, true, true, true, true, true, true, true, true, true, true, true, true, true, true, true, true, true, true, true, false, false, false, false, false] rfl rfl (by kernel_rfl) (fun _ _ _ h => h) (Or.inl ⟨by rfl, ?_⟩) ?_ ?_
      rotate_left
      · intro w'
        go_simp
        all_goals with_reducible rfl
      rotate_left
      · simp only [Act.put, List.setIfInBounds_toArray, List.set_cons_zero, List.set_cons_succ]
        rfl
      refine pure_ (i := 40) (N := (some 128)) (v := ?_) (a' := ?_) #[true, true, true, true, true, true, true, true, true, true, true, true, true, true, true, true, true, true, true, true, true, true, true, true, true, true, true, true, true, true, true, true, true, true, true, true, true, true, true, true, true, false, false, false, false] rfl rfl (by kernel_rfl) (fun _ _ _ h => h) (Or.inl ⟨by rfl, ?_⟩) ?_ ?_
      rotate_left
      · intro w'
        go_simp
        all_goals with_reducible rfl
      rotate_left
      · simp only [Act.put, List.setIfInBounds_toArray, List.set_cons_zero, List.set_cons_succ]
        rfl
      refine one_ (i := 41) (N := (some 129)) #[true, true, true, true, true, true, true, true, true, true, true, true, true, true, true, true, true, true, true, true, true, true, true, true, true, true, true, true, true, true, true, true, true, true, true, true, true, true, true, true, true, true, false, false, false] rfl rfl (by kernel_rfl) (by decide) (fun K hK => ?_)
      refine goes_ Try.func20 (by kernel_rfl) rfl #[.int .i64 0] (by rfl) rfl rfl (by first | rfl | (simp only [List.map_toArray, List.map_cons, List.map_nil]; rfl)) ?_
      refine ((num_any 0 _)).mono ?_
      rintro e w9 ⟨rfl, hb9⟩
      refine ⟨_, rfl, ?_⟩
      refine hK.out _ _ (below_then hHeld hHeld.size hb9.below) (fun hHeld => ?_)
      clear hK K
      refine norm_ (a' := ?_) ?_ ?_
      rotate_left
      · show Act.put _ (some 129) _ = _
        simp only [Act.put, List.setIfInBounds_toArray, List.set_cons_zero, List.set_cons_succ]
        rfl
      refine pure_ (i := 42) (N := (some 130)) (v := ?_) (a' := ?_) #[true, true, true, true, true, true, true, true, true, true, true, true, true, true, true, true, true, true, true, true, true, true, true, true, true, true, true, true, true, true, true, true, true, true, true, true, true, true, true, true, true, true, true, false, false] rfl rfl (by kernel_rfl) (fun _ _ _ h => h) (Or.inl ⟨by rfl, ?_⟩) ?_ ?_
      rotate_left
      · intro w'
        go_simp
        all_goals with_reducible rfl
      rotate_left
      · simp only [Act.put, List.setIfInBounds_toArray, List.set_cons_zero, List.set_cons_succ]
        rfl
      refine pure_ (i := 43) (N := (some 131)) (v := ?_) (a' := ?_) #[true, true, true, true, true, true, true, true, true, true, true, true, true, true, true, true, true, true, true, true, true, true, true, true, true, true, true, true, true, true, true, true, true, true, true, true, true, true, true, true, true, true, true, true, false] rfl rfl (by kernel_rfl) (fun _ _ _ h => h) (Or.inl ⟨by rfl, ?_⟩) ?_ ?_
      rotate_left
      · intro w'
        go_simp
        all_goals with_reducible rfl
      rotate_left
      · simp only [Act.put, List.setIfInBounds_toArray, List.set_cons_zero, List.set_cons_succ]
        rfl
      refine pure_ (i := 44) (N := (some 4)) (v := ?_) (a' := ?_) #[true, true, true, true, true, true, true, true, true, true, true, true, true, true, true, true, true, true, true, true, true, true, true, true, true, true, true, true, true, true, true, true, true, true, true, true, true, true, true, true, true, true, true, true, true] rfl rfl (by kernel_rfl) (fun _ _ _ h => h) (Or.inl ⟨by rfl, ?_⟩) ?_ ?_
      rotate_left
      · intro w'
        go_simp
        all_goals with_reducible rfl
      rotate_left
      · simp only [Act.put, List.setIfInBounds_toArray, List.set_cons_zero, List.set_cons_succ]
        rfl
      refine done_ (by kernel_rfl) ?_
      go_wp2
      go_ret
      exact ⟨rfl, below_then HB0.out HB0.out.size (below_then HB13.out HB13.out.size hHeld)⟩
end Go.Proofs.Ytmmamceijnnfdaa.LK
