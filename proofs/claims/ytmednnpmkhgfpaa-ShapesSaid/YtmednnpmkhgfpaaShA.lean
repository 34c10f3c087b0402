/- Plain words on rings and features: what may be. -/
import Derived.Test.YtmednnpmkhgfpaaShP
import Derived.Test.YtmednnpmkhgfpaaGeoA0
namespace Go.Proofs.Ytmednnpmkhgfpaa.SH
open Go Go.RowKit Go.Proofs.YtmednnpmkhgfpaaW.PrintWords Go.Proofs.Ytmednnpmkhgfpaa.PShapes Go.Proofs.Ytmednnpmkhgfpaa.Geo
set_option linter.unusedVariables false

def ptP (p : S23) : Bool := ptB p.f0 p.f1
def eqP (p q : S23) : Bool := p.f0 == q.f0 && p.f1 == q.f1
theorem eqP_iff {p q : S23} : eqP p q = true ↔ p = q := by
  cases p; cases q; simp [eqP]
theorem eqP_false {p q : S23} : eqP p q = false ↔ p ≠ q := by rw [← Bool.not_eq_true, eqP_iff]
def rdP (ps : List S23) (k : Nat) : S23 := ps.getD k z23
theorem rdP_mem {ps : List S23} {k : Nat} (h : k < ps.length) : rdP ps k ∈ ps := by unfold rdP; simp [h]
def nxt (n k : Nat) : Nat := if k + 1 = n then 0 else k + 1
theorem nxt_lt {n k : Nat} (h : k < n) : nxt n k < n := by unfold nxt; split <;> omega
/-- may a ring's place k be: its point, and its neighbor another one -/
def okAt (ps : List S23) (closed : Bool) (k : Nat) : Bool :=
  ptP (rdP ps k) && !((decide (0 < nxt ps.length k) || closed) && eqP (rdP ps k) (rdP ps (nxt ps.length k)))
def ringB (ps : List S23) (least : Int) (closed : Bool) : Bool :=
  decide (least ≤ ps.length) && decide (ps.length ≤ 16) && (List.range ps.length).all (okAt ps closed)
theorem ring_short {ps : List S23} {least : Int} {closed : Bool} (h : (ps.length : Int) < least) : ringB ps least closed = false := by
  unfold ringB
  rw [decide_eq_false (by omega : ¬ least ≤ ps.length)]
  rfl
theorem ring_long {ps : List S23} {least : Int} {closed : Bool} (h : 16 < ps.length) : ringB ps least closed = false := by
  unfold ringB
  rw [decide_eq_false (by omega : ¬ ps.length ≤ 16)]
  simp
theorem ring_bad {ps : List S23} {least : Int} {closed : Bool} {k : Nat} (hk : k < ps.length) (h : okAt ps closed k = false) : ringB ps least closed = false := by
  unfold ringB
  rw [Bool.and_eq_false_iff]
  right
  rw [List.all_eq_false]
  exact ⟨k, List.mem_range.2 hk, by simp [h]⟩
theorem ring_good {ps : List S23} {least : Int} {closed : Bool} (h1 : least ≤ ps.length) (h2 : ps.length ≤ 16) (h : ∀ k, k < ps.length → okAt ps closed k = true) : ringB ps least closed = true := by
  unfold ringB
  rw [decide_eq_true h1, decide_eq_true h2, Bool.true_and, Bool.true_and, List.all_eq_true]
  exact fun k hk => h k (List.mem_range.1 hk)
theorem ring_iff {ps : List S23} {least : Int} {closed : Bool} : ringB ps least closed = true ↔ least ≤ ps.length ∧ ps.length ≤ 16 ∧ ∀ k, k < ps.length → okAt ps closed k = true := by
  unfold ringB
  simp [and_assoc]
structure Ft where
  id : Int
  shape : Int
  rings : List (List S23)
def rdR (rs : List (List S23)) (k : Nat) : List S23 := rs.getD k []
/-- P4.1 -/
def mayB (f : Ft) : Bool :=
  decide (1 ≤ f.id) && decide (f.id ≤ 65535) && decide (1 ≤ f.rings.length) && decide (f.rings.length ≤ 4) &&
    (if f.shape = 0 then decide (f.rings.length = 1) && decide ((rdR f.rings 0).length = 1) && ptP (rdP (rdR f.rings 0) 0)
     else if f.shape = 1 then decide (f.rings.length = 1) && ringB (rdR f.rings 0) 2 false
     else if f.shape = 2 then f.rings.all fun ps => ringB ps 3 true else false)
/-- A feature's rings lie behind an address, to be read. -/
abbrev RC (w : World) (A : Option Addr) (rs : List (List S23)) : Prop := Kd.C (Kd.slice 23 k23) w A rs.length rs
abbrev PC (w : World) (A : Option Addr) (ps : List S23) : Prop := Kd.C k23 w A ps.length ps
/-- What stands at a point. -/
def AtP (w : World) (ad : Addr) (p : S23) : Prop := w.cell? ad = some (.int .i64 p.f0) ∧ w.cell? ⟨ad.block, ad.off + 1, none⟩ = some (.int .i64 p.f1)
theorem at_p {w : World} {A : Option Addr} {ps : List S23} (h : PC w A ps) (k : Nat) (hk : k < ps.length) : ∃ ad, A = some ad ∧ AtP w (ad.add (k * 2)) (rdP ps k) := by
  obtain ⟨ad, e, h1, h2⟩ := at_T23 h (k : Int) (by omega) (by omega)
  exact ⟨ad, e, h1, h2⟩
theorem at_r {w : World} {A : Option Addr} {rs : List (List S23)} (h : RC w A rs) (k : Nat) (hk : k < rs.length) : ∃ ad A0 c0, A = some ad ∧ w.cell? (ad.add k) = some (.slice A0 (rdR rs k).length c0) ∧ (rdR rs k).length ≤ c0 ∧ PC w A0 (rdR rs k) := by
  obtain ⟨ad, A0, c0, e, h1, h2, h3⟩ := at_L2 h (k : Int) (by omega) (by omega)
  exact ⟨ad, A0, c0, e, h1, h2, h3⟩
theorem AtP.below {w w1 : World} {ad : Addr} {p : S23} (h : AtP w ad p) (hb : Below w.heap.size w w1) : AtP w1 ad p := ⟨pw_cell_below hb h.1, pw_cell_below hb h.2⟩
end Go.Proofs.Ytmednnpmkhgfpaa.SH
