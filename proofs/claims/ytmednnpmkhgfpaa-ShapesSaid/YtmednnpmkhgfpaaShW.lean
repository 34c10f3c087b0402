/- Steps through a part that leaves its order open, each in one line: a value, a reading, a step that is skipped, a call. -/
import Derived.Test.YtmednnpmkhgfpaaWWords
import Derived.Test.YtmednnpmkhgfpaaWLast
namespace Go.Proofs.Ytmednnpmkhgfpaa.SH
open Go Go.RowKit Go.Proofs.YtmednnpmkhgfpaaW.PrintWords Go.Proofs.YtmednnpmkhgfpaaW.PrintLast
section
variable {P : Program} {ops : Array Oper} {Q : Exit → Act → World → Prop} {md : Region.Mode} {S : World → Prop} {ds : List Nat}
theorem cv_ {f : FuncId} {args : Array Value} {w : World} {v v' : Value} (h : Calls P f args w fun e w' => e = .returned v ∧ Below w.heap.size w w') (e : v = v') : Calls P f args w fun e w' => e = .returned v' ∧ Below w.heap.size w w' := by
  subst e
  exact h
theorem be_ {id : Nat} (n : Nat) (ds : List Nat) {a : Act} {W : World} (hn : ops.size = n) (hm : P.follows .mixedOrders = true)
    (h : Below W.heap.size W W.drew → wpAnyLast P .any ops Q (fun w' => Below W.heap.size W w') ds n (Array.replicate n false) a W.drew) : (Code.region id ops true).wp P Q a W :=
  start_ (n := n) _ hm hn rfl (below_drew (Below.refl _ _)) h
theorem pu_ (i : Nat) (N : Tmp) {oi : Oper} {v : Value} {fuel : Nat} {l : Array Bool} {a a' : Act} {w : World} (hi : ops[i]? = some oi) (hN : oi.dst = some N) (hc : anyB md ops l (l.setIfInBounds i true) i = true)
    (hQ : ∀ c a w, Q (.panic c) (a.put oi.dst v) w → Q (.panic c) a w) (hy : Region.wanted oi (yielded ops a.tmps) = true)
    (hv : ∀ w, (execOp a.eval oi).run P w = .ok (.value v) w)
    (ha : a.put (some N) v = a')
    (h : wpAnyLast P md ops Q S ds fuel (l.setIfInBounds i true) a' w) : wpAnyLast P md ops Q S ds (fuel + 1) l a w :=
  pure_ _ hi hN hc hQ (Or.inl ⟨hy, hv⟩) ha h
theorem no_ (i : Nat) (N : Option Tmp) {oi : Oper} {fuel : Nat} {l : Array Bool} {a a' : Act} {w : World} (hi : ops[i]? = some oi) (hN : oi.dst = N) (hc : anyB md ops l (l.setIfInBounds i true) i = true)
    (hQ : ∀ c a w, Q (.panic c) (a.put oi.dst undef) w → Q (.panic c) a w) (hy : Region.wanted oi (yielded ops a.tmps) = false)
    (ha : a.put N undef = a')
    (h : wpAnyLast P md ops Q S ds fuel (l.setIfInBounds i true) a' w) : wpAnyLast P md ops Q S ds (fuel + 1) l a w :=
  pure_ _ hi hN hc hQ (Or.inr ⟨hy, rfl⟩) ha h
theorem tk_ (i : Nat) (N : Tmp) {oi : Oper} {v : Value} {fuel : Nat} {l : Array Bool} {a a' : Act} {w : World} (hS : S w) (hi : ops[i]? = some oi) (hN : oi.dst = some N) (hc : takeB md ops ds l (l.setIfInBounds i true) i = true)
    (hQ : ∀ c a w, Q (.panic c) (a.put oi.dst v) w → Q (.panic c) a w) (hy : Region.wanted oi (yielded ops a.tmps) = true) (hv : ∀ w, S w → (execOp a.eval oi).run P w = .ok (.value v) w)
    (ha : a.put (some N) v = a')
    (h : wpAnyLast P md ops Q S ds fuel (l.setIfInBounds i true) a' w) : wpAnyLast P md ops Q S ds (fuel + 1) l a w :=
  take_ _ hi hN hc hQ (Or.inl ⟨hy, hv⟩) hS ha h
theorem cl_ (i : Nat) (N : Tmp) {oi : Oper} {v : Value} {fuel : Nat} {l : Array Bool} {a a' : Act} {w W : World} {f : FuncId} {fn : Func} {as : Array Operand} {ts : Array TypeId} {args : Array Value} (hf : P.funcs[f]? = some fn) (hS : Below W.heap.size W w) (hcall : Calls P f args w fun e w' => e = .returned v ∧ Below w.heap.size w w')
    (hi : ops[i]? = some oi) (hN : oi.dst = some N) (hc : readyB md ops l (l.setIfInBounds i true) i = true) (hd : i ∉ ds)
    (hname : (fn.name == "runtime.NumGoroutine") = false) (hb : fn.body.isSome = true) (hw : Region.wanted oi (yielded ops a.tmps) = true)
    (hop : oi.op = .call { callee := .value (.func f), args := as, argTypes := ts }) (hargs : as.map a.eval = args)
    (ha : a.put (some N) v = a')
    (h : ∀ w', Below w.heap.size w w' → Below W.heap.size W w' → wpAnyLast P md ops Q (fun w' => Below W.heap.size W w') ds fuel (l.setIfInBounds i true) a' w') : wpAnyLast P md ops Q (fun w' => Below W.heap.size W w') ds (fuel + 1) l a w := by
  refine one_ (i := i) (N := some N) _ hi hN hc hd (fun K hK => ?_)
  refine goes_ hf hname hb args hw hN hop hargs (hcall.mono ?_)
  rintro e w' ⟨rfl, hb⟩
  have h2 := below_then hS hS.size hb
  refine ⟨_, rfl, hK.out _ _ h2 (fun _ => ?_)⟩
  rw [ha]
  exact h w' hb h2
end
end Go.Proofs.Ytmednnpmkhgfpaa.SH
