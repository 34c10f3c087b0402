/- A region that draws its order, inside a round of a loop over a function: what the plain walk shows of it holds there too. -/
import Derived.Test.YtmednnpmkhgfpaaShL
namespace Go.Proofs.Ytmednnpmkhgfpaa.SH
open Go Go.RowKit Go.Proofs.YtmednnpmkhgfpaaW.PrintWords Go.Proofs.YtmednnpmkhgfpaaW.PrintLast
set_option linter.unusedVariables false
set_option linter.unusedSimpArgs false

theorem noPanic {P : Program} {c : Code} {K : Act → World → Prop} {Q : Exit → Act → World → Prop} {a : Act} {w : World} (h : c.wp P (Exit.then K (fun _ _ _ => False)) a w) : c.wp P (Exit.then K Q) a w :=
  (wpIn_wide (n := 1)).1 (wpIn_mono ((wpIn_wide (n := 1)).2 h) (fun e a w h => by cases e <;> first | exact h | exact False.elim h))
def noDefers (ops : Array Oper) : Bool := ops.all fun o => match o.op with | .defer _ => false | _ => true
theorem noDefers_at {ops : Array Oper} (h : noDefers ops = true) {i : Nat} {o : Oper} (ho : ops[i]? = some o) : ∀ c, o.op ≠ .defer c := by
  intro c e
  obtain ⟨hlt, he⟩ := Array.getElem?_eq_some_iff.1 ho
  have := Array.all_eq_true.1 h i hlt
  rw [he, e] at this
  cases this
section
variable {l n : Nat} {P : Program} {Q : Exit → Act → World → Prop} {md : Region.Mode} {ops : Array Oper}
theorem upon_in {o : Oper} {a : Act} {K : Act → World → Prop} {r : Result Next} (h : o.upon P a K Q r) : o.uponIn (Fence.wide.inRound l) n P a K Q r := by
  cases r with
  | ok x w' =>
    cases x with
    | value v => exact h
    | skip => exact h
    | defer d => exact h
    | enter f args => exact ⟨fun h => (by cases h), CallsIn.inRound l (callsIn_wide.2 h)⟩
    | row row args => exact ⟨fun h => (by cases h), fun c cs _ => let ⟨v, w', r, s⟩ := h c cs; ⟨v, w', r, stepsIn_wide.2 s⟩⟩
    | _ => exact False.elim h
  | halt x w' => cases x <;> first | exact h | exact False.elim h
theorem opIn (hd : noDefers ops = true) (hl : ¬ LetsOut Q) {i : Nat} {K : Act → World → Prop} {a : Act} {w : World} (h : wpOp P ops Q i K a w) : wpOpIn (Fence.wide.inRound l) n P ops Q i K a w := by
  unfold wpOp at h
  unfold wpOpIn
  cases ho : ops[i]? with
  | none => rw [ho] at h; exact h
  | some o =>
    rw [ho] at h
    dsimp only at h ⊢
    split
    · rename_i hw
      rw [if_pos hw] at h
      rcases h with h | h
      · refine ⟨fun _ _ => trivial, ?_⟩
        rw [Oper.semAt_eq _ _ _ (noDefers_at hd ho)]
        exact upon_in h
      · exact absurd h.2 hl
    · rename_i hw
      rw [if_neg hw] at h
      exact ⟨fun _ _ => trivial, h⟩
theorem anyIn (hd : noDefers ops = true) (hl : ¬ LetsOut Q) : ∀ (fuel : Nat) (listed : Array Bool) (a : Act) (w : World), wpAny P md ops Q fuel listed a w → wpAnyIn (Fence.wide.inRound l) n P md ops Q fuel listed a w
  | 0, _, _, _, h => h
  | fuel + 1, _, _, _, h => ⟨h.1, fun i hi => opIn hd hl (wpOp_mono (fun a' w' h' => anyIn hd hl fuel _ a' w' h') (h.2 i hi))⟩
end
theorem noLet {K : Act → World → Prop} : ¬ LetsOut (Exit.then K (fun _ _ _ => False)) := by
  rintro ⟨a, w, h⟩
  exact h
/-- 'start_' inside a round -/
theorem startIn_ {l n m : Nat} {P : Program} {ops : Array Oper} {Q : Exit → Act → World → Prop} {S : World → Prop} {ds : List Nat} {id : Nat} {a : Act} {w : World} (hd : noDefers ops = true) (bs : Array Bool) (hm : P.follows .mixedOrders = true) (hn : ops.size = m) (hb : Array.replicate m false = bs) (hS : S w.drew)
    (h : S w.drew → wpAnyLast P .any ops (Exit.then (fun a w => Q .normal a w) (fun _ _ _ => False)) S ds m bs a w.drew) : (Code.region id ops true).wpIn (Fence.wide.inRound l) n P Q a w := by
  subst hn
  subst hb
  exact wpIn_mono (wpIn_region_any hm (anyIn hd noLet _ _ _ _ (wpAny_of_last _ _ _ _ (h hS)))) (fun e a w h => by cases e <;> first | exact h | exact False.elim h)
end Go.Proofs.Ytmednnpmkhgfpaa.SH
