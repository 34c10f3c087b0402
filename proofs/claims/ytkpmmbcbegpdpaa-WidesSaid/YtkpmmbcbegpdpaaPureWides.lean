/- The program's calls on 128 bits answer as the reference's: the plain law beneath Wides, and what the call answers. No condition but that each number is of its kind. -/
import Derived.Test.YtkpmmbcbegpdpaaWidesR
import Derived.Test.YtkpmmbcbegpdpaaPWidesm4
namespace Go.Proofs.Ytkpmmbcbegpdpaa.PWides
open Go Go.RowKit Go.Proofs.Ytkpmmbcbegpdpaa.Wd Go.Proofs.YtkpmmbcbegpdpaaW.PrintWords Go.Proofs.YtkpmmbcbegpdpaaW.PrintLast

theorem wides_f (a b x0 x1 y0 y1 : Int) (p0 : 0 ≤ a) (q0 : a < 18446744073709551616) (p1 : 0 ≤ b) (q1 : b < 18446744073709551616) (p2 : 0 ≤ x0) (q2 : x0 < 18446744073709551616) (p3 : 0 ≤ x1) (q3 : x1 < 18446744073709551616)
    (p4 : 0 ≤ y0) (q4 : y0 < 18446744073709551616) (p5 : 0 ≤ y1) (q5 : y1 < 18446744073709551616) : furlonglaw2_Wides.f 10 a b x0 x1 y0 y1 = some true := by
  unfold furlonglaw2_Wides.f
  rw [add_f _ _ _ _ p2 q2 p3 q3 p4 q4 p5 q5, refAdd_f _ _ _ _ p2 q2 p3 q3 p4 q4 p5 q5]
  obtain ⟨u, hu⟩ : ∃ u, (if num x0 x1 + num y0 y1 < 340282366920938463463374607431768211456 then some (hi (num x0 x1 + num y0 y1), lo (num x0 x1 + num y0 y1), true) else some (0, 0, false)) = some u := by
    split <;> exact ⟨_, rfl⟩
  rw [hu, Option.bind_some, Option.bind_some, mul_f a b p0 q0 p1 q1, refMul_f a b p0 q0 p1 q1, Option.bind_some, Option.bind_some]
  rw [if_pos (by simp), if_pos (by simp), if_pos (by simp), cmp_f _ _ _ _ _ (by omega) p3 q3 p5 q5, refCmp_f _ _ _ _ p3 q3 p5 q5, Option.bind_some, Option.bind_some, if_pos rfl, awake_f 10 (by omega), Option.bind_some]

theorem wides_calls (a b x0 x1 y0 y1 : Int) (w : World) (wa : (Lit.int .u64 a).wf = true) (wb : (Lit.int .u64 b).wf = true) (wx0 : (Lit.int .u64 x0).wf = true) (wx1 : (Lit.int .u64 x1).wf = true) (wy0 : (Lit.int .u64 y0).wf = true) (wy1 : (Lit.int .u64 y1).wf = true) :
    Calls Try.prog 4 #[.int .u64 a, .int .u64 b, .agg #[.int .u64 x0, .int .u64 x1], .agg #[.int .u64 y0, .int .u64 y1]] w fun e w' => e = .returned (.bool true) ∧ Below w.heap.size w w' :=
  furlonglaw2_Wides.calls 10 a b x0 x1 y0 y1 true w (wides_f a b x0 x1 y0 y1 (wf64 wa).1 (wf64 wa).2 (wf64 wb).1 (wf64 wb).2 (wf64 wx0).1 (wf64 wx0).2 (wf64 wx1).1 (wf64 wx1).2 (wf64 wy0).1 (wf64 wy0).2 (wf64 wy1).1 (wf64 wy1).2)
end Go.Proofs.Ytkpmmbcbegpdpaa.PWides
