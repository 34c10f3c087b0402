/-
  No cell of these rows narrows 'for every input' (looked for: loops, veiled, ifaces, maps, wideKeys, modest, calm, conditions, laid).
  DERIVED. THE GIVEN ROWS OF THIS SEAT. 7 by the template 'for every input the law returns true; each argument reads behind the call as it read before'; 0 by the template 'total and deterministic' (their statements: YtmednnpmkhgfpaaTotals.lean).
  GIVEN WITH THE SEED: the statements are not yours to turn. If you find one false, say at which input.
  Laid BY PROGRAM, IN A SANDBOX (cutbox-rows.mjs): the forced cells as the released guide's own fill.sh prints them over the translation 6fd4abe9c5e09b9d… (all of the seat's roots in one cut). By AI agents, Wed Nov 11 2026. No macro, syntax, notation, axiom, sorry.
-/
import Derived.Test.YtmednnpmkhgfpaaChecked
import GoSem.Claim
import GoSem.ClaimJoined
import GoSem.ClaimMapViews
import Derived.JoinedTies
import Derived.KernelRfl
namespace Go.Proofs.Ytmednnpmkhgfpaa
/- THE CELL 'sum', in the pinned program and in every row, IS THE sha256 OF THE DUMP (.gsa) THAT YtmednnpmkhgfpaaProg.lean LOADS. Nothing in Lean hashes anything: it is a label: what it is worth is what the hold of that sum in a sandbox is worth. -/
noncomputable def Try.pinned : Pinned := { name := "ytmednnpmkhgfpaa", sum := "6fd4abe9c5e09b9dc603da2133e8cb5448566fb494c0113157a92ac378fd9104", checked := Try.checked }
namespace Rows
def none {H : Type} : Left H := { results := [], args := [] }

/-- 'furlonglaw4.ShapeHoles': WHATEVER THE INPUT: true; the input reads as it did. -/
def shapeHolesSpec : ChangeSpec := { name := "shapeHoles", fn := fun _ => fun
  | [d1, d2, d3] => { results := [.lit (.bool true)], args := [d1, d2, d3] }
  | _ => none }
def shapeHolesRow : OpenClaim := { program := "ytmednnpmkhgfpaa", sum := "6fd4abe9c5e09b9dc603da2133e8cb5448566fb494c0113157a92ac378fd9104", func := "furlong/furlonglaw4.ShapeHoles", spec := "shapeHoles", unfollowed := true, recurses := true, apart := false }
def ShapeHolesSaid : Prop := shapeHolesRow.holds Try.pinned (OpenSpec.ofChange shapeHolesSpec)

/-- ITS FALSE NEIGHBOUR: 'it returns false'. Refute it at one input. -/
def shapeHolesWrong : ChangeSpec := { name := "shapeHoles", fn := fun _ => fun
  | [d1, d2, d3] => { results := [.lit (.bool false)], args := [d1, d2, d3] }
  | _ => none }
def ShapeHolesWrongFalsely : Prop := shapeHolesRow.holds Try.pinned (OpenSpec.ofChange shapeHolesWrong)

/-- 'furlonglaw4.ShapeTurned': WHATEVER THE INPUT: true; the input reads as it did. -/
def shapeTurnedSpec : ChangeSpec := { name := "shapeTurned", fn := fun _ => fun
  | [d1, d2, d3, d4] => { results := [.lit (.bool true)], args := [d1, d2, d3, d4] }
  | _ => none }
def shapeTurnedRow : OpenClaim := { program := "ytmednnpmkhgfpaa", sum := "6fd4abe9c5e09b9dc603da2133e8cb5448566fb494c0113157a92ac378fd9104", func := "furlong/furlonglaw4.ShapeTurned", spec := "shapeTurned", unfollowed := true, recurses := true, apart := false }
def ShapeTurnedSaid : Prop := shapeTurnedRow.holds Try.pinned (OpenSpec.ofChange shapeTurnedSpec)

/-- ITS FALSE NEIGHBOUR: 'it returns false'. Refute it at one input. -/
def shapeTurnedWrong : ChangeSpec := { name := "shapeTurned", fn := fun _ => fun
  | [d1, d2, d3, d4] => { results := [.lit (.bool false)], args := [d1, d2, d3, d4] }
  | _ => none }
def ShapeTurnedWrongFalsely : Prop := shapeTurnedRow.holds Try.pinned (OpenSpec.ofChange shapeTurnedWrong)

/-- 'furlonglaw4.Shapes': WHATEVER THE INPUT: true; the input reads as it did. -/
def shapesSpec : ChangeSpec := { name := "shapes", fn := fun _ => fun
  | [d1, d2, d3, d4] => { results := [.lit (.bool true)], args := [d1, d2, d3, d4] }
  | _ => none }
def shapesRow : OpenClaim := { program := "ytmednnpmkhgfpaa", sum := "6fd4abe9c5e09b9dc603da2133e8cb5448566fb494c0113157a92ac378fd9104", func := "furlong/furlonglaw4.Shapes", spec := "shapes", unfollowed := true, recurses := true, apart := false }
def ShapesSaid : Prop := shapesRow.holds Try.pinned (OpenSpec.ofChange shapesSpec)

/-- ITS FALSE NEIGHBOUR: 'it returns false'. Refute it at one input. -/
def shapesWrong : ChangeSpec := { name := "shapes", fn := fun _ => fun
  | [d1, d2, d3, d4] => { results := [.lit (.bool false)], args := [d1, d2, d3, d4] }
  | _ => none }
def ShapesWrongFalsely : Prop := shapesRow.holds Try.pinned (OpenSpec.ofChange shapesWrong)

/-- 'furlonglaw4.ShapeMeets': WHATEVER THE INPUT: true; the input reads as it did. -/
def shapeMeetsSpec : ChangeSpec := { name := "shapeMeets", fn := fun _ => fun
  | [d1, d2, d3] => { results := [.lit (.bool true)], args := [d1, d2, d3] }
  | _ => none }
def shapeMeetsRow : OpenClaim := { program := "ytmednnpmkhgfpaa", sum := "6fd4abe9c5e09b9dc603da2133e8cb5448566fb494c0113157a92ac378fd9104", func := "furlong/furlonglaw4.ShapeMeets", spec := "shapeMeets", unfollowed := true, recurses := true, apart := false }
def ShapeMeetsSaid : Prop := shapeMeetsRow.holds Try.pinned (OpenSpec.ofChange shapeMeetsSpec)

/-- ITS FALSE NEIGHBOUR: 'it returns false'. Refute it at one input. -/
def shapeMeetsWrong : ChangeSpec := { name := "shapeMeets", fn := fun _ => fun
  | [d1, d2, d3] => { results := [.lit (.bool false)], args := [d1, d2, d3] }
  | _ => none }
def ShapeMeetsWrongFalsely : Prop := shapeMeetsRow.holds Try.pinned (OpenSpec.ofChange shapeMeetsWrong)

/-- 'furlonglaw4.ShapeBoxes': WHATEVER THE INPUT: true; the input reads as it did. -/
def shapeBoxesSpec : ChangeSpec := { name := "shapeBoxes", fn := fun _ => fun
  | [d1, d2, d3] => { results := [.lit (.bool true)], args := [d1, d2, d3] }
  | _ => none }
def shapeBoxesRow : OpenClaim := { program := "ytmednnpmkhgfpaa", sum := "6fd4abe9c5e09b9dc603da2133e8cb5448566fb494c0113157a92ac378fd9104", func := "furlong/furlonglaw4.ShapeBoxes", spec := "shapeBoxes", unfollowed := true, recurses := true, apart := false }
def ShapeBoxesSaid : Prop := shapeBoxesRow.holds Try.pinned (OpenSpec.ofChange shapeBoxesSpec)

/-- ITS FALSE NEIGHBOUR: 'it returns false'. Refute it at one input. -/
def shapeBoxesWrong : ChangeSpec := { name := "shapeBoxes", fn := fun _ => fun
  | [d1, d2, d3] => { results := [.lit (.bool false)], args := [d1, d2, d3] }
  | _ => none }
def ShapeBoxesWrongFalsely : Prop := shapeBoxesRow.holds Try.pinned (OpenSpec.ofChange shapeBoxesWrong)

/-- 'furlonglaw4.ShapeForms': WHATEVER THE INPUT: true; the input reads as it did. -/
def shapeFormsSpec : ChangeSpec := { name := "shapeForms", fn := fun _ => fun
  | [d1, d2] => { results := [.lit (.bool true)], args := [d1, d2] }
  | _ => none }
def shapeFormsRow : OpenClaim := { program := "ytmednnpmkhgfpaa", sum := "6fd4abe9c5e09b9dc603da2133e8cb5448566fb494c0113157a92ac378fd9104", func := "furlong/furlonglaw4.ShapeForms", spec := "shapeForms", unfollowed := true, recurses := true, apart := false }
def ShapeFormsSaid : Prop := shapeFormsRow.holds Try.pinned (OpenSpec.ofChange shapeFormsSpec)

/-- ITS FALSE NEIGHBOUR: 'it returns false'. Refute it at one input. -/
def shapeFormsWrong : ChangeSpec := { name := "shapeForms", fn := fun _ => fun
  | [d1, d2] => { results := [.lit (.bool false)], args := [d1, d2] }
  | _ => none }
def ShapeFormsWrongFalsely : Prop := shapeFormsRow.holds Try.pinned (OpenSpec.ofChange shapeFormsWrong)

/-- 'furlonglaw4.ShapeLines': WHATEVER THE INPUT: true; the input reads as it did. -/
def shapeLinesSpec : ChangeSpec := { name := "shapeLines", fn := fun _ => fun
  | [d1, d2, d3, d4, d5] => { results := [.lit (.bool true)], args := [d1, d2, d3, d4, d5] }
  | _ => none }
def shapeLinesRow : OpenClaim := { program := "ytmednnpmkhgfpaa", sum := "6fd4abe9c5e09b9dc603da2133e8cb5448566fb494c0113157a92ac378fd9104", func := "furlong/furlonglaw4.ShapeLines", spec := "shapeLines", unfollowed := true, recurses := true, apart := false }
def ShapeLinesSaid : Prop := shapeLinesRow.holds Try.pinned (OpenSpec.ofChange shapeLinesSpec)

/-- ITS FALSE NEIGHBOUR: 'it returns false'. Refute it at one input. -/
def shapeLinesWrong : ChangeSpec := { name := "shapeLines", fn := fun _ => fun
  | [d1, d2, d3, d4, d5] => { results := [.lit (.bool false)], args := [d1, d2, d3, d4, d5] }
  | _ => none }
def ShapeLinesWrongFalsely : Prop := shapeLinesRow.holds Try.pinned (OpenSpec.ofChange shapeLinesWrong)

/- THE SECOND FORM. 'bulk': how many values and letters a reading holds, each counted each time it is reached (what is shared counts as often as it is met; a slice's spare places count too). A statement '..UptoSaid' is the law's where the arguments, and the package variables that the reading takes, are together of bulk at most 1048576: NARROWER than '..Said'. Prove '..Said' where nothing that the law and all that it calls make is longer than what came in: it says more and counts as full. Else prove '..UptoSaid'. A law counts once. -/
mutual
def uptoBulk {H : Type} : DataW H → Nat
  | .lit (.string bytes) => bytes.length + 1
  | .lit _ => 1
  | .nil => 1
  | .ptr d => uptoBulk d + 1
  | .slice elems spare => uptoBulkAll elems + uptoBulkAll spare + 1
  | .agg parts => uptoBulkAll parts + 1
  | .iface _ d => uptoBulk d + 1
  | .map entries => uptoBulkEntries entries + 1
  | .held _ => 1
def uptoBulkAll {H : Type} : List (DataW H) → Nat
  | [] => 0
  | d :: r => uptoBulk d + uptoBulkAll r
def uptoBulkEntries {H : Type} : List (Lit × DataW H) → Nat
  | [] => 0
  | x :: r => uptoBulkEntry x + uptoBulkEntries r
def uptoBulkEntry {H : Type} : Lit × DataW H → Nat
  | (.string bytes, d) => bytes.length + uptoBulk d + 1
  | (_, d) => uptoBulk d + 1
 end
def uptoSmall : (H : Type) → List (DataW H) → Bool := fun _ ds => decide (uptoBulkAll ds ≤ 1048576)
def OpenSpec.upto (s : _root_.Go.ChangeSpec) : _root_.Go.OpenSpec := { _root_.Go.OpenSpec.ofChange s with cond := some uptoSmall }

/-- 'furlonglaw4.ShapeHoles', WHERE WHAT IT READS IS OF BULK AT MOST 1048576: true; the input reads as it did. -/
def shapeHolesUptoRow : OpenClaim := { program := "ytmednnpmkhgfpaa", sum := "6fd4abe9c5e09b9dc603da2133e8cb5448566fb494c0113157a92ac378fd9104", func := "furlong/furlonglaw4.ShapeHoles", spec := "shapeHoles", unfollowed := true, recurses := true, apart := false, narrowed := true }
def ShapeHolesUptoSaid : Prop := shapeHolesUptoRow.holds Try.pinned (OpenSpec.upto shapeHolesSpec)

/-- 'furlonglaw4.ShapeTurned', WHERE WHAT IT READS IS OF BULK AT MOST 1048576: true; the input reads as it did. -/
def shapeTurnedUptoRow : OpenClaim := { program := "ytmednnpmkhgfpaa", sum := "6fd4abe9c5e09b9dc603da2133e8cb5448566fb494c0113157a92ac378fd9104", func := "furlong/furlonglaw4.ShapeTurned", spec := "shapeTurned", unfollowed := true, recurses := true, apart := false, narrowed := true }
def ShapeTurnedUptoSaid : Prop := shapeTurnedUptoRow.holds Try.pinned (OpenSpec.upto shapeTurnedSpec)

/-- 'furlonglaw4.Shapes', WHERE WHAT IT READS IS OF BULK AT MOST 1048576: true; the input reads as it did. -/
def shapesUptoRow : OpenClaim := { program := "ytmednnpmkhgfpaa", sum := "6fd4abe9c5e09b9dc603da2133e8cb5448566fb494c0113157a92ac378fd9104", func := "furlong/furlonglaw4.Shapes", spec := "shapes", unfollowed := true, recurses := true, apart := false, narrowed := true }
def ShapesUptoSaid : Prop := shapesUptoRow.holds Try.pinned (OpenSpec.upto shapesSpec)

/-- 'furlonglaw4.ShapeMeets', WHERE WHAT IT READS IS OF BULK AT MOST 1048576: true; the input reads as it did. -/
def shapeMeetsUptoRow : OpenClaim := { program := "ytmednnpmkhgfpaa", sum := "6fd4abe9c5e09b9dc603da2133e8cb5448566fb494c0113157a92ac378fd9104", func := "furlong/furlonglaw4.ShapeMeets", spec := "shapeMeets", unfollowed := true, recurses := true, apart := false, narrowed := true }
def ShapeMeetsUptoSaid : Prop := shapeMeetsUptoRow.holds Try.pinned (OpenSpec.upto shapeMeetsSpec)

/-- 'furlonglaw4.ShapeBoxes', WHERE WHAT IT READS IS OF BULK AT MOST 1048576: true; the input reads as it did. -/
def shapeBoxesUptoRow : OpenClaim := { program := "ytmednnpmkhgfpaa", sum := "6fd4abe9c5e09b9dc603da2133e8cb5448566fb494c0113157a92ac378fd9104", func := "furlong/furlonglaw4.ShapeBoxes", spec := "shapeBoxes", unfollowed := true, recurses := true, apart := false, narrowed := true }
def ShapeBoxesUptoSaid : Prop := shapeBoxesUptoRow.holds Try.pinned (OpenSpec.upto shapeBoxesSpec)

/-- 'furlonglaw4.ShapeForms', WHERE WHAT IT READS IS OF BULK AT MOST 1048576: true; the input reads as it did. -/
def shapeFormsUptoRow : OpenClaim := { program := "ytmednnpmkhgfpaa", sum := "6fd4abe9c5e09b9dc603da2133e8cb5448566fb494c0113157a92ac378fd9104", func := "furlong/furlonglaw4.ShapeForms", spec := "shapeForms", unfollowed := true, recurses := true, apart := false, narrowed := true }
def ShapeFormsUptoSaid : Prop := shapeFormsUptoRow.holds Try.pinned (OpenSpec.upto shapeFormsSpec)

/-- 'furlonglaw4.ShapeLines', WHERE WHAT IT READS IS OF BULK AT MOST 1048576: true; the input reads as it did. -/
def shapeLinesUptoRow : OpenClaim := { program := "ytmednnpmkhgfpaa", sum := "6fd4abe9c5e09b9dc603da2133e8cb5448566fb494c0113157a92ac378fd9104", func := "furlong/furlonglaw4.ShapeLines", spec := "shapeLines", unfollowed := true, recurses := true, apart := false, narrowed := true }
def ShapeLinesUptoSaid : Prop := shapeLinesUptoRow.holds Try.pinned (OpenSpec.upto shapeLinesSpec)

end Rows
end Go.Proofs.Ytmednnpmkhgfpaa
