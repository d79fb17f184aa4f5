/-
  No cell of these rows narrows 'for every input' (looked for: loops, veiled, ifaces, maps, wideKeys, modest, calm, conditions, laid).
  DERIVED. THE GIVEN ROWS OF THIS SEAT. 5 by the template 'for every input the law returns true; each argument reads behind the call as it read before'; 0 by the template 'total and deterministic' (their statements: YtcbkfkgagcfcoaaTotals.lean).
  GIVEN WITH THE SEED: the statements are not yours to turn. If you find one false, say at which input.
  Laid BY PROGRAM, IN A SANDBOX (cutbox-rows.mjs): the forced cells as the released guide's own fill.sh prints them over the translation 7f0aa04178760cad… (all of the seat's roots in one cut). By AI agents, Wed Nov 11 2026. No macro, syntax, notation, axiom, sorry.
-/
import Derived.Test.YtcbkfkgagcfcoaaChecked
import GoSem.Claim
import GoSem.ClaimJoined
import GoSem.ClaimMapViews
import Derived.JoinedTies
import Derived.KernelRfl
namespace Go.Proofs.Ytcbkfkgagcfcoaa
/- THE CELL 'sum', in the pinned program and in every row, IS THE sha256 OF THE DUMP (.gsa) THAT YtcbkfkgagcfcoaaProg.lean LOADS. Nothing in Lean hashes anything: it is a label: what it is worth is what the hold of that sum in a sandbox is worth. -/
noncomputable def Try.pinned : Pinned := { name := "ytcbkfkgagcfcoaa", sum := "7f0aa04178760cad777632a76e749335545ecee89f734f3c460e173c26b6b0a5", checked := Try.checked }
namespace Rows
def none {H : Type} : Left H := { results := [], args := [] }

/-- 'learnerlaw06.MealyValid': WHATEVER THE INPUT: true; the input reads as it did. -/
def mealyValidSpec : ChangeSpec := { name := "mealyValid", fn := fun _ => fun
  | [d] => { results := [.lit (.bool true)], args := [d] }
  | _ => none }
def mealyValidRow : OpenClaim := { program := "ytcbkfkgagcfcoaa", sum := "7f0aa04178760cad777632a76e749335545ecee89f734f3c460e173c26b6b0a5", func := "learner/learnerlaw06.MealyValid", spec := "mealyValid", unfollowed := true, recurses := true, apart := false }
def MealyValidSaid : Prop := mealyValidRow.holds Try.pinned (OpenSpec.ofChange mealyValidSpec)

/-- ITS FALSE NEIGHBOUR: 'it returns false'. Refute it at one input. -/
def mealyValidWrong : ChangeSpec := { name := "mealyValid", fn := fun _ => fun
  | [d] => { results := [.lit (.bool false)], args := [d] }
  | _ => none }
def MealyValidWrongFalsely : Prop := mealyValidRow.holds Try.pinned (OpenSpec.ofChange mealyValidWrong)

/-- 'learnerlaw06.MealyJoins': WHATEVER THE INPUT: true; the input reads as it did. -/
def mealyJoinsSpec : ChangeSpec := { name := "mealyJoins", fn := fun _ => fun
  | [d1, d2, d3] => { results := [.lit (.bool true)], args := [d1, d2, d3] }
  | _ => none }
def mealyJoinsRow : OpenClaim := { program := "ytcbkfkgagcfcoaa", sum := "7f0aa04178760cad777632a76e749335545ecee89f734f3c460e173c26b6b0a5", func := "learner/learnerlaw06.MealyJoins", spec := "mealyJoins", unfollowed := true, recurses := true, apart := false }
def MealyJoinsSaid : Prop := mealyJoinsRow.holds Try.pinned (OpenSpec.ofChange mealyJoinsSpec)

/-- ITS FALSE NEIGHBOUR: 'it returns false'. Refute it at one input. -/
def mealyJoinsWrong : ChangeSpec := { name := "mealyJoins", fn := fun _ => fun
  | [d1, d2, d3] => { results := [.lit (.bool false)], args := [d1, d2, d3] }
  | _ => none }
def MealyJoinsWrongFalsely : Prop := mealyJoinsRow.holds Try.pinned (OpenSpec.ofChange mealyJoinsWrong)

/-- 'learnerlaw06.MealyTrims': WHATEVER THE INPUT: true; the input reads as it did. -/
def mealyTrimsSpec : ChangeSpec := { name := "mealyTrims", fn := fun _ => fun
  | [d1, d2] => { results := [.lit (.bool true)], args := [d1, d2] }
  | _ => none }
def mealyTrimsRow : OpenClaim := { program := "ytcbkfkgagcfcoaa", sum := "7f0aa04178760cad777632a76e749335545ecee89f734f3c460e173c26b6b0a5", func := "learner/learnerlaw06.MealyTrims", spec := "mealyTrims", unfollowed := true, recurses := true, apart := false }
def MealyTrimsSaid : Prop := mealyTrimsRow.holds Try.pinned (OpenSpec.ofChange mealyTrimsSpec)

/-- ITS FALSE NEIGHBOUR: 'it returns false'. Refute it at one input. -/
def mealyTrimsWrong : ChangeSpec := { name := "mealyTrims", fn := fun _ => fun
  | [d1, d2] => { results := [.lit (.bool false)], args := [d1, d2] }
  | _ => none }
def MealyTrimsWrongFalsely : Prop := mealyTrimsRow.holds Try.pinned (OpenSpec.ofChange mealyTrimsWrong)

/-- 'learnerlaw06.MealySteps': WHATEVER THE INPUT: true; the input reads as it did. -/
def mealyStepsSpec : ChangeSpec := { name := "mealySteps", fn := fun _ => fun
  | [d1, d2, d3] => { results := [.lit (.bool true)], args := [d1, d2, d3] }
  | _ => none }
def mealyStepsRow : OpenClaim := { program := "ytcbkfkgagcfcoaa", sum := "7f0aa04178760cad777632a76e749335545ecee89f734f3c460e173c26b6b0a5", func := "learner/learnerlaw06.MealySteps", spec := "mealySteps", unfollowed := true, recurses := true, apart := false }
def MealyStepsSaid : Prop := mealyStepsRow.holds Try.pinned (OpenSpec.ofChange mealyStepsSpec)

/-- ITS FALSE NEIGHBOUR: 'it returns false'. Refute it at one input. -/
def mealyStepsWrong : ChangeSpec := { name := "mealySteps", fn := fun _ => fun
  | [d1, d2, d3] => { results := [.lit (.bool false)], args := [d1, d2, d3] }
  | _ => none }
def MealyStepsWrongFalsely : Prop := mealyStepsRow.holds Try.pinned (OpenSpec.ofChange mealyStepsWrong)

/-- 'learnerlaw06.MealyShapes': WHATEVER THE INPUT: true; the input reads as it did. -/
def mealyShapesSpec : ChangeSpec := { name := "mealyShapes", fn := fun _ => fun
  | [d1, d2, d3] => { results := [.lit (.bool true)], args := [d1, d2, d3] }
  | _ => none }
def mealyShapesRow : OpenClaim := { program := "ytcbkfkgagcfcoaa", sum := "7f0aa04178760cad777632a76e749335545ecee89f734f3c460e173c26b6b0a5", func := "learner/learnerlaw06.MealyShapes", spec := "mealyShapes", unfollowed := true, recurses := true, apart := false }
def MealyShapesSaid : Prop := mealyShapesRow.holds Try.pinned (OpenSpec.ofChange mealyShapesSpec)

/-- ITS FALSE NEIGHBOUR: 'it returns false'. Refute it at one input. -/
def mealyShapesWrong : ChangeSpec := { name := "mealyShapes", fn := fun _ => fun
  | [d1, d2, d3] => { results := [.lit (.bool false)], args := [d1, d2, d3] }
  | _ => none }
def MealyShapesWrongFalsely : Prop := mealyShapesRow.holds Try.pinned (OpenSpec.ofChange mealyShapesWrong)

/- THE SECOND FORM. 'bulk': how many values and letters a reading holds, each counted each time it is reached (what is shared counts as often as it is met; a slice's spare places count too). A statement '..UptoSaid' is the law's where the arguments, and the package variables that the reading takes, are together of bulk at most 1048576: NARROWER than '..Said'. Prove '..Said' where nothing that the law and all that it calls make is longer than what came in: it says more and counts as full. Else prove '..UptoSaid'. A law counts once. -/
mutual
def uptoBulk {H : Type} : DataW H → Nat
  | .lit (.string bytes) => bytes.length + 1
  | .lit _ => 1
  | .nil => 1
  | .ptr d => uptoBulk d + 1
  | .slice elems spare => uptoBulkAll elems + uptoBulkAll spare + 1
  | .agg parts => uptoBulkAll parts + 1
  | .iface _ d => uptoBulk d + 1
  | .map entries => uptoBulkEntries entries + 1
  | .held _ => 1
def uptoBulkAll {H : Type} : List (DataW H) → Nat
  | [] => 0
  | d :: r => uptoBulk d + uptoBulkAll r
def uptoBulkEntries {H : Type} : List (Lit × DataW H) → Nat
  | [] => 0
  | x :: r => uptoBulkEntry x + uptoBulkEntries r
def uptoBulkEntry {H : Type} : Lit × DataW H → Nat
  | (.string bytes, d) => bytes.length + uptoBulk d + 1
  | (_, d) => uptoBulk d + 1
 end
def uptoSmall : (H : Type) → List (DataW H) → Bool := fun _ ds => decide (uptoBulkAll ds ≤ 1048576)
def OpenSpec.upto (s : _root_.Go.ChangeSpec) : _root_.Go.OpenSpec := { _root_.Go.OpenSpec.ofChange s with cond := some uptoSmall }

/-- 'learnerlaw06.MealyValid', WHERE WHAT IT READS IS OF BULK AT MOST 1048576: true; the input reads as it did. -/
def mealyValidUptoRow : OpenClaim := { program := "ytcbkfkgagcfcoaa", sum := "7f0aa04178760cad777632a76e749335545ecee89f734f3c460e173c26b6b0a5", func := "learner/learnerlaw06.MealyValid", spec := "mealyValid", unfollowed := true, recurses := true, apart := false, narrowed := true }
def MealyValidUptoSaid : Prop := mealyValidUptoRow.holds Try.pinned (OpenSpec.upto mealyValidSpec)

/-- 'learnerlaw06.MealyJoins', WHERE WHAT IT READS IS OF BULK AT MOST 1048576: true; the input reads as it did. -/
def mealyJoinsUptoRow : OpenClaim := { program := "ytcbkfkgagcfcoaa", sum := "7f0aa04178760cad777632a76e749335545ecee89f734f3c460e173c26b6b0a5", func := "learner/learnerlaw06.MealyJoins", spec := "mealyJoins", unfollowed := true, recurses := true, apart := false, narrowed := true }
def MealyJoinsUptoSaid : Prop := mealyJoinsUptoRow.holds Try.pinned (OpenSpec.upto mealyJoinsSpec)

/-- 'learnerlaw06.MealyTrims', WHERE WHAT IT READS IS OF BULK AT MOST 1048576: true; the input reads as it did. -/
def mealyTrimsUptoRow : OpenClaim := { program := "ytcbkfkgagcfcoaa", sum := "7f0aa04178760cad777632a76e749335545ecee89f734f3c460e173c26b6b0a5", func := "learner/learnerlaw06.MealyTrims", spec := "mealyTrims", unfollowed := true, recurses := true, apart := false, narrowed := true }
def MealyTrimsUptoSaid : Prop := mealyTrimsUptoRow.holds Try.pinned (OpenSpec.upto mealyTrimsSpec)

/-- 'learnerlaw06.MealySteps', WHERE WHAT IT READS IS OF BULK AT MOST 1048576: true; the input reads as it did. -/
def mealyStepsUptoRow : OpenClaim := { program := "ytcbkfkgagcfcoaa", sum := "7f0aa04178760cad777632a76e749335545ecee89f734f3c460e173c26b6b0a5", func := "learner/learnerlaw06.MealySteps", spec := "mealySteps", unfollowed := true, recurses := true, apart := false, narrowed := true }
def MealyStepsUptoSaid : Prop := mealyStepsUptoRow.holds Try.pinned (OpenSpec.upto mealyStepsSpec)

/-- 'learnerlaw06.MealyShapes', WHERE WHAT IT READS IS OF BULK AT MOST 1048576: true; the input reads as it did. -/
def mealyShapesUptoRow : OpenClaim := { program := "ytcbkfkgagcfcoaa", sum := "7f0aa04178760cad777632a76e749335545ecee89f734f3c460e173c26b6b0a5", func := "learner/learnerlaw06.MealyShapes", spec := "mealyShapes", unfollowed := true, recurses := true, apart := false, narrowed := true }
def MealyShapesUptoSaid : Prop := mealyShapesUptoRow.holds Try.pinned (OpenSpec.upto mealyShapesSpec)

end Rows
end Go.Proofs.Ytcbkfkgagcfcoaa
