/-
  No cell of these rows narrows 'for every input' (looked for: loops, veiled, ifaces, maps, wideKeys, modest, calm, conditions, laid).
  DERIVED. THE GIVEN ROWS OF THIS SEAT. 6 by the template 'for every input the law returns true; each argument reads behind the call as it read before'; 0 by the template 'total and deterministic' (their statements: YtceafldjjedhcaaTotals.lean).
  GIVEN WITH THE SEED: the statements are not yours to turn. If you find one false, say at which input.
  Laid BY PROGRAM, IN A SANDBOX (cutbox-rows.mjs): the forced cells as the released guide's own fill.sh prints them over the translation c0bb932b958287b2… (all of the seat's roots in one cut). By AI agents, Wed Nov 11 2026. No macro, syntax, notation, axiom, sorry.
-/
import Derived.Test.YtceafldjjedhcaaChecked
import GoSem.Claim
import GoSem.ClaimJoined
import GoSem.ClaimMapViews
import Derived.JoinedTies
import Derived.KernelRfl
namespace Go.Proofs.Ytceafldjjedhcaa
/- THE CELL 'sum', in the pinned program and in every row, IS THE sha256 OF THE DUMP (.gsa) THAT YtceafldjjedhcaaProg.lean LOADS. Nothing in Lean hashes anything: it is a label: what it is worth is what the hold of that sum in a sandbox is worth. -/
noncomputable def Try.pinned : Pinned := { name := "ytceafldjjedhcaa", sum := "c0bb932b958287b2175f1063b4b95b7866b774b2ade7d934a3de2d2b3c1e8608", checked := Try.checked }
namespace Rows
def none {H : Type} : Left H := { results := [], args := [] }

/-- 'learnerlaw38.RefineWitness': WHATEVER THE INPUT: true; the input reads as it did. -/
def refineWitnessSpec : ChangeSpec := { name := "refineWitness", fn := fun _ => fun
  | [d1, d2] => { results := [.lit (.bool true)], args := [d1, d2] }
  | _ => none }
def refineWitnessRow : OpenClaim := { program := "ytceafldjjedhcaa", sum := "c0bb932b958287b2175f1063b4b95b7866b774b2ade7d934a3de2d2b3c1e8608", func := "learner/learnerlaw38.RefineWitness", spec := "refineWitness", unfollowed := true, recurses := true, plainKeys := false, apart := false }
def RefineWitnessSaid : Prop := refineWitnessRow.holds Try.pinned (OpenSpec.ofChange refineWitnessSpec)

/-- ITS FALSE NEIGHBOUR: 'it returns false'. Refute it at one input. -/
def refineWitnessWrong : ChangeSpec := { name := "refineWitness", fn := fun _ => fun
  | [d1, d2] => { results := [.lit (.bool false)], args := [d1, d2] }
  | _ => none }
def RefineWitnessWrongFalsely : Prop := refineWitnessRow.holds Try.pinned (OpenSpec.ofChange refineWitnessWrong)

/-- 'learnerlaw38.RefineSteps': WHATEVER THE INPUT: true; the input reads as it did. -/
def refineStepsSpec : ChangeSpec := { name := "refineSteps", fn := fun _ => fun
  | [d1, d2] => { results := [.lit (.bool true)], args := [d1, d2] }
  | _ => none }
def refineStepsRow : OpenClaim := { program := "ytceafldjjedhcaa", sum := "c0bb932b958287b2175f1063b4b95b7866b774b2ade7d934a3de2d2b3c1e8608", func := "learner/learnerlaw38.RefineSteps", spec := "refineSteps", unfollowed := true, recurses := true, plainKeys := false, apart := false }
def RefineStepsSaid : Prop := refineStepsRow.holds Try.pinned (OpenSpec.ofChange refineStepsSpec)

/-- ITS FALSE NEIGHBOUR: 'it returns false'. Refute it at one input. -/
def refineStepsWrong : ChangeSpec := { name := "refineSteps", fn := fun _ => fun
  | [d1, d2] => { results := [.lit (.bool false)], args := [d1, d2] }
  | _ => none }
def RefineStepsWrongFalsely : Prop := refineStepsRow.holds Try.pinned (OpenSpec.ofChange refineStepsWrong)

/-- 'learnerlaw38.RefineRuns': WHATEVER THE INPUT: true; the input reads as it did. -/
def refineRunsSpec : ChangeSpec := { name := "refineRuns", fn := fun _ => fun
  | [d] => { results := [.lit (.bool true)], args := [d] }
  | _ => none }
def refineRunsRow : OpenClaim := { program := "ytceafldjjedhcaa", sum := "c0bb932b958287b2175f1063b4b95b7866b774b2ade7d934a3de2d2b3c1e8608", func := "learner/learnerlaw38.RefineRuns", spec := "refineRuns", unfollowed := true, recurses := true, plainKeys := false, apart := false }
def RefineRunsSaid : Prop := refineRunsRow.holds Try.pinned (OpenSpec.ofChange refineRunsSpec)

/-- ITS FALSE NEIGHBOUR: 'it returns false'. Refute it at one input. -/
def refineRunsWrong : ChangeSpec := { name := "refineRuns", fn := fun _ => fun
  | [d] => { results := [.lit (.bool false)], args := [d] }
  | _ => none }
def RefineRunsWrongFalsely : Prop := refineRunsRow.holds Try.pinned (OpenSpec.ofChange refineRunsWrong)

/-- 'learnerlaw38.RefineShows': WHATEVER THE INPUT: true; the input reads as it did. -/
def refineShowsSpec : ChangeSpec := { name := "refineShows", fn := fun _ => fun
  | [d1, d2] => { results := [.lit (.bool true)], args := [d1, d2] }
  | _ => none }
def refineShowsRow : OpenClaim := { program := "ytceafldjjedhcaa", sum := "c0bb932b958287b2175f1063b4b95b7866b774b2ade7d934a3de2d2b3c1e8608", func := "learner/learnerlaw38.RefineShows", spec := "refineShows", unfollowed := true, recurses := true, plainKeys := false, apart := false }
def RefineShowsSaid : Prop := refineShowsRow.holds Try.pinned (OpenSpec.ofChange refineShowsSpec)

/-- ITS FALSE NEIGHBOUR: 'it returns false'. Refute it at one input. -/
def refineShowsWrong : ChangeSpec := { name := "refineShows", fn := fun _ => fun
  | [d1, d2] => { results := [.lit (.bool false)], args := [d1, d2] }
  | _ => none }
def RefineShowsWrongFalsely : Prop := refineShowsRow.holds Try.pinned (OpenSpec.ofChange refineShowsWrong)

/-- 'learnerlaw38.RefineSteady': WHATEVER THE INPUT: true; the input reads as it did. -/
def refineSteadySpec : ChangeSpec := { name := "refineSteady", fn := fun _ => fun
  | [d] => { results := [.lit (.bool true)], args := [d] }
  | _ => none }
def refineSteadyRow : OpenClaim := { program := "ytceafldjjedhcaa", sum := "c0bb932b958287b2175f1063b4b95b7866b774b2ade7d934a3de2d2b3c1e8608", func := "learner/learnerlaw38.RefineSteady", spec := "refineSteady", unfollowed := true, recurses := true, plainKeys := false, apart := false }
def RefineSteadySaid : Prop := refineSteadyRow.holds Try.pinned (OpenSpec.ofChange refineSteadySpec)

/-- ITS FALSE NEIGHBOUR: 'it returns false'. Refute it at one input. -/
def refineSteadyWrong : ChangeSpec := { name := "refineSteady", fn := fun _ => fun
  | [d] => { results := [.lit (.bool false)], args := [d] }
  | _ => none }
def RefineSteadyWrongFalsely : Prop := refineSteadyRow.holds Try.pinned (OpenSpec.ofChange refineSteadyWrong)

/-- 'learnerlaw38.RefineCoarsest': WHATEVER THE INPUT: true; the input reads as it did. -/
def refineCoarsestSpec : ChangeSpec := { name := "refineCoarsest", fn := fun _ => fun
  | [d] => { results := [.lit (.bool true)], args := [d] }
  | _ => none }
def refineCoarsestRow : OpenClaim := { program := "ytceafldjjedhcaa", sum := "c0bb932b958287b2175f1063b4b95b7866b774b2ade7d934a3de2d2b3c1e8608", func := "learner/learnerlaw38.RefineCoarsest", spec := "refineCoarsest", unfollowed := true, recurses := true, plainKeys := false, apart := false }
def RefineCoarsestSaid : Prop := refineCoarsestRow.holds Try.pinned (OpenSpec.ofChange refineCoarsestSpec)

/-- ITS FALSE NEIGHBOUR: 'it returns false'. Refute it at one input. -/
def refineCoarsestWrong : ChangeSpec := { name := "refineCoarsest", fn := fun _ => fun
  | [d] => { results := [.lit (.bool false)], args := [d] }
  | _ => none }
def RefineCoarsestWrongFalsely : Prop := refineCoarsestRow.holds Try.pinned (OpenSpec.ofChange refineCoarsestWrong)

/- THE SECOND FORM. 'bulk': how many values and letters a reading holds, each counted each time it is reached (what is shared counts as often as it is met; a slice's spare places count too). A statement '..UptoSaid' is the law's where the arguments, and the package variables that the reading takes, are together of bulk at most 1048576: NARROWER than '..Said'. Prove '..Said' where nothing that the law and all that it calls make is longer than what came in: it says more and counts as full. Else prove '..UptoSaid'. A law counts once. -/
mutual
def uptoBulk {H : Type} : DataW H → Nat
  | .lit (.string bytes) => bytes.length + 1
  | .lit _ => 1
  | .nil => 1
  | .ptr d => uptoBulk d + 1
  | .slice elems spare => uptoBulkAll elems + uptoBulkAll spare + 1
  | .agg parts => uptoBulkAll parts + 1
  | .iface _ d => uptoBulk d + 1
  | .map entries => uptoBulkEntries entries + 1
  | .held _ => 1
def uptoBulkAll {H : Type} : List (DataW H) → Nat
  | [] => 0
  | d :: r => uptoBulk d + uptoBulkAll r
def uptoBulkEntries {H : Type} : List (Lit × DataW H) → Nat
  | [] => 0
  | x :: r => uptoBulkEntry x + uptoBulkEntries r
def uptoBulkEntry {H : Type} : Lit × DataW H → Nat
  | (.string bytes, d) => bytes.length + uptoBulk d + 1
  | (_, d) => uptoBulk d + 1
 end
def uptoSmall : (H : Type) → List (DataW H) → Bool := fun _ ds => decide (uptoBulkAll ds ≤ 1048576)
def OpenSpec.upto (s : _root_.Go.ChangeSpec) : _root_.Go.OpenSpec := { _root_.Go.OpenSpec.ofChange s with cond := some uptoSmall }

/-- 'learnerlaw38.RefineWitness', WHERE WHAT IT READS IS OF BULK AT MOST 1048576: true; the input reads as it did. -/
def refineWitnessUptoRow : OpenClaim := { program := "ytceafldjjedhcaa", sum := "c0bb932b958287b2175f1063b4b95b7866b774b2ade7d934a3de2d2b3c1e8608", func := "learner/learnerlaw38.RefineWitness", spec := "refineWitness", unfollowed := true, recurses := true, plainKeys := false, apart := false, narrowed := true }
def RefineWitnessUptoSaid : Prop := refineWitnessUptoRow.holds Try.pinned (OpenSpec.upto refineWitnessSpec)

/-- 'learnerlaw38.RefineSteps', WHERE WHAT IT READS IS OF BULK AT MOST 1048576: true; the input reads as it did. -/
def refineStepsUptoRow : OpenClaim := { program := "ytceafldjjedhcaa", sum := "c0bb932b958287b2175f1063b4b95b7866b774b2ade7d934a3de2d2b3c1e8608", func := "learner/learnerlaw38.RefineSteps", spec := "refineSteps", unfollowed := true, recurses := true, plainKeys := false, apart := false, narrowed := true }
def RefineStepsUptoSaid : Prop := refineStepsUptoRow.holds Try.pinned (OpenSpec.upto refineStepsSpec)

/-- 'learnerlaw38.RefineRuns', WHERE WHAT IT READS IS OF BULK AT MOST 1048576: true; the input reads as it did. -/
def refineRunsUptoRow : OpenClaim := { program := "ytceafldjjedhcaa", sum := "c0bb932b958287b2175f1063b4b95b7866b774b2ade7d934a3de2d2b3c1e8608", func := "learner/learnerlaw38.RefineRuns", spec := "refineRuns", unfollowed := true, recurses := true, plainKeys := false, apart := false, narrowed := true }
def RefineRunsUptoSaid : Prop := refineRunsUptoRow.holds Try.pinned (OpenSpec.upto refineRunsSpec)

/-- 'learnerlaw38.RefineShows', WHERE WHAT IT READS IS OF BULK AT MOST 1048576: true; the input reads as it did. -/
def refineShowsUptoRow : OpenClaim := { program := "ytceafldjjedhcaa", sum := "c0bb932b958287b2175f1063b4b95b7866b774b2ade7d934a3de2d2b3c1e8608", func := "learner/learnerlaw38.RefineShows", spec := "refineShows", unfollowed := true, recurses := true, plainKeys := false, apart := false, narrowed := true }
def RefineShowsUptoSaid : Prop := refineShowsUptoRow.holds Try.pinned (OpenSpec.upto refineShowsSpec)

/-- 'learnerlaw38.RefineSteady', WHERE WHAT IT READS IS OF BULK AT MOST 1048576: true; the input reads as it did. -/
def refineSteadyUptoRow : OpenClaim := { program := "ytceafldjjedhcaa", sum := "c0bb932b958287b2175f1063b4b95b7866b774b2ade7d934a3de2d2b3c1e8608", func := "learner/learnerlaw38.RefineSteady", spec := "refineSteady", unfollowed := true, recurses := true, plainKeys := false, apart := false, narrowed := true }
def RefineSteadyUptoSaid : Prop := refineSteadyUptoRow.holds Try.pinned (OpenSpec.upto refineSteadySpec)

/-- 'learnerlaw38.RefineCoarsest', WHERE WHAT IT READS IS OF BULK AT MOST 1048576: true; the input reads as it did. -/
def refineCoarsestUptoRow : OpenClaim := { program := "ytceafldjjedhcaa", sum := "c0bb932b958287b2175f1063b4b95b7866b774b2ade7d934a3de2d2b3c1e8608", func := "learner/learnerlaw38.RefineCoarsest", spec := "refineCoarsest", unfollowed := true, recurses := true, plainKeys := false, apart := false, narrowed := true }
def RefineCoarsestUptoSaid : Prop := refineCoarsestUptoRow.holds Try.pinned (OpenSpec.upto refineCoarsestSpec)

end Rows
end Go.Proofs.Ytceafldjjedhcaa
