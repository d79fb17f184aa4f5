/-
  No cell of these rows narrows 'for every input' (looked for: loops, veiled, ifaces, maps, wideKeys, modest, calm, conditions, laid).
  DERIVED. THE GIVEN ROWS OF THIS SEAT. 6 by the template 'for every input the law returns true; each argument reads behind the call as it read before'; 0 by the template 'total and deterministic' (their statements: YtoahhklogohehaaTotals.lean).
  GIVEN WITH THE SEED: the statements are not yours to turn. If you find one false, say at which input.
  Laid BY PROGRAM, IN A SANDBOX (cutbox-rows.mjs): the forced cells as the released guide's own fill.sh prints them over the translation f5fc1b126c4da0d3… (all of the seat's roots in one cut). By AI agents, Wed Nov 11 2026. No macro, syntax, notation, axiom, sorry.
-/
import Derived.Test.YtoahhklogohehaaChecked
import GoSem.Claim
import GoSem.ClaimJoined
import GoSem.ClaimMapViews
import Derived.JoinedTies
import Derived.KernelRfl
namespace Go.Proofs.Ytoahhklogohehaa
/- THE CELL 'sum', in the pinned program and in every row, IS THE sha256 OF THE DUMP (.gsa) THAT YtoahhklogohehaaProg.lean LOADS. Nothing in Lean hashes anything: it is a label: what it is worth is what the hold of that sum in a sandbox is worth. -/
noncomputable def Try.pinned : Pinned := { name := "ytoahhklogohehaa", sum := "f5fc1b126c4da0d3f97510c7fd0b9e1581cc5373db565dbac7dcad518dc8af20", checked := Try.checked }
namespace Rows
def none {H : Type} : Left H := { results := [], args := [] }

/-- 'learnerlaw12.DistinguishBuilds': WHATEVER THE INPUT: true; the input reads as it did. -/
def distinguishBuildsSpec : ChangeSpec := { name := "distinguishBuilds", fn := fun _ => fun
  | [d] => { results := [.lit (.bool true)], args := [d] }
  | _ => none }
def distinguishBuildsRow : OpenClaim := { program := "ytoahhklogohehaa", sum := "f5fc1b126c4da0d3f97510c7fd0b9e1581cc5373db565dbac7dcad518dc8af20", func := "learner/learnerlaw12.DistinguishBuilds", spec := "distinguishBuilds", unfollowed := true, recurses := true, plainKeys := false, apart := false }
def DistinguishBuildsSaid : Prop := distinguishBuildsRow.holds Try.pinned (OpenSpec.ofChange distinguishBuildsSpec)

/-- ITS FALSE NEIGHBOUR: 'it returns false'. Refute it at one input. -/
def distinguishBuildsWrong : ChangeSpec := { name := "distinguishBuilds", fn := fun _ => fun
  | [d] => { results := [.lit (.bool false)], args := [d] }
  | _ => none }
def DistinguishBuildsWrongFalsely : Prop := distinguishBuildsRow.holds Try.pinned (OpenSpec.ofChange distinguishBuildsWrong)

/-- 'learnerlaw12.DistinguishChecks': WHATEVER THE INPUT: true; the input reads as it did. -/
def distinguishChecksSpec : ChangeSpec := { name := "distinguishChecks", fn := fun _ => fun
  | [d1, d2] => { results := [.lit (.bool true)], args := [d1, d2] }
  | _ => none }
def distinguishChecksRow : OpenClaim := { program := "ytoahhklogohehaa", sum := "f5fc1b126c4da0d3f97510c7fd0b9e1581cc5373db565dbac7dcad518dc8af20", func := "learner/learnerlaw12.DistinguishChecks", spec := "distinguishChecks", unfollowed := true, recurses := true, plainKeys := false, apart := false }
def DistinguishChecksSaid : Prop := distinguishChecksRow.holds Try.pinned (OpenSpec.ofChange distinguishChecksSpec)

/-- ITS FALSE NEIGHBOUR: 'it returns false'. Refute it at one input. -/
def distinguishChecksWrong : ChangeSpec := { name := "distinguishChecks", fn := fun _ => fun
  | [d1, d2] => { results := [.lit (.bool false)], args := [d1, d2] }
  | _ => none }
def DistinguishChecksWrongFalsely : Prop := distinguishChecksRow.holds Try.pinned (OpenSpec.ofChange distinguishChecksWrong)

/-- 'learnerlaw12.DistinguishWords': WHATEVER THE INPUT: true; the input reads as it did. -/
def distinguishWordsSpec : ChangeSpec := { name := "distinguishWords", fn := fun _ => fun
  | [d1, d2, d3] => { results := [.lit (.bool true)], args := [d1, d2, d3] }
  | _ => none }
def distinguishWordsRow : OpenClaim := { program := "ytoahhklogohehaa", sum := "f5fc1b126c4da0d3f97510c7fd0b9e1581cc5373db565dbac7dcad518dc8af20", func := "learner/learnerlaw12.DistinguishWords", spec := "distinguishWords", unfollowed := true, recurses := true, plainKeys := false, apart := false }
def DistinguishWordsSaid : Prop := distinguishWordsRow.holds Try.pinned (OpenSpec.ofChange distinguishWordsSpec)

/-- ITS FALSE NEIGHBOUR: 'it returns false'. Refute it at one input. -/
def distinguishWordsWrong : ChangeSpec := { name := "distinguishWords", fn := fun _ => fun
  | [d1, d2, d3] => { results := [.lit (.bool false)], args := [d1, d2, d3] }
  | _ => none }
def DistinguishWordsWrongFalsely : Prop := distinguishWordsRow.holds Try.pinned (OpenSpec.ofChange distinguishWordsWrong)

/-- 'learnerlaw12.DistinguishExists': WHATEVER THE INPUT: true; the input reads as it did. -/
def distinguishExistsSpec : ChangeSpec := { name := "distinguishExists", fn := fun _ => fun
  | [d] => { results := [.lit (.bool true)], args := [d] }
  | _ => none }
def distinguishExistsRow : OpenClaim := { program := "ytoahhklogohehaa", sum := "f5fc1b126c4da0d3f97510c7fd0b9e1581cc5373db565dbac7dcad518dc8af20", func := "learner/learnerlaw12.DistinguishExists", spec := "distinguishExists", unfollowed := true, recurses := true, plainKeys := false, apart := false }
def DistinguishExistsSaid : Prop := distinguishExistsRow.holds Try.pinned (OpenSpec.ofChange distinguishExistsSpec)

/-- ITS FALSE NEIGHBOUR: 'it returns false'. Refute it at one input. -/
def distinguishExistsWrong : ChangeSpec := { name := "distinguishExists", fn := fun _ => fun
  | [d] => { results := [.lit (.bool false)], args := [d] }
  | _ => none }
def DistinguishExistsWrongFalsely : Prop := distinguishExistsRow.holds Try.pinned (OpenSpec.ofChange distinguishExistsWrong)

/-- 'learnerlaw12.DistinguishRight': WHATEVER THE INPUT: true; the input reads as it did. -/
def distinguishRightSpec : ChangeSpec := { name := "distinguishRight", fn := fun _ => fun
  | [d] => { results := [.lit (.bool true)], args := [d] }
  | _ => none }
def distinguishRightRow : OpenClaim := { program := "ytoahhklogohehaa", sum := "f5fc1b126c4da0d3f97510c7fd0b9e1581cc5373db565dbac7dcad518dc8af20", func := "learner/learnerlaw12.DistinguishRight", spec := "distinguishRight", unfollowed := true, recurses := true, plainKeys := false, apart := false }
def DistinguishRightSaid : Prop := distinguishRightRow.holds Try.pinned (OpenSpec.ofChange distinguishRightSpec)

/-- ITS FALSE NEIGHBOUR: 'it returns false'. Refute it at one input. -/
def distinguishRightWrong : ChangeSpec := { name := "distinguishRight", fn := fun _ => fun
  | [d] => { results := [.lit (.bool false)], args := [d] }
  | _ => none }
def DistinguishRightWrongFalsely : Prop := distinguishRightRow.holds Try.pinned (OpenSpec.ofChange distinguishRightWrong)

/-- 'learnerlaw12.DistinguishLeaves': WHATEVER THE INPUT: true; the input reads as it did. -/
def distinguishLeavesSpec : ChangeSpec := { name := "distinguishLeaves", fn := fun _ => fun
  | [d] => { results := [.lit (.bool true)], args := [d] }
  | _ => none }
def distinguishLeavesRow : OpenClaim := { program := "ytoahhklogohehaa", sum := "f5fc1b126c4da0d3f97510c7fd0b9e1581cc5373db565dbac7dcad518dc8af20", func := "learner/learnerlaw12.DistinguishLeaves", spec := "distinguishLeaves", unfollowed := true, recurses := true, plainKeys := false, apart := false }
def DistinguishLeavesSaid : Prop := distinguishLeavesRow.holds Try.pinned (OpenSpec.ofChange distinguishLeavesSpec)

/-- ITS FALSE NEIGHBOUR: 'it returns false'. Refute it at one input. -/
def distinguishLeavesWrong : ChangeSpec := { name := "distinguishLeaves", fn := fun _ => fun
  | [d] => { results := [.lit (.bool false)], args := [d] }
  | _ => none }
def DistinguishLeavesWrongFalsely : Prop := distinguishLeavesRow.holds Try.pinned (OpenSpec.ofChange distinguishLeavesWrong)

/- THE SECOND FORM. 'bulk': how many values and letters a reading holds, each counted each time it is reached (what is shared counts as often as it is met; a slice's spare places count too). A statement '..UptoSaid' is the law's where the arguments, and the package variables that the reading takes, are together of bulk at most 1048576: NARROWER than '..Said'. Prove '..Said' where nothing that the law and all that it calls make is longer than what came in: it says more and counts as full. Else prove '..UptoSaid'. A law counts once. -/
mutual
def uptoBulk {H : Type} : DataW H → Nat
  | .lit (.string bytes) => bytes.length + 1
  | .lit _ => 1
  | .nil => 1
  | .ptr d => uptoBulk d + 1
  | .slice elems spare => uptoBulkAll elems + uptoBulkAll spare + 1
  | .agg parts => uptoBulkAll parts + 1
  | .iface _ d => uptoBulk d + 1
  | .map entries => uptoBulkEntries entries + 1
  | .held _ => 1
def uptoBulkAll {H : Type} : List (DataW H) → Nat
  | [] => 0
  | d :: r => uptoBulk d + uptoBulkAll r
def uptoBulkEntries {H : Type} : List (Lit × DataW H) → Nat
  | [] => 0
  | x :: r => uptoBulkEntry x + uptoBulkEntries r
def uptoBulkEntry {H : Type} : Lit × DataW H → Nat
  | (.string bytes, d) => bytes.length + uptoBulk d + 1
  | (_, d) => uptoBulk d + 1
 end
def uptoSmall : (H : Type) → List (DataW H) → Bool := fun _ ds => decide (uptoBulkAll ds ≤ 1048576)
def OpenSpec.upto (s : _root_.Go.ChangeSpec) : _root_.Go.OpenSpec := { _root_.Go.OpenSpec.ofChange s with cond := some uptoSmall }

/-- 'learnerlaw12.DistinguishBuilds', WHERE WHAT IT READS IS OF BULK AT MOST 1048576: true; the input reads as it did. -/
def distinguishBuildsUptoRow : OpenClaim := { program := "ytoahhklogohehaa", sum := "f5fc1b126c4da0d3f97510c7fd0b9e1581cc5373db565dbac7dcad518dc8af20", func := "learner/learnerlaw12.DistinguishBuilds", spec := "distinguishBuilds", unfollowed := true, recurses := true, plainKeys := false, apart := false, narrowed := true }
def DistinguishBuildsUptoSaid : Prop := distinguishBuildsUptoRow.holds Try.pinned (OpenSpec.upto distinguishBuildsSpec)

/-- 'learnerlaw12.DistinguishChecks', WHERE WHAT IT READS IS OF BULK AT MOST 1048576: true; the input reads as it did. -/
def distinguishChecksUptoRow : OpenClaim := { program := "ytoahhklogohehaa", sum := "f5fc1b126c4da0d3f97510c7fd0b9e1581cc5373db565dbac7dcad518dc8af20", func := "learner/learnerlaw12.DistinguishChecks", spec := "distinguishChecks", unfollowed := true, recurses := true, plainKeys := false, apart := false, narrowed := true }
def DistinguishChecksUptoSaid : Prop := distinguishChecksUptoRow.holds Try.pinned (OpenSpec.upto distinguishChecksSpec)

/-- 'learnerlaw12.DistinguishWords', WHERE WHAT IT READS IS OF BULK AT MOST 1048576: true; the input reads as it did. -/
def distinguishWordsUptoRow : OpenClaim := { program := "ytoahhklogohehaa", sum := "f5fc1b126c4da0d3f97510c7fd0b9e1581cc5373db565dbac7dcad518dc8af20", func := "learner/learnerlaw12.DistinguishWords", spec := "distinguishWords", unfollowed := true, recurses := true, plainKeys := false, apart := false, narrowed := true }
def DistinguishWordsUptoSaid : Prop := distinguishWordsUptoRow.holds Try.pinned (OpenSpec.upto distinguishWordsSpec)

/-- 'learnerlaw12.DistinguishExists', WHERE WHAT IT READS IS OF BULK AT MOST 1048576: true; the input reads as it did. -/
def distinguishExistsUptoRow : OpenClaim := { program := "ytoahhklogohehaa", sum := "f5fc1b126c4da0d3f97510c7fd0b9e1581cc5373db565dbac7dcad518dc8af20", func := "learner/learnerlaw12.DistinguishExists", spec := "distinguishExists", unfollowed := true, recurses := true, plainKeys := false, apart := false, narrowed := true }
def DistinguishExistsUptoSaid : Prop := distinguishExistsUptoRow.holds Try.pinned (OpenSpec.upto distinguishExistsSpec)

/-- 'learnerlaw12.DistinguishRight', WHERE WHAT IT READS IS OF BULK AT MOST 1048576: true; the input reads as it did. -/
def distinguishRightUptoRow : OpenClaim := { program := "ytoahhklogohehaa", sum := "f5fc1b126c4da0d3f97510c7fd0b9e1581cc5373db565dbac7dcad518dc8af20", func := "learner/learnerlaw12.DistinguishRight", spec := "distinguishRight", unfollowed := true, recurses := true, plainKeys := false, apart := false, narrowed := true }
def DistinguishRightUptoSaid : Prop := distinguishRightUptoRow.holds Try.pinned (OpenSpec.upto distinguishRightSpec)

/-- 'learnerlaw12.DistinguishLeaves', WHERE WHAT IT READS IS OF BULK AT MOST 1048576: true; the input reads as it did. -/
def distinguishLeavesUptoRow : OpenClaim := { program := "ytoahhklogohehaa", sum := "f5fc1b126c4da0d3f97510c7fd0b9e1581cc5373db565dbac7dcad518dc8af20", func := "learner/learnerlaw12.DistinguishLeaves", spec := "distinguishLeaves", unfollowed := true, recurses := true, plainKeys := false, apart := false, narrowed := true }
def DistinguishLeavesUptoSaid : Prop := distinguishLeavesUptoRow.holds Try.pinned (OpenSpec.upto distinguishLeavesSpec)

end Rows
end Go.Proofs.Ytoahhklogohehaa
