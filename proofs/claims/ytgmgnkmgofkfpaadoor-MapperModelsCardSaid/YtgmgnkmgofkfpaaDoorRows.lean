/-
  NARROWER THAN 'FOR EVERY INPUT', by the rows' own cells (each row's printed sentence says how): MapperValid: laid · MapperWords: laid · MapperModels: laid · MapperBack: laid · MapperFollows: laid · MapperClashes: laid.
  DERIVED. THE GIVEN ROWS OF THIS SEAT. 6 by the template 'for every input the law returns true; each argument reads behind the call as it read before'; 0 by the template 'total and deterministic' (their statements: YtgmgnkmgofkfpaaDoorTotals.lean).
  GIVEN WITH THE SEED: the statements are not yours to turn. If you find one false, say at which input.
  Laid BY PROGRAM, IN A SANDBOX (cutbox-rows.mjs): the forced cells as the released guide's own fill.sh prints them over the translation 6f445a3bb6383346… (all of the seat's roots in one cut). By AI agents, Wed Nov 11 2026. No macro, syntax, notation, axiom, sorry.
-/
import Derived.Test.YtgmgnkmgofkfpaaDoorChecked
import GoSem.Claim
import GoSem.ClaimJoined
import GoSem.ClaimMapViews
import Derived.JoinedTies
import Derived.KernelRfl
namespace Go.Proofs.YtgmgnkmgofkfpaaDoor
/- THE CELL 'sum', in the pinned program and in every row, IS THE sha256 OF THE DUMP (.gsa) THAT YtgmgnkmgofkfpaaDoorProg.lean LOADS. Nothing in Lean hashes anything: it is a label: what it is worth is what the hold of that sum in a sandbox is worth. -/
noncomputable def Tryd.pinned : Pinned := { name := "ytgmgnkmgofkfpaadoor", sum := "6f445a3bb6383346c802cd307d3b3db000f57ad707f82b9ce26788235463c05e", checked := Tryd.checked }
namespace Rows
def none {H : Type} : Left H := { results := [], args := [] }

/- WHAT THE LISTED PACKAGE-LEVEL VARIABLES READ AS WHEN THE CALL BEGINS. Each datum BY PROGRAM (the guide's laid-datum.mjs) off the statement by which the dump's own 'gosem.cut.vars' lays the variable. In a bare row this is a premise. The card (YtgmgnkmgofkfpaaDoorCards.lean) ties it to the program's text. -/
def laid_math_bits_deBruijn32tab {H : Type} : DataW H := .agg [.lit (.int .u8 0), .lit (.int .u8 1), .lit (.int .u8 28), .lit (.int .u8 2), .lit (.int .u8 29), .lit (.int .u8 14), .lit (.int .u8 24), .lit (.int .u8 3), .lit (.int .u8 30), .lit (.int .u8 22), .lit (.int .u8 20), .lit (.int .u8 15), .lit (.int .u8 25), .lit (.int .u8 17), .lit (.int .u8 4), .lit (.int .u8 8), .lit (.int .u8 31), .lit (.int .u8 27), .lit (.int .u8 13), .lit (.int .u8 23), .lit (.int .u8 21), .lit (.int .u8 19), .lit (.int .u8 16), .lit (.int .u8 7), .lit (.int .u8 26), .lit (.int .u8 12), .lit (.int .u8 18), .lit (.int .u8 6), .lit (.int .u8 11), .lit (.int .u8 5), .lit (.int .u8 10), .lit (.int .u8 9)]
def laid_math_bits_deBruijn64tab {H : Type} : DataW H := .agg [.lit (.int .u8 0), .lit (.int .u8 1), .lit (.int .u8 56), .lit (.int .u8 2), .lit (.int .u8 57), .lit (.int .u8 49), .lit (.int .u8 28), .lit (.int .u8 3), .lit (.int .u8 61), .lit (.int .u8 58), .lit (.int .u8 42), .lit (.int .u8 50), .lit (.int .u8 38), .lit (.int .u8 29), .lit (.int .u8 17), .lit (.int .u8 4), .lit (.int .u8 62), .lit (.int .u8 47), .lit (.int .u8 59), .lit (.int .u8 36), .lit (.int .u8 45), .lit (.int .u8 43), .lit (.int .u8 51), .lit (.int .u8 22), .lit (.int .u8 53), .lit (.int .u8 39), .lit (.int .u8 33), .lit (.int .u8 30), .lit (.int .u8 24), .lit (.int .u8 18), .lit (.int .u8 12), .lit (.int .u8 5), .lit (.int .u8 63), .lit (.int .u8 55), .lit (.int .u8 48), .lit (.int .u8 27), .lit (.int .u8 60), .lit (.int .u8 41), .lit (.int .u8 37), .lit (.int .u8 16), .lit (.int .u8 46), .lit (.int .u8 35), .lit (.int .u8 44), .lit (.int .u8 21), .lit (.int .u8 52), .lit (.int .u8 32), .lit (.int .u8 23), .lit (.int .u8 11), .lit (.int .u8 54), .lit (.int .u8 26), .lit (.int .u8 40), .lit (.int .u8 15), .lit (.int .u8 34), .lit (.int .u8 20), .lit (.int .u8 31), .lit (.int .u8 10), .lit (.int .u8 25), .lit (.int .u8 14), .lit (.int .u8 19), .lit (.int .u8 9), .lit (.int .u8 13), .lit (.int .u8 8), .lit (.int .u8 7), .lit (.int .u8 6)]
def laid_internal_strconv_uint64pow10 {H : Type} : DataW H := .agg [.lit (.int .u64 1), .lit (.int .u64 10), .lit (.int .u64 100), .lit (.int .u64 1000), .lit (.int .u64 10000), .lit (.int .u64 100000), .lit (.int .u64 1000000), .lit (.int .u64 10000000), .lit (.int .u64 100000000), .lit (.int .u64 1000000000), .lit (.int .u64 10000000000), .lit (.int .u64 100000000000), .lit (.int .u64 1000000000000), .lit (.int .u64 10000000000000), .lit (.int .u64 100000000000000), .lit (.int .u64 1000000000000000), .lit (.int .u64 10000000000000000), .lit (.int .u64 100000000000000000), .lit (.int .u64 1000000000000000000), .lit (.int .u64 10000000000000000000)]

/-- 'learnerlaw37.MapperValid': WHATEVER THE INPUT: true; the input reads as it did. -/
def mapperValidSpec : ChangeSpec := { name := "mapperValid", fn := fun _ => fun
  | [d1, d2] => { results := [.lit (.bool true)], args := [d1, d2] }
  | _ => none }
def mapperValidRow : OpenClaim := { program := "ytgmgnkmgofkfpaadoor", sum := "6f445a3bb6383346c802cd307d3b3db000f57ad707f82b9ce26788235463c05e", func := "learner/learnerlaw37.MapperValid", spec := "mapperValid", unfollowed := true, recurses := true, named := ["internal/strconv.uint64pow10", "math/bits.deBruijn32tab", "math/bits.deBruijn64tab"], apart := false, laid := [("math/bits.deBruijn32tab", laid_math_bits_deBruijn32tab), ("math/bits.deBruijn64tab", laid_math_bits_deBruijn64tab), ("internal/strconv.uint64pow10", laid_internal_strconv_uint64pow10)] }
def MapperValidSaid : Prop := mapperValidRow.holds Tryd.pinned (OpenSpec.ofChange mapperValidSpec)

/-- ITS FALSE NEIGHBOUR: 'it returns false'. Refute it at one input. -/
def mapperValidWrong : ChangeSpec := { name := "mapperValid", fn := fun _ => fun
  | [d1, d2] => { results := [.lit (.bool false)], args := [d1, d2] }
  | _ => none }
def MapperValidWrongFalsely : Prop := mapperValidRow.holds Tryd.pinned (OpenSpec.ofChange mapperValidWrong)

/-- 'learnerlaw37.MapperWords': WHATEVER THE INPUT: true; the input reads as it did. -/
def mapperWordsSpec : ChangeSpec := { name := "mapperWords", fn := fun _ => fun
  | [d1, d2] => { results := [.lit (.bool true)], args := [d1, d2] }
  | _ => none }
def mapperWordsRow : OpenClaim := { program := "ytgmgnkmgofkfpaadoor", sum := "6f445a3bb6383346c802cd307d3b3db000f57ad707f82b9ce26788235463c05e", func := "learner/learnerlaw37.MapperWords", spec := "mapperWords", unfollowed := true, recurses := true, named := ["internal/strconv.uint64pow10", "math/bits.deBruijn32tab", "math/bits.deBruijn64tab"], apart := false, laid := [("math/bits.deBruijn32tab", laid_math_bits_deBruijn32tab), ("math/bits.deBruijn64tab", laid_math_bits_deBruijn64tab), ("internal/strconv.uint64pow10", laid_internal_strconv_uint64pow10)] }
def MapperWordsSaid : Prop := mapperWordsRow.holds Tryd.pinned (OpenSpec.ofChange mapperWordsSpec)

/-- ITS FALSE NEIGHBOUR: 'it returns false'. Refute it at one input. -/
def mapperWordsWrong : ChangeSpec := { name := "mapperWords", fn := fun _ => fun
  | [d1, d2] => { results := [.lit (.bool false)], args := [d1, d2] }
  | _ => none }
def MapperWordsWrongFalsely : Prop := mapperWordsRow.holds Tryd.pinned (OpenSpec.ofChange mapperWordsWrong)

/-- 'learnerlaw37.MapperModels': WHATEVER THE INPUT: true; the input reads as it did. -/
def mapperModelsSpec : ChangeSpec := { name := "mapperModels", fn := fun _ => fun
  | [d1, d2] => { results := [.lit (.bool true)], args := [d1, d2] }
  | _ => none }
def mapperModelsRow : OpenClaim := { program := "ytgmgnkmgofkfpaadoor", sum := "6f445a3bb6383346c802cd307d3b3db000f57ad707f82b9ce26788235463c05e", func := "learner/learnerlaw37.MapperModels", spec := "mapperModels", unfollowed := true, recurses := true, named := ["internal/strconv.uint64pow10", "math/bits.deBruijn32tab", "math/bits.deBruijn64tab"], apart := false, laid := [("math/bits.deBruijn32tab", laid_math_bits_deBruijn32tab), ("math/bits.deBruijn64tab", laid_math_bits_deBruijn64tab), ("internal/strconv.uint64pow10", laid_internal_strconv_uint64pow10)] }
def MapperModelsSaid : Prop := mapperModelsRow.holds Tryd.pinned (OpenSpec.ofChange mapperModelsSpec)

/-- ITS FALSE NEIGHBOUR: 'it returns false'. Refute it at one input. -/
def mapperModelsWrong : ChangeSpec := { name := "mapperModels", fn := fun _ => fun
  | [d1, d2] => { results := [.lit (.bool false)], args := [d1, d2] }
  | _ => none }
def MapperModelsWrongFalsely : Prop := mapperModelsRow.holds Tryd.pinned (OpenSpec.ofChange mapperModelsWrong)

/-- 'learnerlaw37.MapperBack': WHATEVER THE INPUT: true; the input reads as it did. -/
def mapperBackSpec : ChangeSpec := { name := "mapperBack", fn := fun _ => fun
  | [d1, d2] => { results := [.lit (.bool true)], args := [d1, d2] }
  | _ => none }
def mapperBackRow : OpenClaim := { program := "ytgmgnkmgofkfpaadoor", sum := "6f445a3bb6383346c802cd307d3b3db000f57ad707f82b9ce26788235463c05e", func := "learner/learnerlaw37.MapperBack", spec := "mapperBack", unfollowed := true, recurses := true, named := ["internal/strconv.uint64pow10", "math/bits.deBruijn32tab", "math/bits.deBruijn64tab"], apart := false, laid := [("math/bits.deBruijn32tab", laid_math_bits_deBruijn32tab), ("math/bits.deBruijn64tab", laid_math_bits_deBruijn64tab), ("internal/strconv.uint64pow10", laid_internal_strconv_uint64pow10)] }
def MapperBackSaid : Prop := mapperBackRow.holds Tryd.pinned (OpenSpec.ofChange mapperBackSpec)

/-- ITS FALSE NEIGHBOUR: 'it returns false'. Refute it at one input. -/
def mapperBackWrong : ChangeSpec := { name := "mapperBack", fn := fun _ => fun
  | [d1, d2] => { results := [.lit (.bool false)], args := [d1, d2] }
  | _ => none }
def MapperBackWrongFalsely : Prop := mapperBackRow.holds Tryd.pinned (OpenSpec.ofChange mapperBackWrong)

/-- 'learnerlaw37.MapperFollows': WHATEVER THE INPUT: true; the input reads as it did. -/
def mapperFollowsSpec : ChangeSpec := { name := "mapperFollows", fn := fun _ => fun
  | [d1, d2, d3] => { results := [.lit (.bool true)], args := [d1, d2, d3] }
  | _ => none }
def mapperFollowsRow : OpenClaim := { program := "ytgmgnkmgofkfpaadoor", sum := "6f445a3bb6383346c802cd307d3b3db000f57ad707f82b9ce26788235463c05e", func := "learner/learnerlaw37.MapperFollows", spec := "mapperFollows", unfollowed := true, recurses := true, named := ["internal/strconv.uint64pow10", "math/bits.deBruijn32tab", "math/bits.deBruijn64tab"], apart := false, laid := [("math/bits.deBruijn32tab", laid_math_bits_deBruijn32tab), ("math/bits.deBruijn64tab", laid_math_bits_deBruijn64tab), ("internal/strconv.uint64pow10", laid_internal_strconv_uint64pow10)] }
def MapperFollowsSaid : Prop := mapperFollowsRow.holds Tryd.pinned (OpenSpec.ofChange mapperFollowsSpec)

/-- ITS FALSE NEIGHBOUR: 'it returns false'. Refute it at one input. -/
def mapperFollowsWrong : ChangeSpec := { name := "mapperFollows", fn := fun _ => fun
  | [d1, d2, d3] => { results := [.lit (.bool false)], args := [d1, d2, d3] }
  | _ => none }
def MapperFollowsWrongFalsely : Prop := mapperFollowsRow.holds Tryd.pinned (OpenSpec.ofChange mapperFollowsWrong)

/-- 'learnerlaw37.MapperClashes': WHATEVER THE INPUT: true; the input reads as it did. -/
def mapperClashesSpec : ChangeSpec := { name := "mapperClashes", fn := fun _ => fun
  | [d1, d2] => { results := [.lit (.bool true)], args := [d1, d2] }
  | _ => none }
def mapperClashesRow : OpenClaim := { program := "ytgmgnkmgofkfpaadoor", sum := "6f445a3bb6383346c802cd307d3b3db000f57ad707f82b9ce26788235463c05e", func := "learner/learnerlaw37.MapperClashes", spec := "mapperClashes", unfollowed := true, recurses := true, named := ["internal/strconv.uint64pow10", "math/bits.deBruijn32tab", "math/bits.deBruijn64tab"], apart := false, laid := [("math/bits.deBruijn32tab", laid_math_bits_deBruijn32tab), ("math/bits.deBruijn64tab", laid_math_bits_deBruijn64tab), ("internal/strconv.uint64pow10", laid_internal_strconv_uint64pow10)] }
def MapperClashesSaid : Prop := mapperClashesRow.holds Tryd.pinned (OpenSpec.ofChange mapperClashesSpec)

/-- ITS FALSE NEIGHBOUR: 'it returns false'. Refute it at one input. -/
def mapperClashesWrong : ChangeSpec := { name := "mapperClashes", fn := fun _ => fun
  | [d1, d2] => { results := [.lit (.bool false)], args := [d1, d2] }
  | _ => none }
def MapperClashesWrongFalsely : Prop := mapperClashesRow.holds Tryd.pinned (OpenSpec.ofChange mapperClashesWrong)

/- THE SECOND FORM. 'bulk': how many values and letters a reading holds, each counted each time it is reached (what is shared counts as often as it is met; a slice's spare places count too). A statement '..UptoSaid' is the law's where the arguments, and the package variables that the reading takes, are together of bulk at most 1048576: NARROWER than '..Said'. Prove '..Said' where nothing that the law and all that it calls make is longer than what came in: it says more and counts as full. Else prove '..UptoSaid'. A law counts once. -/
mutual
def uptoBulk {H : Type} : DataW H → Nat
  | .lit (.string bytes) => bytes.length + 1
  | .lit _ => 1
  | .nil => 1
  | .ptr d => uptoBulk d + 1
  | .slice elems spare => uptoBulkAll elems + uptoBulkAll spare + 1
  | .agg parts => uptoBulkAll parts + 1
  | .iface _ d => uptoBulk d + 1
  | .map entries => uptoBulkEntries entries + 1
  | .held _ => 1
def uptoBulkAll {H : Type} : List (DataW H) → Nat
  | [] => 0
  | d :: r => uptoBulk d + uptoBulkAll r
def uptoBulkEntries {H : Type} : List (Lit × DataW H) → Nat
  | [] => 0
  | x :: r => uptoBulkEntry x + uptoBulkEntries r
def uptoBulkEntry {H : Type} : Lit × DataW H → Nat
  | (.string bytes, d) => bytes.length + uptoBulk d + 1
  | (_, d) => uptoBulk d + 1
 end
def uptoSmall : (H : Type) → List (DataW H) → Bool := fun _ ds => decide (uptoBulkAll ds ≤ 1048576)
def OpenSpec.upto (s : _root_.Go.ChangeSpec) : _root_.Go.OpenSpec := { _root_.Go.OpenSpec.ofChange s with cond := some uptoSmall }

/-- 'learnerlaw37.MapperValid', WHERE WHAT IT READS IS OF BULK AT MOST 1048576: true; the input reads as it did. -/
def mapperValidUptoRow : OpenClaim := { program := "ytgmgnkmgofkfpaadoor", sum := "6f445a3bb6383346c802cd307d3b3db000f57ad707f82b9ce26788235463c05e", func := "learner/learnerlaw37.MapperValid", spec := "mapperValid", unfollowed := true, recurses := true, named := ["internal/strconv.uint64pow10", "math/bits.deBruijn32tab", "math/bits.deBruijn64tab"], apart := false, laid := [("math/bits.deBruijn32tab", laid_math_bits_deBruijn32tab), ("math/bits.deBruijn64tab", laid_math_bits_deBruijn64tab), ("internal/strconv.uint64pow10", laid_internal_strconv_uint64pow10)], narrowed := true }
def MapperValidUptoSaid : Prop := mapperValidUptoRow.holds Tryd.pinned (OpenSpec.upto mapperValidSpec)

/-- 'learnerlaw37.MapperWords', WHERE WHAT IT READS IS OF BULK AT MOST 1048576: true; the input reads as it did. -/
def mapperWordsUptoRow : OpenClaim := { program := "ytgmgnkmgofkfpaadoor", sum := "6f445a3bb6383346c802cd307d3b3db000f57ad707f82b9ce26788235463c05e", func := "learner/learnerlaw37.MapperWords", spec := "mapperWords", unfollowed := true, recurses := true, named := ["internal/strconv.uint64pow10", "math/bits.deBruijn32tab", "math/bits.deBruijn64tab"], apart := false, laid := [("math/bits.deBruijn32tab", laid_math_bits_deBruijn32tab), ("math/bits.deBruijn64tab", laid_math_bits_deBruijn64tab), ("internal/strconv.uint64pow10", laid_internal_strconv_uint64pow10)], narrowed := true }
def MapperWordsUptoSaid : Prop := mapperWordsUptoRow.holds Tryd.pinned (OpenSpec.upto mapperWordsSpec)

/-- 'learnerlaw37.MapperModels', WHERE WHAT IT READS IS OF BULK AT MOST 1048576: true; the input reads as it did. -/
def mapperModelsUptoRow : OpenClaim := { program := "ytgmgnkmgofkfpaadoor", sum := "6f445a3bb6383346c802cd307d3b3db000f57ad707f82b9ce26788235463c05e", func := "learner/learnerlaw37.MapperModels", spec := "mapperModels", unfollowed := true, recurses := true, named := ["internal/strconv.uint64pow10", "math/bits.deBruijn32tab", "math/bits.deBruijn64tab"], apart := false, laid := [("math/bits.deBruijn32tab", laid_math_bits_deBruijn32tab), ("math/bits.deBruijn64tab", laid_math_bits_deBruijn64tab), ("internal/strconv.uint64pow10", laid_internal_strconv_uint64pow10)], narrowed := true }
def MapperModelsUptoSaid : Prop := mapperModelsUptoRow.holds Tryd.pinned (OpenSpec.upto mapperModelsSpec)

/-- 'learnerlaw37.MapperBack', WHERE WHAT IT READS IS OF BULK AT MOST 1048576: true; the input reads as it did. -/
def mapperBackUptoRow : OpenClaim := { program := "ytgmgnkmgofkfpaadoor", sum := "6f445a3bb6383346c802cd307d3b3db000f57ad707f82b9ce26788235463c05e", func := "learner/learnerlaw37.MapperBack", spec := "mapperBack", unfollowed := true, recurses := true, named := ["internal/strconv.uint64pow10", "math/bits.deBruijn32tab", "math/bits.deBruijn64tab"], apart := false, laid := [("math/bits.deBruijn32tab", laid_math_bits_deBruijn32tab), ("math/bits.deBruijn64tab", laid_math_bits_deBruijn64tab), ("internal/strconv.uint64pow10", laid_internal_strconv_uint64pow10)], narrowed := true }
def MapperBackUptoSaid : Prop := mapperBackUptoRow.holds Tryd.pinned (OpenSpec.upto mapperBackSpec)

/-- 'learnerlaw37.MapperFollows', WHERE WHAT IT READS IS OF BULK AT MOST 1048576: true; the input reads as it did. -/
def mapperFollowsUptoRow : OpenClaim := { program := "ytgmgnkmgofkfpaadoor", sum := "6f445a3bb6383346c802cd307d3b3db000f57ad707f82b9ce26788235463c05e", func := "learner/learnerlaw37.MapperFollows", spec := "mapperFollows", unfollowed := true, recurses := true, named := ["internal/strconv.uint64pow10", "math/bits.deBruijn32tab", "math/bits.deBruijn64tab"], apart := false, laid := [("math/bits.deBruijn32tab", laid_math_bits_deBruijn32tab), ("math/bits.deBruijn64tab", laid_math_bits_deBruijn64tab), ("internal/strconv.uint64pow10", laid_internal_strconv_uint64pow10)], narrowed := true }
def MapperFollowsUptoSaid : Prop := mapperFollowsUptoRow.holds Tryd.pinned (OpenSpec.upto mapperFollowsSpec)

/-- 'learnerlaw37.MapperClashes', WHERE WHAT IT READS IS OF BULK AT MOST 1048576: true; the input reads as it did. -/
def mapperClashesUptoRow : OpenClaim := { program := "ytgmgnkmgofkfpaadoor", sum := "6f445a3bb6383346c802cd307d3b3db000f57ad707f82b9ce26788235463c05e", func := "learner/learnerlaw37.MapperClashes", spec := "mapperClashes", unfollowed := true, recurses := true, named := ["internal/strconv.uint64pow10", "math/bits.deBruijn32tab", "math/bits.deBruijn64tab"], apart := false, laid := [("math/bits.deBruijn32tab", laid_math_bits_deBruijn32tab), ("math/bits.deBruijn64tab", laid_math_bits_deBruijn64tab), ("internal/strconv.uint64pow10", laid_internal_strconv_uint64pow10)], narrowed := true }
def MapperClashesUptoSaid : Prop := mapperClashesUptoRow.holds Tryd.pinned (OpenSpec.upto mapperClashesSpec)

end Rows
end Go.Proofs.YtgmgnkmgofkfpaaDoor
