/- Part of the proof. -/
import Derived.Test.YtiedpcchhicifaaGreatDoorLx
import Derived.Sort.OwnSortedInts
set_option linter.unusedSimpArgs false
set_option linter.unusedVariables false
namespace Go.AV
open Go Go.RowKit Go.Sort
end Go.AV
