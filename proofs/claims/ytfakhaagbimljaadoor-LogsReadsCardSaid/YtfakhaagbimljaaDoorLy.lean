/- The contract of slices.Sort on an own row of ints, out of the shelf's contract. -/
import Derived.Test.YtfakhaagbimljaaDoorLx
import Derived.Sort.OwnSortedInts
set_option linter.unusedSimpArgs false
set_option linter.unusedVariables false
namespace Go.AV
open Go Go.RowKit Go.Sort
end Go.AV
