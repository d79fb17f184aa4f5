/- The contract of slices.Compact on an own row of ints, out of the shelf's contract. -/
import Derived.Test.YtlehgfchljdbjaaDoorLy
import Derived.Shelf.Slices.CompactI
set_option linter.unusedSimpArgs false
set_option linter.unusedVariables false
namespace Go.AV
open Go Go.RowKit Go.Sort
end Go.AV
