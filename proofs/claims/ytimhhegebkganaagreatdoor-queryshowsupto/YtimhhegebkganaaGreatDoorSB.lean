/- slices.SortFunc laid at the seat, off the kit's shelf. -/
import Derived.Test.YtimhhegebkganaaGreatDoorProg
import Derived.Test.YtimhhegebkganaaGreatDoorPlain
import Derived.Shelf.SlGeneric
import Derived.Test.YtimhhegebkganaaGreatDoorSl12
set_option linter.unusedSimpArgs false
set_option linter.unusedVariables false
namespace Go.SL
open Go.Proofs Go.Shelf
end Go.SL
