/- The contracts of slices.Sorted of maps.Keys at this program, in plain words; written by the programs of the kit (lay-iter, lay-plain). -/
import Derived.Shelf.SlIter.Nil
import Derived.Shelf.SortM.Plain
import Derived.Shelf.SortM.SortNone
import Derived.Ground.GgzProg
import Derived.Ground.SlgmProg
import Derived.Test.YtapfnehdgailmaaGreatProg
set_option maxHeartbeats 1000000
set_option maxRecDepth 10000
namespace Go.Proofs
open Go.Shelf Tryz
open Go.RowKit Go.Maps Go.Sort Go.Shelf

end Go.Proofs
