-- Words of the kit's print, less what this claim doesn't name (by this session's own program trim.py).
import Derived.Test.YtagohdalabhheaaWInv
import Derived.Test.YtagohdalabhheaaWFootNe
namespace Go.Proofs.YtagohdalabhheaaW.PrintWords
open Go.RowKit
end Go.Proofs.YtagohdalabhheaaW.PrintWords
namespace Go.Proofs.YtagohdalabhheaaW.PrintLast
end Go.Proofs.YtagohdalabhheaaW.PrintLast
