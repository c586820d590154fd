-- Words of the kit's print, less what this claim doesn't name (by this session's own program trim.py).
import Derived.Test.YtagohdalabhheaaWWords
import Derived.Laws.StructEq
namespace Go.Proofs.YtagohdalabhheaaW.PrintWords
open Go.RowKit
end Go.Proofs.YtagohdalabhheaaW.PrintWords
