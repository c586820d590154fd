-- Words of the kit's print, less what this claim doesn't name (by this session's own program trim.py).
import Derived.Test.YtagohdalabhheaaWTab
namespace Go.Proofs.YtagohdalabhheaaW.PrintLast
end Go.Proofs.YtagohdalabhheaaW.PrintLast
