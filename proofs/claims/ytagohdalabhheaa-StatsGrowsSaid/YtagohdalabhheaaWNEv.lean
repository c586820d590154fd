-- Words of the kit's print, less what this claim doesn't name (by this session's own program trim.py).
import Derived.Test.YtagohdalabhheaaWN
namespace Go.Proofs.YtagohdalabhheaaW.PrintWords
open Go.RowKit
namespace Kd
end Kd
end Go.Proofs.YtagohdalabhheaaW.PrintWords
