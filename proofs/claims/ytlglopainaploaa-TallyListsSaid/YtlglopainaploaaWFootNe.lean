-- Words of the kit's print, less what this claim doesn't name (by this session's own program trim.py).
import Derived.Test.YtlglopainaploaaWN
namespace Go.Proofs.YtlglopainaploaaW.PrintWords
open Go.RowKit
namespace Kd
end Kd
end Go.Proofs.YtlglopainaploaaW.PrintWords
