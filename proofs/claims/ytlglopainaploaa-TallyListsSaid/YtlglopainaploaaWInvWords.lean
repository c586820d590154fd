-- Words of the kit's print, less what this claim doesn't name (by this session's own program trim.py).
import Derived.Test.YtlglopainaploaaWInv
import Derived.Test.YtlglopainaploaaWFootNe
namespace Go.Proofs.YtlglopainaploaaW.PrintWords
open Go.RowKit
end Go.Proofs.YtlglopainaploaaW.PrintWords
namespace Go.Proofs.YtlglopainaploaaW.PrintLast
end Go.Proofs.YtlglopainaploaaW.PrintLast
