-- Words of the kit's print, less what this claim doesn't name (by this session's own program trim.py).
import Derived.Test.YtlglopainaploaaWTab
namespace Go.Proofs.YtlglopainaploaaW.PrintLast
end Go.Proofs.YtlglopainaploaaW.PrintLast
