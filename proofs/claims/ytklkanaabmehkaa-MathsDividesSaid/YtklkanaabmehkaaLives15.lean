/- The document's examples of chapter 15. -/
import Derived.Test.YtklkanaabmehkaaPLx6
import Derived.Test.YtklkanaabmehkaaBase
set_option linter.unusedVariables false
set_option linter.unusedSimpArgs false
namespace Go.Proofs.Ytklkanaabmehkaa.Pure
open Go.RowKit Go.Proofs.Ytklkanaabmehkaa.PL Go.Proofs.YtklkanaabmehkaaW.PrintWords Go.Proofs.YtklkanaabmehkaaW.PrintLast Go.Proofs.YtklkanaabmehkaaW.PrintMore

theorem lives : Ev (fun k => foolscaplaw15_lives.f k) true := Ev.of (fun k => foolscaplaw15_lives.mono k) (k := 80) (by decide +kernel)
/-- A law that ends with the examples. -/
theorem ends : Ev (fun k => (foolscaplaw15_lives.f k).bind fun t => some t) true := Ev.bind lives (Ev.now _)
end Go.Proofs.Ytklkanaabmehkaa.Pure
