/- The document's examples of chapter 16. -/
import Derived.Test.YtagohdalabhheaaPGx7
import Derived.Test.YtagohdalabhheaaBase
set_option linter.unusedVariables false
set_option linter.unusedSimpArgs false
namespace Go.Proofs.Ytagohdalabhheaa.Pure
open Go.RowKit Go.Proofs.Ytagohdalabhheaa.PG Go.Proofs.YtagohdalabhheaaW.PrintWords Go.Proofs.YtagohdalabhheaaW.PrintLast Go.Proofs.YtagohdalabhheaaW.PrintMore

theorem lives : Ev (fun k => foolscaplaw16_lives.f k) true := Ev.of (fun k => foolscaplaw16_lives.mono k) (k := 80) (by decide +kernel)
/-- A law that ends with the examples. -/
theorem ends : Ev (fun k => (foolscaplaw16_lives.f k).bind fun t => some t) true := Ev.bind lives (Ev.now _)
end Go.Proofs.Ytagohdalabhheaa.Pure
