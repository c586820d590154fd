/- What the reference's printed functions over single numbers tell. -/
import Derived.Test.YtklkanaabmehkaaPRx8
import Derived.Test.YtklkanaabmehkaaPRx8
import Derived.Test.YtklkanaabmehkaaPRx8
import Derived.Test.YtklkanaabmehkaaMathsS
set_option linter.unusedVariables false
set_option linter.unusedSimpArgs false
namespace Go.Proofs.Ytklkanaabmehkaa.Pure
open Go.RowKit Go.Proofs.Ytklkanaabmehkaa.PR Go.Proofs.YtklkanaabmehkaaW.PrintWords Go.Proofs.YtklkanaabmehkaaW.PrintLast Go.Proofs.YtklkanaabmehkaaW.PrintMore

theorem refFits_of (n : Int) : foolscapref01_Fits.f n = some (decide (FitsI n)) := by
  unfold foolscapref01_Fits.f
  by_cases c : n ≥ -1000000000000000000
  · rw [if_pos c]
    congr 1
    exact decide_eq_decide.2 ⟨fun h => ⟨c, h⟩, fun h => h.2⟩
  · rw [if_neg c, decide_eq_false (show ¬ FitsI n from fun q => c q.1)]
theorem refSize_of {n : Int} (h0 : -9223372036854775807 ≤ n) (h1 : n ≤ 9223372036854775807) : foolscapref01_Size.f n = some (absI n) := by
  unfold foolscapref01_Size.f; rw [mx_abs h0 h1]
theorem refTold_of (n : Int) : foolscapref15_told.f n = some (toldV n) := by
  unfold foolscapref15_told.f toldV
  rw [refFits_of]
  simp only [Option.bind_some]
  by_cases c : FitsI n
  · rw [decide_eq_true c, if_pos rfl, if_pos c]
  · rw [decide_eq_false c, if_neg (by decide), if_neg c]
end Go.Proofs.Ytklkanaabmehkaa.Pure
