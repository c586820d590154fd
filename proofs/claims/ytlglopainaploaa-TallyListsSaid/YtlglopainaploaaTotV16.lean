/- Sums and means of lists: what the printed functions tell. -/
import Derived.Test.YtlglopainaploaaPLx4
import Derived.Test.YtlglopainaploaaSumV16
set_option linter.unusedVariables false
set_option linter.unusedSimpArgs false
namespace Go.Proofs.Ytlglopainaploaa.Pure
open Go.RowKit Go.Proofs.Ytlglopainaploaa.PL Go.Proofs.YtlglopainaploaaW.PrintWords Go.Proofs.YtlglopainaploaaW.PrintLast Go.Proofs.YtlglopainaploaaW.PrintMore

def sumV (l : List Int) : Int × Int := if GoodL l ∧ FitsI (sumI l) then (sumI l, 0) else (0, 5)
theorem sum_of (l : List Int) : Ev (fun k => stats_Sum.f k l) (sumV l) := by
  unfold sumV
  by_cases g : GoodL l
  · refine Ev.bind (good_of l) (Ev.congr (fun k => if_pos (decide_eq_true g)) (Ev.bind (total_of_good g) ?_))
    refine Ev.congr (f := fun _ => some (if GoodL l ∧ FitsI (sumI l) then (sumI l, 0) else (0, 5))) (fun k => ?_) (Ev.now _)
    dsimp only
    rw [total_v (sumI_in g)]
    simp only [Option.bind_some]
    by_cases f : FitsI (sumI l)
    · rw [if_pos (show -1000000000000000000 ≤ sumI l ∧ sumI l ≤ 1000000000000000000 from f), if_pos (show GoodL l ∧ FitsI (sumI l) from ⟨g, f⟩)]; rfl
    · rw [if_neg (show ¬ (-1000000000000000000 ≤ sumI l ∧ sumI l ≤ 1000000000000000000) from f), if_neg (show ¬ (GoodL l ∧ FitsI (sumI l)) from fun q => f q.2)]; rfl
  · rw [if_neg (fun q => g q.1)]
    exact Ev.bind (good_of l) (Ev.congr (f := fun _ => some (0, 5)) (fun k => if_neg (by rw [decide_eq_false g]; decide)) (Ev.now _))
end Go.Proofs.Ytlglopainaploaa.Pure
