/- The root of a whole number's square is that number: the statement over numbers. -/
import Derived.Test.YtklkanaabmehkaaPPx10
import Derived.Test.YtklkanaabmehkaaRootV
import Derived.Test.YtklkanaabmehkaaPowV
import Derived.Test.YtklkanaabmehkaaLives15
set_option linter.unusedVariables false
set_option linter.unusedSimpArgs false
namespace Go.Proofs.Ytklkanaabmehkaa.Pure
open Go.RowKit Go.Proofs.Ytklkanaabmehkaa.PP Go.Proofs.YtklkanaabmehkaaW.PrintWords Go.Proofs.YtklkanaabmehkaaW.PrintLast Go.Proofs.YtklkanaabmehkaaW.PrintMore

theorem MathsSquares : foolscaplaw15_MathsSquares.Pure := by
  intro n _
  refine Ev.rounds (g := fun k => foolscaplaw15_MathsSquares.f k n) ?_
  have out : Ev (fun k => foolscaplaw15_MathsSquares.j0 k n true) true := Ev.step (fun k => by simp only [foolscaplaw15_MathsSquares.j0]; rw [if_pos trivial]) ends
  unfold foolscaplaw15_MathsSquares.f
  by_cases c1 : n < 0
  · exact Ev.congr (fun k => if_pos c1) out
  refine Ev.congr (fun k => if_neg c1) ?_
  by_cases c2 : n > 1000000
  · rw [decide_eq_true c2]; exact out
  rw [decide_eq_false c2]
  have hb := mul_bound (a := n) (b := n) (A := 1000000) (B := 1000000) (by omega) (by omega) (by omega) (by omega)
  obtain ⟨s, hs, hev⟩ := root_ok (n := n * n * 1000000) ⟨by omega, by omega⟩ (by omega)
  have e1 : n * n * 1000000 * 1000000 = (n * 1000000) * (n * 1000000) := by grind
  have e2 : s = n * 1000000 := rt_one hs (by rw [e1]; exact rt_sq (by omega))
  have e3 : rootR (n * n * 1000000 * 1000000) s = n * 1000000 := by
    unfold rootR; rw [e2, e1, if_neg (by omega)]
  rw [e3] at hev
  have hp := pow_of (n * 1000000) 2000000
  have e4 : powV (n * 1000000) 2000000 = (n * n * 1000000, 0) := by
    unfold powV
    rw [if_pos (show PowOk (n * 1000000) 2000000 from ⟨⟨by omega, by omega⟩, ⟨by decide, by decide⟩, by decide, by decide, fun q => by have := q.2; omega⟩), if_neg (by decide), show (absI 2000000 / 1000000 - 1).toNat = 1 by decide]
    have e5 : mulV (n * 1000000) (n * 1000000) = (n * n * 1000000, 0) := by
      unfold mulV signed
      rw [show absI (n * 1000000) = n * 1000000 from if_neg (by omega), ← e1, show n * n * 1000000 * 1000000 = 1000000 * (n * n * 1000000) by omega, rhe_exact (by decide), if_neg (by omega), if_neg (by simp)]
    unfold powL
    rw [e5, if_pos rfl]
    show powEnd 2000000 (n * n * 1000000) = _
    unfold powEnd
    rw [if_pos (by decide)]
  rw [e4] at hp
  refine Ev.step (f := fun k => (maths_Root.f k (n * n * 1000000)).bind fun bt245 => ((maths_Power.f k (n * 1000000) 2000000).bind fun bt247 => (if bt245.1 = (n * 1000000) then (if bt245.2 = 0 then (if bt247.1 = (n * n * 1000000) then (if bt247.2 = 0 then ((foolscaplaw15_lives.f k).bind fun t249 => (some t249)) else (some false)) else (some false)) else (some false)) else (some false)))) (fun k => ?_) (Ev.bind hev (Ev.bind hp (Ev.congr (fun k => ?_) ends)))
  · simp only [foolscaplaw15_MathsSquares.j0]
    rw [if_neg (by decide), wr64 (x := n * n) (by omega) (by omega), wr64 (x := n * n * 1000000) (by omega) (by omega), wr64 (x := n * 1000000) (by omega) (by omega)]
  · rw [if_pos rfl, if_pos rfl, if_pos rfl, if_pos rfl]
end Go.Proofs.Ytklkanaabmehkaa.Pure
