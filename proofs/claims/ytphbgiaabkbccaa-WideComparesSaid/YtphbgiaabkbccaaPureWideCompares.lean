/- Any two sums stand as the document says: the statement over numbers. -/
import Derived.Test.YtphbgiaabkbccaaPAllx10
import Derived.Test.YtphbgiaabkbccaaWideCmp
set_option linter.unusedVariables false
set_option linter.unusedSimpArgs false
namespace Go.Proofs.Ytphbgiaabkbccaa.Pure
open Go.RowKit Go.Proofs.Ytphbgiaabkbccaa.PAll Go.Proofs.YtphbgiaabkbccaaW.PrintWords Go.Proofs.YtphbgiaabkbccaaW.PrintLast Go.Proofs.YtphbgiaabkbccaaW.PrintMore

theorem refRight_is (h l : Int) : foolscapref03_Right.f h l = some (decide (WV h l)) := by
  unfold foolscapref03_Right.f
  by_cases c1 : l ≥ 0
  · rw [if_pos c1]
    by_cases c2 : l < 1000000000000000000
    · rw [if_pos c2]
      by_cases c3 : h ≥ -2147483648
      · rw [if_pos c3]
        congr 1
        exact decide_eq_decide.2 ⟨fun q => ⟨c1, c2, c3, q⟩, fun q => q.2.2.2⟩
      · rw [if_neg c3, decide_eq_false (show ¬ WV h l from fun q => c3 q.2.2.1)]
    · rw [if_neg c2, decide_eq_false (show ¬ WV h l from fun q => c2 q.2.1)]
  · rw [if_neg c1, decide_eq_false (show ¬ WV h l from fun q => c1 q.1)]
theorem refCmp_of (h l h' l' : Int) : Ev (fun k => foolscapref03_Compare.f k h l h' l') (if WV h l ∧ WV h' l' then (cmpV (val h l) (val h' l'), 0) else (0, 2)) := by
  have bad : Ev (fun k => foolscapref03_Compare.j0 k true h l h' l') (0, 2) := Ev.step (f := fun _ => some (0, 2)) (fun k => by simp only [foolscapref03_Compare.j0]; rw [if_pos trivial]) (Ev.now _)
  by_cases c : WV h l
  · by_cases d : WV h' l'
    · rw [if_pos ⟨c, d⟩]
      refine Ev.congr (f := fun k => foolscapref03_Compare.j0 k false h l h' l') (fun k => by unfold foolscapref03_Compare.f; rw [refRight_is, refRight_is, decide_eq_true c, decide_eq_true d]; rfl) ?_
      refine Ev.step (f := fun _ => some (cmpV (val h l) (val h' l'), 0)) (fun k => ?_) (Ev.now _)
      simp only [foolscapref03_Compare.j0]
      rw [if_neg (by decide), cmp_eq c d]
      obtain ⟨_, _, _, _⟩ := c; obtain ⟨_, _, _, _⟩ := d
      unfold cmpV val
      by_cases e : h * 1000000000000000000 + l = h' * 1000000000000000000 + l'
      · rw [decide_eq_true e, if_pos rfl, if_neg (by omega), if_neg (by omega)]
      · rw [decide_eq_false e, if_neg (by decide)]
        by_cases e1 : h < h'
        · rw [if_pos e1, if_pos (by omega)]
        · rw [if_neg e1]
          by_cases e2 : h = h'
          · rw [if_pos e2]
            by_cases e3 : l < l'
            · rw [if_pos e3, if_pos (by omega)]
            · rw [if_neg e3, if_neg (by omega), if_pos (by omega)]
          · rw [if_neg e2, if_neg (by omega), if_pos (by omega)]
    · rw [if_neg (fun q => d q.2)]
      exact Ev.congr (fun k => by unfold foolscapref03_Compare.f; rw [refRight_is, refRight_is, decide_eq_true c, decide_eq_false d]; rfl) bad
  · rw [if_neg (fun q => c q.1)]
    exact Ev.congr (fun k => by unfold foolscapref03_Compare.f; rw [refRight_is, decide_eq_false c]; rfl) bad

theorem WideCompares : foolscaplaw03_WideCompares.Pure := by
  intro h l h' l' _ _ _ _
  refine Ev.rounds (g := fun k => foolscaplaw03_WideCompares.f k h l h' l') ?_
  unfold foolscaplaw03_WideCompares.f
  refine Ev.bind (cmp_of h l h' l') (Ev.bind (refCmp_of h l h' l') (Ev.congr (fun k => ?_) ends))
  simp
end Go.Proofs.Ytphbgiaabkbccaa.Pure
