/- How sums stand, by their values. -/
import Derived.Test.YtphbgiaabkbccaaPAllx9
import Derived.Test.YtphbgiaabkbccaaLives03
set_option linter.unusedVariables false
set_option linter.unusedSimpArgs false
namespace Go.Proofs.Ytphbgiaabkbccaa.Pure
open Go.RowKit Go.Proofs.Ytphbgiaabkbccaa.PAll Go.Proofs.YtphbgiaabkbccaaW.PrintWords Go.Proofs.YtphbgiaabkbccaaW.PrintLast Go.Proofs.YtphbgiaabkbccaaW.PrintMore

def cmpV (a b : Int) : Int := if a < b then -1 else if b < a then 1 else 0
theorem cmpInt_of (a b : Int) : cmp_Compare_int.f a b = some (cmpV a b) := by
  unfold cmp_Compare_int.f cmp_isNaN_int.f cmpV
  simp only [bne_self_eq_false, Option.bind_some, Bool.false_eq_true, if_false]
  by_cases c : a < b
  · rw [if_pos c, if_pos c]
  · rw [if_neg c, if_neg c]
    by_cases d : a > b
    · rw [if_pos d, if_pos d]
    · rw [if_neg d, if_neg d]
theorem cmpOr_of (a b : Int) : Ev (fun k => cmp_Or_int.f k [a, b]) (if a = 0 then b else a) := by
  have r0 : rd [a, b] 0 = a := rfl
  have r1 : rd [a, b] 1 = b := rfl
  have w1 : wrap64 (0 + 1) = 1 := wr64 (by decide) (by decide)
  have w2 : wrap64 (1 + 1) = 2 := wr64 (by decide) (by decide)
  have e2 : Ev (fun k => cmp_Or_int.l0 k 0 [a, b] 2 2) 0 := Ev.step (f := fun _ => some 0) (fun k => by simp only [cmp_Or_int.l0]; rw [if_neg (by decide)]) (Ev.now _)
  have e1 : Ev (fun k => cmp_Or_int.l0 k 0 [a, b] 2 1) b := by
    by_cases c : b = 0
    · refine Ev.step (f := fun k => cmp_Or_int.l0 k 0 [a, b] 2 2) (fun k => ?_) (c ▸ e2)
      simp only [cmp_Or_int.l0]; rw [if_pos (by decide), if_pos (by decide), if_pos (by simp), r1, if_pos c, w2]
    · refine Ev.step (f := fun k => some b) (fun k => ?_) (Ev.now _)
      simp only [cmp_Or_int.l0]; rw [if_pos (by decide), if_pos (by decide), if_pos (by simp), r1, if_neg c]
  unfold cmp_Or_int.f
  by_cases c : a = 0
  · rw [if_pos c]
    refine Ev.step (f := fun k => cmp_Or_int.l0 k 0 [a, b] 2 1) (fun k => ?_) e1
    simp only [cmp_Or_int.l0]; rw [if_pos (by simp), if_pos (by decide), if_pos (by simp), r0, if_pos c, w1]; rfl
  · rw [if_neg c]
    refine Ev.step (f := fun k => some a) (fun k => ?_) (Ev.now _)
    simp only [cmp_Or_int.l0]; rw [if_pos (by simp), if_pos (by decide), if_pos (by simp), r0, if_neg c]
theorem cmp_eq {h l h' l' : Int} (c : WV h l) (d : WV h' l') : (h == h' && (l == l')) = decide (val h l = val h' l') := by
  by_cases e : val h l = val h' l'
  · obtain ⟨rfl, rfl⟩ := val_inj c d e
    simp
  · rw [decide_eq_false e]
    by_cases e1 : h = h'
    · by_cases e2 : l = l'
      · subst e1; subst e2; exact absurd rfl e
      · simp [e2]
    · simp [e1]
theorem cmp_of (h l h' l' : Int) : Ev (fun k => wide_Compare.f k h l h' l') (if WV h l ∧ WV h' l' then (cmpV (val h l) (val h' l'), 0) else (0, 2)) := by
  have bad : Ev (fun k => wide_Compare.j0 k true h l h' l') (0, 2) := Ev.step (f := fun _ => some (0, 2)) (fun k => by simp only [wide_Compare.j0]; rw [if_pos trivial]) (Ev.now _)
  by_cases c : WV h l
  · by_cases d : WV h' l'
    · rw [if_pos ⟨c, d⟩]
      refine Ev.congr (f := fun k => wide_Compare.j0 k false h l h' l') (fun k => by unfold wide_Compare.f; rw [check_of, check_of, if_pos c, if_pos d]; rfl) ?_
      by_cases e : val h l = val h' l'
      · have e0 : cmpV (val h l) (val h' l') = 0 := by unfold cmpV; rw [if_neg (by omega), if_neg (by omega)]
        rw [e0]
        refine Ev.step (f := fun _ => some (0, 0)) (fun k => ?_) (Ev.now _)
        simp only [wide_Compare.j0]
        rw [if_neg (by decide), cmp_eq c d, decide_eq_true e, if_pos rfl]
      · have hv : cmpV (val h l) (val h' l') = if cmpV h h' = 0 then cmpV l l' else cmpV h h' := by
          obtain ⟨_, _, _, _⟩ := c; obtain ⟨_, _, _, _⟩ := d
          unfold cmpV val
          by_cases e1 : h < h'
          · rw [if_pos e1, if_pos (show h * 1000000000000000000 + l < h' * 1000000000000000000 + l' by omega), if_neg (by decide)]
          · rw [if_neg e1]
            by_cases e2 : h' < h
            · rw [if_pos e2, if_neg (show ¬ h * 1000000000000000000 + l < h' * 1000000000000000000 + l' by omega), if_pos (show h' * 1000000000000000000 + l' < h * 1000000000000000000 + l by omega), if_neg (by decide)]
            · rw [if_neg e2, if_pos rfl]
              obtain rfl : h = h' := by omega
              by_cases e3 : l < l'
              · rw [if_pos e3, if_pos (show h * 1000000000000000000 + l < h * 1000000000000000000 + l' by omega)]
              · rw [if_neg e3, if_neg (show ¬ h * 1000000000000000000 + l < h * 1000000000000000000 + l' by omega)]
                by_cases e4 : l' < l
                · rw [if_pos e4, if_pos (show h * 1000000000000000000 + l' < h * 1000000000000000000 + l by omega)]
                · rw [if_neg e4, if_neg (show ¬ h * 1000000000000000000 + l' < h * 1000000000000000000 + l by omega)]
        rw [hv]
        refine Ev.step (fun k => ?_) (Ev.bind (f := fun _ t => some (t, 0)) (cmpOr_of (cmpV h h') (cmpV l l')) (Ev.now _))
        simp only [wide_Compare.j0]
        rw [if_neg (by decide), cmp_eq c d, decide_eq_false e, if_neg (by decide), cmpInt_of, cmpInt_of]
        rfl
    · rw [if_neg (fun q => d q.2)]
      exact Ev.congr (fun k => by unfold wide_Compare.f; rw [check_of, check_of, if_pos c, if_neg d]; rfl) bad
  · rw [if_neg (fun q => c q.1)]
    exact Ev.congr (fun k => by unfold wide_Compare.f; rw [check_of, if_neg c]; rfl) bad
end Go.Proofs.Ytphbgiaabkbccaa.Pure
