/- Sums stand in order: the statement over numbers. -/
import Derived.Test.YtphbgiaabkbccaaPAllx10
import Derived.Test.YtphbgiaabkbccaaWideCmp
set_option linter.unusedVariables false
set_option linter.unusedSimpArgs false
namespace Go.Proofs.Ytphbgiaabkbccaa.Pure
open Go.RowKit Go.Proofs.Ytphbgiaabkbccaa.PAll Go.Proofs.YtphbgiaabkbccaaW.PrintWords Go.Proofs.YtphbgiaabkbccaaW.PrintLast Go.Proofs.YtphbgiaabkbccaaW.PrintMore

theorem order_j0 (h l n : Int) (hn : -9223372036854775808 ≤ n) (hn' : n ≤ 9223372036854775807) : Ev (fun k => foolscaplaw03_WideOrder.j0 k n false h l) true := by
  by_cases c : WV h l ∧ FitsI n
  · obtain ⟨r, e1, e2⟩ := of_WV c.1
    by_cases s : inR (val h l + n)
    · have ha := add_in r c.2 s
      rw [← e1, ← e2] at ha
      have hc := cmp_of h l ((val h l + n) / 1000000000000000000) ((val h l + n) % 1000000000000000000)
      rw [if_pos ⟨c.1, WV_of s⟩, val_of] at hc
      refine Ev.step (fun k => ?_) (Ev.bind (f := fun k bt => if bt.2 = 0 then (if ((decide (bt.1 < 0)) == (decide (n > 0))) = true then (if ((decide (bt.1 > 0)) == (decide (n < 0))) = true then ((foolscaplaw03_lives.f k).bind fun t => (some t)) else (some false)) else (some false)) else (some false)) hc (Ev.congr (fun k => ?_) ends))
      · simp only [foolscaplaw03_WideOrder.j0]
        rw [if_neg (by decide), ha]
        simp only [Option.bind_some]
        rw [if_pos trivial]
      · unfold cmpV
        by_cases c1 : n > 0
        · rw [if_pos (show val h l < val h l + n by omega), if_pos rfl, decide_eq_true c1, decide_eq_false (show ¬ n < 0 by omega)]; rfl
        · by_cases c2 : n < 0
          · rw [if_neg (show ¬ val h l < val h l + n by omega), if_pos (show val h l + n < val h l by omega), if_pos rfl, decide_eq_false c1, decide_eq_true c2]; rfl
          · rw [if_neg (show ¬ val h l < val h l + n by omega), if_neg (show ¬ val h l + n < val h l by omega), if_pos rfl, decide_eq_false c1, decide_eq_false c2]; rfl
    · have ha := add_out r c.2 s
      rw [← e1, ← e2] at ha
      refine Ev.step (fun k => ?_) ends
      simp only [foolscaplaw03_WideOrder.j0]
      rw [if_neg (by decide), ha]
      simp only [Option.bind_some]
      rw [if_neg (by decide)]
  · refine Ev.step (fun k => ?_) ends
    simp only [foolscaplaw03_WideOrder.j0]
    rw [if_neg (by decide), add_of, if_neg c]
    simp only [Option.bind_some]
    rw [if_neg (by decide)]

theorem WideOrder : foolscaplaw03_WideOrder.Pure := by
  intro h l h' l' n _ _ _ _ wn
  have hn : -9223372036854775808 ≤ n ∧ n ≤ 9223372036854775807 := by
    simp only [Lit.wf, IntKind.min, IntKind.max, IntKind.signed, IntKind.bits, Bool.and_eq_true, decide_eq_true_eq, if_true] at wn
    omega
  refine Ev.rounds (g := fun k => foolscaplaw03_WideOrder.f k h l h' l' n) ?_
  unfold foolscaplaw03_WideOrder.f
  refine Ev.bind (cmp_of h l h' l') (Ev.bind (cmp_of h' l' h l) (Ev.congr (fun k => ?_) (order_j0 h l n hn.1 hn.2)))
  by_cases c : WV h l ∧ WV h' l'
  · rw [if_pos c, if_pos (show WV h' l' ∧ WV h l from ⟨c.2, c.1⟩), if_pos rfl]
    have e : cmpV (val h l) (val h' l') = wrap64 (-cmpV (val h' l') (val h l)) := by
      unfold cmpV
      by_cases c1 : val h l < val h' l'
      · rw [if_pos c1, if_neg (by omega), if_pos c1, wr64 (by decide) (by decide)]
      · by_cases c2 : val h' l' < val h l
        · rw [if_neg c1, if_pos c2, if_pos c2, wr64 (by decide) (by decide)]; rfl
        · rw [if_neg c1, if_neg c2, if_neg c2, if_neg c1, wr64 (by decide) (by decide)]; rfl
    rw [if_pos e, if_pos rfl, cmp_eq c.1 c.2]
    have e2 : (cmpV (val h l) (val h' l') == 0) = decide (val h l = val h' l') := by
      unfold cmpV
      by_cases c1 : val h l < val h' l'
      · rw [if_pos c1, decide_eq_false (by omega)]; rfl
      · by_cases c2 : val h' l' < val h l
        · rw [if_neg c1, if_pos c2, decide_eq_false (by omega)]; rfl
        · rw [if_neg c1, if_neg c2, decide_eq_true (by omega)]; rfl
    rw [e2, bne_self_eq_false]
  · rw [if_neg c, if_neg (show ¬ (WV h' l' ∧ WV h l) from fun q => c ⟨q.2, q.1⟩), if_pos rfl, if_pos (by rw [wr64 (by decide) (by decide)]; rfl), if_neg (by decide)]
end Go.Proofs.Ytphbgiaabkbccaa.Pure
