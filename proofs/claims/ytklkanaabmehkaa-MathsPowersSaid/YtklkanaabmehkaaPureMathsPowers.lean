/- Any number has the power, the root and the factorial that the document says, or none: the statement over numbers. -/
import Derived.Test.YtklkanaabmehkaaPQx9
import Derived.Test.YtklkanaabmehkaaRefRoot
import Derived.Test.YtklkanaabmehkaaRefMul
import Derived.Test.YtklkanaabmehkaaPowV
import Derived.Test.YtklkanaabmehkaaLives15
set_option linter.unusedVariables false
set_option linter.unusedSimpArgs false
namespace Go.Proofs.Ytklkanaabmehkaa.Pure
open Go.RowKit Go.Proofs.Ytklkanaabmehkaa.PQ Go.Proofs.YtklkanaabmehkaaW.PrintWords Go.Proofs.YtklkanaabmehkaaW.PrintLast Go.Proofs.YtklkanaabmehkaaW.PrintMore

theorem refPow_end (q : Int) {p : Int} (fp : FitsI p) : Ev (fun k => if q > 0 then some (p, 0) else if p = 0 then some (0, 1) else (foolscapref01_Div.f k 1000000 p).bind fun bt166 => if bt166.2 = 0 then some (bt166.1, 0) else some (0, 5)) (powEnd q p) := by
  unfold powEnd
  by_cases c : q > 0
  · rw [if_pos c]; exact Ev.congr (f := fun _ => some (p, 0)) (fun k => if_pos c) (Ev.now _)
  rw [if_neg c]
  refine Ev.congr (fun k => if_neg c) ?_
  by_cases z : p = 0
  · have hd : divV 1000000 p = (0, 4) := if_pos z
    rw [hd, if_neg (by decide), if_pos rfl]
    exact Ev.congr (f := fun _ => some (0, 1)) (fun k => if_pos z) (Ev.now _)
  · refine Ev.congr (fun k => if_neg z) ?_
    have hd := refDiv_of 1000000 p
    rw [if_pos ⟨⟨by decide, by decide⟩, fp⟩] at hd
    have h4 : (divV 1000000 p).2 ≠ 4 := by
      unfold divV
      rw [if_neg z]
      split
      · decide
      · dsimp only; omega
    refine Ev.bind hd (Ev.congr (f := fun _ => some _) (fun k => ?_) (Ev.now _))
    rw [if_neg h4]
    split <;> rfl
theorem refPow_l0 {n q K : Int} (fn : FitsI n) (hq : absI q / 1000000 = K) (q1 : absI q ≤ 1000000000) : ∀ (d : Nat) (p i : Int), FitsI p → 1 ≤ i → i + d = K →
    Ev (fun k => foolscapref15_Power.l0 k n q p i) (powL n q d p) := by
  have sq : foolscapref01_Size.f q = some (absI q) := refSize_of (by unfold absI at q1; split at q1 <;> omega) (by unfold absI at q1; split at q1 <;> omega)
  have q0 := absI_nonneg q
  have sw : wrap64 (Int.tdiv (absI q) 1000000) = K := by rw [Int.tdiv_eq_ediv_of_nonneg q0, wr64 (by omega) (by omega), hq]
  intro d
  induction d with
  | zero =>
    intro p i fp i0 i1
    refine Ev.step (fun k => ?_) (refPow_end q fp)
    simp only [foolscapref15_Power.l0]
    rw [sq]
    simp only [Option.bind_some]
    rw [sw, if_neg (by omega)]
  | succ d ih =>
    intro p i fp i0 i1
    have hm := refMul_of p n
    rw [if_pos ⟨fp, fn⟩] at hm
    refine Ev.step (f := fun k => (foolscapref01_Mul.f k p n).bind fun bt164 => (if bt164.2 = 0 then (foolscapref15_Power.l0 k n q bt164.1 (i + 1)) else (some (0, 5)))) (fun k => ?_) (Ev.bind hm ?_)
    · simp only [foolscapref15_Power.l0]
      rw [sq]
      simp only [Option.bind_some]
      rw [sw, if_pos (by omega), wr64 (x := i + 1) (by omega) (by omega)]
    · unfold powL
      by_cases c : (mulV p n).2 = 0
      · rw [if_pos c]
        exact Ev.congr (fun k => if_pos c) (ih (mulV p n).1 (i + 1) (mulV_fits (Prod.ext rfl c)) (by omega) (by omega))
      · rw [if_neg c]
        exact Ev.congr (f := fun _ => some (0, 5)) (fun k => if_neg c) (Ev.now _)
theorem refPow_of (n q : Int) : Ev (fun k => foolscapref15_Power.f k n q) (powV n q) := by
  have bad : Ev (fun k => foolscapref15_Power.j0 k n q true) (0, 5) := Ev.step (f := fun _ => some (0, 5)) (fun k => by simp only [foolscapref15_Power.j0]; rw [if_pos trivial]) (Ev.now _)
  unfold foolscapref15_Power.f powV
  rw [refFits_of, refFits_of]
  simp only [Option.bind_some]
  by_cases c1 : FitsI n
  · refine Ev.congr (fun k => if_pos (decide_eq_true c1)) ?_
    by_cases c2 : FitsI q
    · refine Ev.congr (fun k => if_pos (decide_eq_true c2)) ?_
      by_cases c3 : q.tmod 1000000 = 0
      · refine Ev.congr (fun k => if_pos c3) ?_
        have hq := c2
        obtain ⟨_, _⟩ := hq
        rw [refSize_of (by omega) (by omega)]
        simp only [Option.bind_some]
        by_cases c4 : absI q > 1000000000
        · rw [if_neg (show ¬ PowOk n q from fun h => by have := h.2.2.2.1; omega), decide_eq_true c4]
          exact bad
        rw [decide_eq_false c4]
        by_cases c6 : q = 0
        · have st : ∀ k, foolscapref15_Power.j0 (k + 1) n q false = if n = 0 then some (0, 5) else some (1000000, 0) := fun k => by simp only [foolscapref15_Power.j0]; rw [if_neg (by decide), if_pos c6]
          by_cases c7 : n = 0
          · rw [if_neg (show ¬ PowOk n q from fun h => h.2.2.2.2 ⟨c7, c6⟩)]
            exact Ev.step (f := fun _ => some (0, 5)) (fun k => by rw [st, if_pos c7]) (Ev.now _)
          · rw [if_pos (show PowOk n q from ⟨c1, c2, c3, by omega, fun h => c7 h.1⟩), if_pos c6]
            exact Ev.step (f := fun _ => some (1000000, 0)) (fun k => by rw [st, if_neg c7]) (Ev.now _)
        rw [if_pos (show PowOk n q from ⟨c1, c2, c3, by omega, fun h => c6 h.2⟩), if_neg c6]
        have hK := k_whole c3 c6
        have h := refPow_l0 (q := q) c1 rfl (by omega) (absI q / 1000000 - 1).toNat n 1 c1 (by omega) (by omega)
        exact Ev.step (fun k => by simp only [foolscapref15_Power.j0]; rw [if_neg (by decide), if_neg c6]) h
      · rw [if_neg (show ¬ PowOk n q from fun h => c3 h.2.2.1)]
        exact Ev.congr (fun k => if_neg c3) bad
    · rw [if_neg (show ¬ PowOk n q from fun h => c2 h.2.1)]
      exact Ev.congr (fun k => if_neg (by rw [decide_eq_false c2]; decide)) bad
  · rw [if_neg (show ¬ PowOk n q from fun h => c1 h.1)]
    exact Ev.congr (fun k => if_neg (by rw [decide_eq_false c1]; decide)) bad
theorem MathsPowers : foolscaplaw15_MathsPowers.Pure := by
  intro n q _ _
  refine Ev.rounds (g := fun k => foolscaplaw15_MathsPowers.f k n q) ?_
  obtain ⟨r, r1, r2⟩ := roots_same n
  obtain ⟨f, f1, f2⟩ := facts_same n
  refine Ev.bind (pow_of n q) (Ev.bind (refPow_of n q) (Ev.bind r1 (Ev.bind r2 (Ev.bind f1 (Ev.bind f2 (Ev.congr (fun k => ?_) ends))))))
  rw [if_pos rfl, if_pos rfl, if_pos rfl, if_pos rfl, if_pos rfl, if_pos rfl]
end Go.Proofs.Ytklkanaabmehkaa.Pure
