/- Any number is rounded, either way, to any places, to even and to odd, as the document says: the statement over numbers. -/
import Derived.Test.YtklkanaabmehkaaPRx11
import Derived.Test.YtklkanaabmehkaaMathsP
import Derived.Test.YtklkanaabmehkaaMathsR
import Derived.Test.YtklkanaabmehkaaLives15
set_option linter.unusedVariables false
set_option linter.unusedSimpArgs false
namespace Go.Proofs.Ytklkanaabmehkaa.Pure
open Go.RowKit Go.Proofs.Ytklkanaabmehkaa.PR Go.Proofs.YtklkanaabmehkaaW.PrintWords Go.Proofs.YtklkanaabmehkaaW.PrintLast Go.Proofs.YtklkanaabmehkaaW.PrintMore

theorem even_of (n : Int) : Ev (fun k => maths_Even.f k n) (parV n 0) := Ev.bind (parity_of n 0) (Ev.now _)
theorem odd_of (n : Int) : Ev (fun k => maths_Odd.f k n) (parV n 1) := Ev.bind (parity_of n 1) (Ev.now _)
theorem to_l0 (d : Nat) (hd : d ≤ 18) : ∀ j : Nat, j + d ≤ 18 → Ev (fun k => foolscapref15_to.l0 k (10 ^ j) (6 - d)) (10 ^ (j + d)) := by
  induction d with
  | zero =>
    intro j hj
    refine Ev.step (f := fun _ => some (10 ^ j)) (fun k => ?_) (Ev.now _)
    simp only [foolscapref15_to.l0]; rw [if_neg (by omega)]
  | succ d ih =>
    intro j hj
    have h1 := p10 (j + 1) (by omega)
    have e : 10 * (10 : Int) ^ j = 10 ^ (j + 1) := by rw [Int.pow_succ, Int.mul_comm]
    have h := ih (by omega) (j + 1) (by omega)
    rw [show j + 1 + d = j + (d + 1) by omega] at h
    refine Ev.step (fun k => ?_) h
    simp only [foolscapref15_to.l0]
    rw [if_pos (by omega), e, wr64 (x := 10 ^ (j + 1)) (by omega) (by omega), wr64 (by omega) (by omega), show (6 : Int) - ((d + 1 : Nat) : Int) + 1 = 6 - d by omega]
theorem to_of {p : Int} (h : Places p) : Ev (fun k => foolscapref15_to.f k p) (pw p) := by
  obtain ⟨a, b⟩ := h
  have := to_l0 (6 - p).toNat (by omega) 0 (by omega)
  rw [show 6 - (((6 - p).toNat : Nat) : Int) = p by omega, Nat.zero_add] at this
  exact this
theorem refDown_of (n p : Int) : Ev (fun k => foolscapref15_Down.f k n p) (downV n p) := by
  unfold downV
  by_cases c : FitsI n
  · by_cases d : Places p
    · rw [if_pos ⟨c, d⟩]
      have hb := pw_bd d
      obtain ⟨_, _⟩ := rest_fits c hb.1
      obtain ⟨d1, d2⟩ := d
      refine Ev.congr (fun k => ?_) (Ev.bind (f := fun _ t => if t = 0 then none else some (wrap64 (n - n.tmod t), 0)) (to_of ⟨d1, d2⟩) (Ev.congr (f := fun _ => some (n - n.tmod (pw p), 0)) (fun k => ?_) (Ev.now _)))
      · unfold foolscapref15_Down.f
        rw [refFits_of, decide_eq_true c]
        simp only [Option.bind_some]
        rw [if_pos trivial, if_neg (by omega), if_neg (by omega)]
      · rw [if_neg (by omega), wr64 (by omega) (by omega)]
    · rw [if_neg (fun q => d q.2)]
      refine Ev.congr (f := fun _ => some (0, 5)) (fun k => ?_) (Ev.now _)
      unfold foolscapref15_Down.f
      rw [refFits_of, decide_eq_true c]
      simp only [Option.bind_some]
      rw [if_pos trivial]
      by_cases e : p < -12
      · rw [if_pos e]
      · rw [if_neg e, if_pos (by have : ¬ (p ≤ 6) := fun q => d ⟨by omega, q⟩; omega)]
  · rw [if_neg (fun q => c q.1)]
    exact Ev.congr (f := fun _ => some (0, 5)) (fun k => by unfold foolscapref15_Down.f; rw [refFits_of, decide_eq_false c]; rfl) (Ev.now _)
theorem refUp_of (n p : Int) : Ev (fun k => foolscapref15_Up.f k n p) (upV n p) := by
  have done : ∀ a b : Int, Ev (fun k => foolscapref15_Up.j0 k n p a b true) (a, b) := fun a b => Ev.step (f := fun _ => some (a, b)) (fun k => by simp only [foolscapref15_Up.j0]; rw [if_pos trivial]) (Ev.now _)
  refine Ev.bind (refDown_of n p) ?_
  unfold upV downV
  by_cases c : FitsI n ∧ Places p
  · rw [if_pos c, if_pos c]
    have hb := pw_bd c.2
    obtain ⟨_, _⟩ := rest_fits c.1 hb.1
    refine Ev.congr (f := fun k => foolscapref15_Up.j0 k n p (n - n.tmod (pw p)) 0 (n - n.tmod (pw p) == n)) (fun k => by rw [if_pos rfl]) ?_
    by_cases d : n.tmod (pw p) = 0
    · rw [if_pos d, d, Int.sub_zero, beq_self_eq_true]
      exact done n 0
    · rw [if_neg d, beq_eq_false_iff_ne.2 (by omega)]
      unfold awayV
      by_cases e : n < 0
      · rw [if_pos e]
        refine Ev.step (fun k => ?_) (Ev.bind (f := fun _ t => (foolscapref15_told.f (wrap64 (n - n.tmod (pw p) - t))).bind fun bt => some (bt.1, bt.2)) (to_of c.2) (Ev.congr (f := fun _ => some (toldV (n - n.tmod (pw p) - pw p))) (fun k => ?_) (Ev.now _)))
        · simp only [foolscapref15_Up.j0]; rw [if_neg (by decide), if_pos e]
        · rw [wr64 (by omega) (by omega), refTold_of]; rfl
      · rw [if_neg e]
        refine Ev.step (fun k => ?_) (Ev.bind (f := fun _ t => (foolscapref15_told.f (wrap64 (n - n.tmod (pw p) + t))).bind fun bt => some (bt.1, bt.2)) (to_of c.2) (Ev.congr (f := fun _ => some (toldV (n - n.tmod (pw p) + pw p))) (fun k => ?_) (Ev.now _)))
        · simp only [foolscapref15_Up.j0]; rw [if_neg (by decide), if_neg e]
        · rw [wr64 (by omega) (by omega), refTold_of]; rfl
  · rw [if_neg c, if_neg c]
    exact Ev.congr (fun k => by rw [if_neg (by decide)]) (done 0 5)
theorem par_not {x : Int} : (absI (x.tmod 2) = 0 ↔ x.tmod 2 = 0) ∧ (absI (x.tmod 2) = 1 ↔ x.tmod 2 ≠ 0) := by
  have := tmod2_bd x
  unfold absI; split <;> omega
theorem refEven_of (n : Int) : Ev (fun k => foolscapref15_Even.f k n) (parV n 0) := by
  refine Ev.bind (refUp_of n 0) ?_
  unfold parV
  have stay : ∀ a b : Int, Ev (fun k => foolscapref15_Even.j0 k n a b false) (a, b) := fun a b => Ev.step (f := fun _ => some (a, b)) (fun k => by simp only [foolscapref15_Even.j0]; rw [if_neg (by decide)]) (Ev.now _)
  by_cases c : (upV n 0).2 = 0
  · rw [if_pos c]
    have hf := upV_fits c
    have hb := tdiv_bd hf
    refine Ev.congr (fun k => if_pos c) ?_
    rw [wr64 (x := (upV n 0).1.tdiv 1000000) (by omega) (by omega)]
    by_cases d : ((upV n 0).1.tdiv 1000000).tmod 2 = 0
    · rw [if_pos (par_not.1.2 d), d]
      exact stay _ _
    · rw [if_neg (fun q => d (par_not.1.1 q)), bne_iff_ne.2 d]
      unfold awayV
      obtain ⟨_, _⟩ := hf
      refine Ev.step (f := fun _ => some (toldV (if n < 0 then (upV n 0).1 - 1000000 else (upV n 0).1 + 1000000))) (fun k => ?_) (Ev.now _)
      simp only [foolscapref15_Even.j0]; rw [if_pos trivial]
      by_cases e : n < 0
      · rw [if_pos e, if_pos e, wr64 (by omega) (by omega), refTold_of]; rfl
      · rw [if_neg e, if_neg e, wr64 (by omega) (by omega), refTold_of]; rfl
  · rw [if_neg c]
    exact Ev.congr (fun k => if_neg c) (stay _ _)
theorem refOdd_of (n : Int) : Ev (fun k => foolscapref15_Odd.f k n) (parV n 1) := by
  refine Ev.bind (refUp_of n 0) ?_
  unfold parV
  have stay : ∀ a b : Int, Ev (fun k => foolscapref15_Odd.j0 k n a b false) (a, b) := fun a b => Ev.step (f := fun _ => some (a, b)) (fun k => by simp only [foolscapref15_Odd.j0]; rw [if_neg (by decide)]) (Ev.now _)
  by_cases c : (upV n 0).2 = 0
  · rw [if_pos c]
    have hf := upV_fits c
    have hb := tdiv_bd hf
    refine Ev.congr (fun k => if_pos c) ?_
    rw [wr64 (x := (upV n 0).1.tdiv 1000000) (by omega) (by omega)]
    by_cases d : ((upV n 0).1.tdiv 1000000).tmod 2 = 0
    · rw [if_neg (fun q => par_not.2.1 q d), d]
      unfold awayV
      obtain ⟨_, _⟩ := hf
      refine Ev.step (f := fun _ => some (toldV (if n < 0 then (upV n 0).1 - 1000000 else (upV n 0).1 + 1000000))) (fun k => ?_) (Ev.now _)
      simp only [foolscapref15_Odd.j0]; rw [if_pos (by rfl)]
      by_cases e : n < 0
      · rw [if_pos e, if_pos e, wr64 (by omega) (by omega), refTold_of]; rfl
      · rw [if_neg e, if_neg e, wr64 (by omega) (by omega), refTold_of]; rfl
    · rw [if_pos (par_not.2.2 d), beq_eq_false_iff_ne.2 d]
      exact stay _ _
  · rw [if_neg c]
    exact Ev.congr (fun k => if_neg c) (stay _ _)
theorem abs_same (n : Int) : ∃ r, maths_Abs.f n = some r ∧ foolscapref15_Abs.f n = some r := by
  unfold maths_Abs.f foolscapref15_Abs.f maths_Abs_1.f
  rw [fits_of, refFits_of]
  simp only [Option.bind_some]
  by_cases c : FitsI n
  · rw [decide_eq_true c, if_pos rfl, if_pos rfl]; exact ⟨_, rfl, rfl⟩
  · rw [decide_eq_false c, if_neg (by decide), if_neg (by decide)]; exact ⟨_, rfl, rfl⟩
theorem sign_same (n : Int) : ∃ r, maths_Sign.f n = some r ∧ foolscapref15_Sign.f n = some r := by
  unfold maths_Sign.f foolscapref15_Sign.f maths_Sign_1.f
  rw [fits_of, refFits_of]
  simp only [Option.bind_some]
  by_cases c : FitsI n
  · rw [decide_eq_true c, if_pos rfl, if_pos rfl]
    refine ⟨_, rfl, ?_⟩
    unfold mx mn
    by_cases c1 : n < 0
    · rw [if_pos c1, if_pos (show n < 1 by omega), if_neg (show ¬ -1 < n by omega)]; rfl
    · rw [if_neg c1]
      by_cases c2 : n > 0
      · rw [if_pos c2, if_neg (show ¬ n < 1 by omega), if_pos (by decide)]; rfl
      · obtain rfl : n = 0 := by omega
        rw [if_neg c2]; rfl
  · rw [decide_eq_false c, if_neg (by decide), if_neg (by decide)]; exact ⟨_, rfl, rfl⟩

theorem MathsRounds : foolscaplaw15_MathsRounds.Pure := by
  intro n p _ wp
  have hp := wf_i64 wp
  refine Ev.rounds (g := fun k => foolscaplaw15_MathsRounds.f k n p) ?_
  obtain ⟨a, ha1, ha2⟩ := abs_same n
  obtain ⟨s, hs1, hs2⟩ := sign_same n
  unfold foolscaplaw15_MathsRounds.f
  rw [ha1, ha2, hs1, hs2]
  simp only [Option.bind_some]
  refine Ev.bind (up_of hp.1 hp.2) (Ev.bind (refUp_of n p) (Ev.bind (down_of hp.1 hp.2) (Ev.bind (refDown_of n p) (Ev.bind (even_of n) (Ev.bind (refEven_of n) (Ev.bind (odd_of n) (Ev.bind (refOdd_of n) (Ev.congr (fun k => ?_) ends))))))))
  simp
end Go.Proofs.Ytklkanaabmehkaa.Pure
