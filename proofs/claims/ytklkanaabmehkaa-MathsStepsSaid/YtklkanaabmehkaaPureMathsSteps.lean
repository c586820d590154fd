/- Any number is rounded to multiples of any other one, and divided by it, as the document says: the statement over numbers. -/
import Derived.Test.YtklkanaabmehkaaPRx9
import Derived.Test.YtklkanaabmehkaaMathsS
import Derived.Test.YtklkanaabmehkaaMathsR
import Derived.Test.YtklkanaabmehkaaLives15
set_option linter.unusedVariables false
set_option linter.unusedSimpArgs false
namespace Go.Proofs.Ytklkanaabmehkaa.Pure
open Go.RowKit Go.Proofs.Ytklkanaabmehkaa.PR Go.Proofs.YtklkanaabmehkaaW.PrintWords Go.Proofs.YtklkanaabmehkaaW.PrintLast Go.Proofs.YtklkanaabmehkaaW.PrintMore

theorem ceil_of (n s : Int) : Ev (fun k => maths_Ceiling.f k n s) (multV n s true) := Ev.bind (mult_of n s true) (Ev.now _)
theorem floor_of (n s : Int) : Ev (fun k => maths_Floor.f k n s) (multV n s false) := Ev.bind (mult_of n s false) (Ev.now _)

theorem refCeil_of (n s : Int) : Ev (fun k => foolscapref15_Ceiling.f k n s) (multV n s true) := by
  have bad : Ev (fun k => foolscapref15_Ceiling.j0 k n s true) (0, 5) := Ev.step (f := fun _ => some (0, 5)) (fun k => by simp only [foolscapref15_Ceiling.j0]; rw [if_pos trivial]) (Ev.now _)
  unfold multV
  by_cases cn : FitsI n
  · by_cases cs : FitsI s
    · rw [if_neg (fun q => q ⟨cn, cs⟩)]
      refine Ev.congr (f := fun k => foolscapref15_Ceiling.j0 k n s false) (fun k => by unfold foolscapref15_Ceiling.f; rw [refFits_of, refFits_of, decide_eq_true cn, decide_eq_true cs]; rfl) ?_
      by_cases c1 : n = 0
      · rw [if_pos c1]
        exact Ev.step (f := fun _ => some (0, 0)) (fun k => by simp only [foolscapref15_Ceiling.j0]; rw [if_neg (by decide), if_pos c1]) (Ev.now _)
      rw [if_neg c1]
      by_cases c2 : s = 0
      · rw [if_pos c2]
        exact Ev.step (f := fun _ => some (0, 1)) (fun k => by simp only [foolscapref15_Ceiling.j0]; rw [if_neg (by decide), if_neg c1, if_pos c2]) (Ev.now _)
      rw [if_neg c2]
      have bad1 : Ev (fun k => foolscapref15_Ceiling.j1 k n s true) (0, 5) := Ev.step (f := fun _ => some (0, 5)) (fun k => by simp only [foolscapref15_Ceiling.j1]; rw [if_pos trivial]) (Ev.now _)
      by_cases c3 : n > 0 ∧ s < 0
      · rw [if_pos c3]
        exact Ev.step (fun k => by simp only [foolscapref15_Ceiling.j0]; rw [if_neg (by decide), if_neg c1, if_neg c2, if_pos c3.1, decide_eq_true c3.2]) bad1
      rw [if_neg c3]
      have hs := absI_fits cs
      have ht : 1 ≤ absI s := by unfold absI; split <;> omega
      have hsz : foolscapref01_Size.f s = some (absI s) := refSize_of (by obtain ⟨_, _⟩ := cs; omega) (by obtain ⟨_, _⟩ := cs; omega)
      have hrf := rest_fits cn ht
      obtain ⟨hn1, hn2⟩ := cn
      refine Ev.step (f := fun k => foolscapref15_Ceiling.j1 k n s false) (fun k => ?_) ?_
      · simp only [foolscapref15_Ceiling.j0]; rw [if_neg (by decide), if_neg c1, if_neg c2]
        by_cases c4 : n > 0
        · rw [if_pos c4, decide_eq_false (fun q => c3 ⟨c4, q⟩)]
        · rw [if_neg c4]
      refine Ev.step (f := fun _ => some _) (fun k => ?_) (Ev.now _)
      simp only [foolscapref15_Ceiling.j1]; rw [if_neg (by decide), hsz]; simp only [Option.bind_some]; rw [if_neg (by omega)]
      generalize absI s = t at *
      obtain ⟨hr1, hr2⟩ := hrf
      by_cases c5 : n.tmod t > 0
      · have hn : n > 0 := by
          by_cases q : n > 0
          · exact q
          · have := tm_neg ht (show n ≤ 0 by omega); omega
        have := tm_pos ht (show 0 ≤ n by omega)
        rw [if_pos c5, if_neg (by omega), if_pos (by refine ⟨?_, hn⟩; trivial), wr64 (x := n.tmod t - t) (by omega) (by omega), wr64 (x := n - (n.tmod t - t)) (by omega) (by omega), refTold_of, show n - (n.tmod t - t) = n - n.tmod t + t by omega]; rfl
      · rw [if_neg c5, wr64 (x := n - n.tmod t) (by omega) (by omega), refTold_of]
        by_cases c6 : n.tmod t = 0
        · rw [if_pos c6, c6, Int.sub_zero]; unfold toldV; rw [if_pos ⟨hn1, hn2⟩]; rfl
        · have hn : ¬ n > 0 := fun q => by have := tm_pos ht (show 0 ≤ n by omega); omega
          rw [if_neg c6, if_neg (fun q => hn q.2), if_neg (fun q => by cases q.1)]
          unfold toldV; rw [if_pos ⟨hr1, hr2⟩]; rfl
    · rw [if_pos (fun q => cs q.2)]
      exact Ev.congr (fun k => by unfold foolscapref15_Ceiling.f; rw [refFits_of, refFits_of, decide_eq_true cn, decide_eq_false cs]; rfl) bad
  · rw [if_pos (fun q => cn q.1)]
    exact Ev.congr (fun k => by unfold foolscapref15_Ceiling.f; rw [refFits_of, decide_eq_false cn]; rfl) bad

theorem refFloor_of (n s : Int) : Ev (fun k => foolscapref15_Floor.f k n s) (multV n s false) := by
  have bad : Ev (fun k => foolscapref15_Floor.j0 k n s true) (0, 5) := Ev.step (f := fun _ => some (0, 5)) (fun k => by simp only [foolscapref15_Floor.j0]; rw [if_pos trivial]) (Ev.now _)
  unfold multV
  by_cases cn : FitsI n
  · by_cases cs : FitsI s
    · rw [if_neg (fun q => q ⟨cn, cs⟩)]
      refine Ev.congr (f := fun k => foolscapref15_Floor.j0 k n s false) (fun k => by unfold foolscapref15_Floor.f; rw [refFits_of, refFits_of, decide_eq_true cn, decide_eq_true cs]; rfl) ?_
      by_cases c1 : n = 0
      · rw [if_pos c1]
        exact Ev.step (f := fun _ => some (0, 0)) (fun k => by simp only [foolscapref15_Floor.j0]; rw [if_neg (by decide), if_pos c1]) (Ev.now _)
      rw [if_neg c1]
      by_cases c2 : s = 0
      · rw [if_pos c2]
        exact Ev.step (f := fun _ => some (0, 1)) (fun k => by simp only [foolscapref15_Floor.j0]; rw [if_neg (by decide), if_neg c1, if_pos c2]) (Ev.now _)
      rw [if_neg c2]
      have bad1 : Ev (fun k => foolscapref15_Floor.j1 k n s true) (0, 5) := Ev.step (f := fun _ => some (0, 5)) (fun k => by simp only [foolscapref15_Floor.j1]; rw [if_pos trivial]) (Ev.now _)
      by_cases c3 : n > 0 ∧ s < 0
      · rw [if_pos c3]
        exact Ev.step (fun k => by simp only [foolscapref15_Floor.j0]; rw [if_neg (by decide), if_neg c1, if_neg c2, if_pos c3.1, decide_eq_true c3.2]) bad1
      rw [if_neg c3]
      have hs := absI_fits cs
      have ht : 1 ≤ absI s := by unfold absI; split <;> omega
      have hsz : foolscapref01_Size.f s = some (absI s) := refSize_of (by obtain ⟨_, _⟩ := cs; omega) (by obtain ⟨_, _⟩ := cs; omega)
      have hrf := rest_fits cn ht
      obtain ⟨hn1, hn2⟩ := cn
      refine Ev.step (f := fun k => foolscapref15_Floor.j1 k n s false) (fun k => ?_) ?_
      · simp only [foolscapref15_Floor.j0]; rw [if_neg (by decide), if_neg c1, if_neg c2]
        by_cases c4 : n > 0
        · rw [if_pos c4, decide_eq_false (fun q => c3 ⟨c4, q⟩)]
        · rw [if_neg c4]
      refine Ev.step (f := fun _ => some _) (fun k => ?_) (Ev.now _)
      simp only [foolscapref15_Floor.j1]; rw [if_neg (by decide), hsz]; simp only [Option.bind_some]; rw [if_neg (by omega)]
      generalize absI s = t at *
      obtain ⟨hr1, hr2⟩ := hrf
      by_cases c5 : n.tmod t < 0
      · have hn : n < 0 := by
          by_cases q : n < 0
          · exact q
          · have := tm_pos ht (show 0 ≤ n by omega); omega
        have := tm_neg ht (show n ≤ 0 by omega)
        rw [if_pos c5, if_neg (by omega), if_neg (fun q => by cases q.1), if_pos (by refine ⟨?_, hn⟩; trivial), wr64 (x := n.tmod t + t) (by omega) (by omega), wr64 (x := n - (n.tmod t + t)) (by omega) (by omega), refTold_of, show n - (n.tmod t + t) = n - n.tmod t - t by omega]; rfl
      · rw [if_neg c5, wr64 (x := n - n.tmod t) (by omega) (by omega), refTold_of]
        by_cases c6 : n.tmod t = 0
        · rw [if_pos c6, c6, Int.sub_zero]; unfold toldV; rw [if_pos ⟨hn1, hn2⟩]; rfl
        · have hn : ¬ n < 0 := fun q => by have := tm_neg ht (show n ≤ 0 by omega); omega
          rw [if_neg c6, if_neg (fun q => by cases q.1), if_neg (fun q => hn q.2)]
          unfold toldV; rw [if_pos ⟨hr1, hr2⟩]; rfl
    · rw [if_pos (fun q => cs q.2)]
      exact Ev.congr (fun k => by unfold foolscapref15_Floor.f; rw [refFits_of, refFits_of, decide_eq_true cn, decide_eq_false cs]; rfl) bad
  · rw [if_pos (fun q => cn q.1)]
    exact Ev.congr (fun k => by unfold foolscapref15_Floor.f; rw [refFits_of, decide_eq_false cn]; rfl) bad

/-- Both quotients go the same way. -/
theorem quot_same (a b : Int) : ∃ r, Ev (fun k => maths_Quotient.f k a b) r ∧ Ev (fun k => foolscapref15_Quotient.f k a b) r := by
  have h : ∀ k, foolscapref15_Quotient.f k a b = maths_Quotient.f k a b := by
    intro k
    have e0 : ∀ x : Bool, foolscapref15_Quotient.j0 k a b x = maths_Quotient.j0 k a b x := by
      intro x
      cases k with
      | zero => rfl
      | succ k => rfl
    unfold foolscapref15_Quotient.f maths_Quotient.f
    simp only [refFits_of, fits_of, e0]
  have : ∃ r, Ev (fun k => maths_Quotient.f k a b) r := by
    have hj : ∀ x : Bool, ∃ r, Ev (fun k => maths_Quotient.j0 k a b x) r := by
      intro x
      refine ⟨_, Ev.step (f := fun _ => some (if x = true then (0, 5) else (if b = 0 then (0, 1) else if mx (wrap64 (Int.tdiv a b)) (wrap64 (-(wrap64 (Int.tdiv a b)))) > 1000000000000 then (0, 5) else (wrap64 ((wrap64 (Int.tdiv a b)) * 1000000), 0)))) (fun k => ?_) (Ev.now _)⟩
      simp only [maths_Quotient.j0, maths_size.f, Option.bind_some]
      split
      · rfl
      · split
        · rfl
        · split <;> rfl
    unfold maths_Quotient.f
    simp only [fits_of, Option.bind_some]
    split
    · exact hj _
    · exact hj _
  obtain ⟨r, hr⟩ := this
  exact ⟨r, hr, Ev.congr h hr⟩

theorem MathsSteps : foolscaplaw15_MathsSteps.Pure := by
  intro n s _ _
  refine Ev.rounds (g := fun k => foolscaplaw15_MathsSteps.f k n s) ?_
  obtain ⟨r, h1, h2⟩ := quot_same n s
  refine Ev.bind (ceil_of n s) (Ev.bind (refCeil_of n s) (Ev.bind (floor_of n s) (Ev.bind (refFloor_of n s) (Ev.bind h1 (Ev.bind h2 (Ev.congr (fun k => ?_) ends))))))
  simp
end Go.Proofs.Ytklkanaabmehkaa.Pure
