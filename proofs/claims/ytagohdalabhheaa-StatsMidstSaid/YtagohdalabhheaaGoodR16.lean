/- Which lists are taken: what the reference's printed function tells. -/
import Derived.Test.YtagohdalabhheaaPBx8
import Derived.Test.YtagohdalabhheaaGoodS16
import Derived.Test.YtagohdalabhheaaSort16
set_option linter.unusedVariables false
set_option linter.unusedSimpArgs false
namespace Go.Proofs.Ytagohdalabhheaa.Pure
open Go.RowKit Go.Proofs.Ytagohdalabhheaa.PB Go.Proofs.YtagohdalabhheaaW.PrintWords Go.Proofs.YtagohdalabhheaaW.PrintLast Go.Proofs.YtagohdalabhheaaW.PrintMore

theorem r16Fits_of (n : Int) : foolscapref01_Fits.f n = some (decide (FitsI n)) := by
  unfold foolscapref01_Fits.f
  by_cases c : n ≥ -1000000000000000000
  · rw [if_pos c]
    congr 1
    exact decide_eq_decide.2 ⟨fun h => ⟨c, h⟩, fun h => h.2⟩
  · rw [if_neg c, decide_eq_false (show ¬ FitsI n from fun q => c q.1)]
theorem refGood_l0 {l : List Int} (hl : (l.length : Int) < 17592186044416) {b : Bool} : ∀ (d i : Nat), i + d = l.length → (b = true ↔ ∀ j : Nat, i ≤ j → j < l.length → FitsI (rd l j)) → Ev (fun k => foolscapref16_good.l0 k l i) b := by
  intro d
  induction d with
  | zero =>
    intro i hi hb
    have : b = true := hb.2 (fun j h1 h2 => by omega)
    subst this
    exact Ev.step (f := fun _ => some true) (fun k => by simp only [foolscapref16_good.l0]; rw [if_neg (by omega)]) (Ev.now _)
  | succ d ih =>
    intro i hi hb
    by_cases c : FitsI (rd l i)
    · refine Ev.step (fun k => ?_) (ih (i + 1) (by omega) ?_)
      · simp only [foolscapref16_good.l0]
        rw [if_pos (by omega), if_pos (by omega), r16Fits_of, decide_eq_true c]
        simp only [Option.bind_some]
        rw [if_pos trivial, wr64 (x := (i : Int) + 1) (by omega) (by omega)]; rfl
      · rw [hb]
        constructor
        · intro h j h1 h2; exact h j (by omega) h2
        · intro h j h1 h2
          by_cases e : j = i
          · subst e; exact c
          · exact h j (by omega) h2
    · have : b = false := by
        cases b
        · rfl
        · exact absurd (hb.1 rfl i (Nat.le_refl _) (by omega)) c
      subst this
      refine Ev.step (f := fun _ => some false) (fun k => ?_) (Ev.now _)
      simp only [foolscapref16_good.l0]
      rw [if_pos (by omega), if_pos (by omega), r16Fits_of, decide_eq_false c]
      simp only [Option.bind_some]
      rw [if_neg (by decide)]
theorem refGood_of (l : List Int) : Ev (fun k => foolscapref16_good.f k l) (decide (GoodL l)) := by
  unfold foolscapref16_good.f
  by_cases c : l.length ≤ 4096
  · refine Ev.congr (fun k => if_neg (by omega)) (refGood_l0 (by omega) l.length 0 (by omega) ?_)
    rw [decide_eq_true_eq]
    unfold GoodL
    rw [all_rd]
    exact ⟨fun h j _ hj => h.2 j hj, fun h => ⟨c, fun j hj => h j (Nat.zero_le _) hj⟩⟩
  · rw [decide_eq_false (show ¬ GoodL l from fun q => c q.1)]
    exact Ev.congr (f := fun _ => some false) (fun k => if_pos (by omega)) (Ev.now _)
end Go.Proofs.Ytagohdalabhheaa.Pure
