/- As long as a sum fits, it is what numbers' own sum is: the statement over numbers. -/
import Derived.Test.YtphbgiaabkbccaaPAllx8
import Derived.Test.YtphbgiaabkbccaaLives03
set_option linter.unusedVariables false
set_option linter.unusedSimpArgs false
namespace Go.Proofs.Ytphbgiaabkbccaa.Pure
open Go.RowKit Go.Proofs.Ytphbgiaabkbccaa.PAll Go.Proofs.YtphbgiaabkbccaaW.PrintWords Go.Proofs.YtphbgiaabkbccaaW.PrintLast Go.Proofs.YtphbgiaabkbccaaW.PrintMore

theorem numAdd_of (a b : Int) : num_Add.f a b = some (if FitsI a ∧ FitsI b then (if FitsI (a + b) then (a + b, 0) else (0, 3)) else (0, 2)) := by
  unfold num_Add.f
  rw [fits_of, fits_of]
  simp only [Option.bind_some]
  by_cases c : FitsI a
  · by_cases d : FitsI b
    · obtain ⟨a1, a2⟩ := c; obtain ⟨b1, b2⟩ := d
      rw [decide_eq_true (show FitsI a from ⟨a1, a2⟩), if_pos rfl, decide_eq_true (show FitsI b from ⟨b1, b2⟩), if_pos rfl, wr64 (by omega) (by omega), if_pos (show FitsI a ∧ FitsI b from ⟨⟨a1, a2⟩, ⟨b1, b2⟩⟩)]
      unfold num_told.f
      rw [fits_of]
      simp only [Option.bind_some]
      by_cases e : FitsI (a + b)
      · rw [decide_eq_true e, if_pos rfl, if_pos e]; rfl
      · rw [decide_eq_false e, if_neg (by decide), if_neg e]; rfl
    · rw [decide_eq_true c, if_pos rfl, decide_eq_false d, if_neg (by decide), if_neg (fun q => d q.2)]
  · rw [decide_eq_false c, if_neg (by decide), if_neg (fun q => c q.1)]

theorem WideSmall : foolscaplaw03_WideSmall.Pure := by
  intro a b _ _
  refine Ev.rounds (g := fun k => foolscaplaw03_WideSmall.f k a b) ?_
  refine Ev.congr (fun k => ?_) ends
  unfold foolscaplaw03_WideSmall.f
  rw [numAdd_of]
  simp only [Option.bind_some]
  by_cases c : FitsI a ∧ FitsI b
  · rw [if_pos c]
    by_cases d : FitsI (a + b)
    · rw [if_pos d, if_pos rfl]
      have r0 : inR 0 := ⟨by omega, by omega⟩
      have r1 : inR (0 + a) := by obtain ⟨⟨_, _⟩, _⟩ := c; unfold inR; omega
      have r2 : inR (0 + a + b) := by obtain ⟨⟨_, _⟩, ⟨_, _⟩⟩ := c; unfold inR; omega
      have h1 := add_in r0 c.1 r1
      rw [show (0 : Int) / 1000000000000000000 = 0 from rfl, show (0 : Int) % 1000000000000000000 = 0 from rfl] at h1
      rw [h1]
      simp only [Option.bind_some]
      rw [add_in r1 c.2 r2]
      simp only [Option.bind_some]
      rw [total_v r2, if_pos (by obtain ⟨_, _⟩ := d; omega)]
      simp only [Option.bind_some]
      rw [if_pos trivial, if_pos trivial, if_pos trivial, if_pos (by omega)]
    · rw [if_neg d, if_neg (by decide), if_pos rfl]
  · rw [if_neg c, if_neg (by decide), if_pos rfl]
end Go.Proofs.Ytphbgiaabkbccaa.Pure
