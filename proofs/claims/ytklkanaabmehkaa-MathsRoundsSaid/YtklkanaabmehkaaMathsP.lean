/- What rounding to even and odd numbers tells. -/
import Derived.Test.YtklkanaabmehkaaPRx7
import Derived.Test.YtklkanaabmehkaaMathsS
set_option linter.unusedVariables false
set_option linter.unusedSimpArgs false
namespace Go.Proofs.Ytklkanaabmehkaa.Pure
open Go.RowKit Go.Proofs.Ytklkanaabmehkaa.PR Go.Proofs.YtklkanaabmehkaaW.PrintWords Go.Proofs.YtklkanaabmehkaaW.PrintLast Go.Proofs.YtklkanaabmehkaaW.PrintMore

theorem toldV_code (n : Int) : (toldV n).2 = 0 ∨ toldV n = (0, 5) := by
  unfold toldV; split
  · exact .inl rfl
  · exact .inr rfl
theorem toldV_fits {n u : Int} (h : toldV n = (u, 0)) : u = n ∧ FitsI u := by
  unfold toldV at h
  split at h
  · rename_i c; simp only [Prod.mk.injEq, and_true] at h; subst h; exact ⟨rfl, c⟩
  · simp at h
theorem toldV_ok {n : Int} (h : (toldV n).2 = 0) : toldV n = (n, 0) ∧ FitsI n := by
  unfold toldV at h ⊢
  split
  · rename_i c; exact ⟨rfl, c⟩
  · rename_i c; rw [if_neg c] at h; simp at h
theorem upV_fits {n p : Int} (h : (upV n p).2 = 0) : FitsI (upV n p).1 := by
  unfold upV at h ⊢
  split at h
  · rename_i c
    rw [if_pos c]
    split at h
    · rename_i d; rw [if_pos d]; exact c.1
    · rename_i d
      rw [if_neg d]
      unfold awayV at h ⊢
      rcases toldV_code (if n < 0 then n - n.tmod (pw p) - pw p else n - n.tmod (pw p) + pw p) with q | q
      · exact (toldV_fits (Prod.ext rfl q)).2
      · rw [q] at h; simp at h
  · simp at h
/-- Rounded away from 0, and once more where the rest isn't the wanted one. -/
def parV (n rest : Int) : Int × Int := if (upV n 0).2 = 0 then (if absI (((upV n 0).1.tdiv 1000000).tmod 2) = rest then upV n 0 else awayV (upV n 0).1 1000000 n) else upV n 0
theorem tdiv_bd {x : Int} (f : FitsI x) : -1000000000000 ≤ x.tdiv 1000000 ∧ x.tdiv 1000000 ≤ 1000000000000 := by
  obtain ⟨a, b⟩ := f
  by_cases h : 0 ≤ x
  · rw [Int.tdiv_eq_ediv_of_nonneg h]; omega
  · obtain ⟨m, rfl⟩ : ∃ m, x = -m := ⟨-x, by omega⟩
    rw [Int.neg_tdiv, Int.tdiv_eq_ediv_of_nonneg (by omega)]; omega
theorem tmod2_bd (x : Int) : -1 ≤ x.tmod 2 ∧ x.tmod 2 ≤ 1 := by
  by_cases h : 0 ≤ x
  · have := tm_pos (t := 2) (by omega) h; omega
  · have := tm_neg (n := x) (t := 2) (by omega) (by omega); omega
theorem parity_of (n rest : Int) : Ev (fun k => maths_parity.f k n rest) (parV n rest) := by
  refine Ev.bind (up_of (by omega) (by omega)) (Ev.congr (f := fun _ => some (parV n rest)) (fun k => ?_) (Ev.now _))
  unfold parV
  by_cases c : (upV n 0).2 = 0
  · rw [if_pos c, if_pos c]
    have hf := upV_fits c
    have hb := tdiv_bd hf
    have h2 := tmod2_bd ((upV n 0).1.tdiv 1000000)
    rw [wr64 (x := (upV n 0).1.tdiv 1000000) (by omega) (by omega), size_of (by omega) (by omega)]
    simp only [Option.bind_some]
    by_cases d : absI (((upV n 0).1.tdiv 1000000).tmod 2) = rest
    · rw [if_pos d, if_pos d]
    · rw [if_neg d, if_neg d, away_of hf (by omega) (by omega)]; rfl
  · rw [if_neg c, if_neg c]
end Go.Proofs.Ytklkanaabmehkaa.Pure
