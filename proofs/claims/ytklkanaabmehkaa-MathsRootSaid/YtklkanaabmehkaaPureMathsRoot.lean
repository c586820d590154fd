/- The root's square is the number, but for what rounding takes; a greater number has no less a root: the statement over numbers. -/
import Derived.Test.YtklkanaabmehkaaPPx10
import Derived.Test.YtklkanaabmehkaaRootV
import Derived.Test.YtklkanaabmehkaaNum
import Derived.Test.YtklkanaabmehkaaLives15
set_option linter.unusedVariables false
set_option linter.unusedSimpArgs false
namespace Go.Proofs.Ytklkanaabmehkaa.Pure
open Go.RowKit Go.Proofs.Ytklkanaabmehkaa.PP Go.Proofs.YtklkanaabmehkaaW.PrintWords Go.Proofs.YtklkanaabmehkaaW.PrintLast Go.Proofs.YtklkanaabmehkaaW.PrintMore

theorem lawSize_of {n : Int} (h0 : -9223372036854775807 ≤ n) (h1 : n ≤ 9223372036854775807) : foolscaplaw15_size.f n = some (absI n) := by
  unfold foolscaplaw15_size.f; rw [mx_abs h0 h1]
theorem root_two {n m r : Int} (hr : 0 ≤ r) (h : FitsI m → 0 ≤ m → n ≤ m → ∃ s, IsRt (m * 1000000) s ∧ r ≤ rootR (m * 1000000) s) :
    Ev (fun k => foolscaplaw15_MathsRoot.j0 k n m r false) true := by
  by_cases c : FitsI m ∧ 0 ≤ m
  · obtain ⟨s, hs, hev⟩ := root_ok c.1 c.2
    refine Ev.step (f := fun k => (maths_Root.f k m).bind fun bt239 => (if bt239.2 = 0 then (if n > m then ((foolscaplaw15_lives.f k).bind fun t241 => (some t241)) else (if r ≤ bt239.1 then ((foolscaplaw15_lives.f k).bind fun t242 => (some t242)) else (some false))) else ((foolscaplaw15_lives.f k).bind fun t243 => (some t243)))) (fun k => ?_) (Ev.bind hev (Ev.congr (fun k => ?_) ends))
    · simp only [foolscaplaw15_MathsRoot.j0]; rw [if_neg (by decide)]
    · rw [if_pos rfl]
      by_cases d : n > m
      · rw [if_pos d]
      · obtain ⟨s', hs', hle⟩ := h c.1 c.2 (by omega)
        rw [if_neg d, if_pos (by rw [rt_one hs hs']; exact hle)]
  · refine Ev.step (f := fun k => (maths_Root.f k m).bind fun bt239 => (if bt239.2 = 0 then (if n > m then ((foolscaplaw15_lives.f k).bind fun t241 => (some t241)) else (if r ≤ bt239.1 then ((foolscaplaw15_lives.f k).bind fun t242 => (some t242)) else (some false))) else ((foolscaplaw15_lives.f k).bind fun t243 => (some t243)))) (fun k => ?_) (Ev.bind (root_no c) (Ev.congr (fun k => ?_) ends))
    · simp only [foolscaplaw15_MathsRoot.j0]; rw [if_neg (by decide)]
    · rw [if_neg (by decide)]
theorem MathsRoot : foolscaplaw15_MathsRoot.Pure := by
  intro n m _ _
  refine Ev.rounds (g := fun k => foolscaplaw15_MathsRoot.f k n m) ?_
  by_cases c : FitsI n ∧ 0 ≤ n
  · obtain ⟨s, hs, hev⟩ := root_ok c.1 c.2
    obtain ⟨⟨_, f1⟩, f2⟩ := c
    have hnear := rootR_near (b := 1000000000000) (by decide) (by omega) hs
    refine Ev.bind hev (Ev.congr (fun k => if_pos rfl) ?_)
    have hmono : FitsI m → 0 ≤ m → n ≤ m → ∃ u, IsRt (m * 1000000) u ∧ rootR (n * 1000000) s ≤ rootR (m * 1000000) u := fun fm m0 hle => by
      obtain ⟨u, hu, _⟩ := root_ok fm m0
      exact ⟨u, hu, rootR_mono (by omega) hs hu⟩
    dsimp only
    generalize hR : rootR (n * 1000000) s = R at *
    obtain ⟨R0, R1, R2, R3, R4⟩ := hnear
    have fR : FitsI R := ⟨by omega, by omega⟩
    have hm := mul_of R R
    rw [if_pos ⟨fR, fR⟩] at hm
    have hab : absI R = R := if_neg (by omega)
    have hle := rhe_le (S := R * R) (c := 1000000) (b := 1000000000000000000) (by decide) (by omega) (Int.mul_nonneg R0 R0)
    have hnn := rhe_nonneg (S := R * R) (c := 1000000) (by decide) (Int.mul_nonneg R0 R0)
    have hne := rhe_near (S := R * R) (c := 1000000) (by decide)
    have hv : mulV R R = (rhe (R * R) 1000000, 0) := by
      unfold mulV signed
      rw [hab, if_neg (by omega), if_neg (by simp)]
    rw [hv] at hm
    refine Ev.bind hm ?_
    refine Ev.congr (fun k => ?_) (root_two R0 hmono)
    generalize rhe (R * R) 1000000 = q at *
    rw [if_neg (by omega), if_pos rfl]
    dsimp only
    rw [wr64 (x := q - n) (by omega) (by omega), lawSize_of (by omega) (by omega)]
    simp only [Option.bind_some]
    rw [Int.tdiv_eq_ediv_of_nonneg R0, wr64 (x := R / 1000000) (by omega) (by omega), wr64 (x := R / 1000000 + 1) (by omega) (by omega), decide_eq_false]
    unfold absI; split <;> omega
  · refine Ev.bind (root_no c) (Ev.congr (fun k => ?_) ends)
    rw [if_neg (by decide), if_pos rfl, if_pos rfl]
    by_cases d : n < 0
    · rw [if_pos d]
    · rw [if_neg d, fits_of, decide_eq_false (fun q => c ⟨q, by omega⟩)]
      simp only [Option.bind_some]
      rw [if_neg (by decide)]
end Go.Proofs.Ytklkanaabmehkaa.Pure
