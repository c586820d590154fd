/- What the printed product and quotient of numbers tell. -/
import Derived.Test.YtklkanaabmehkaaPQx2
import Derived.Test.YtklkanaabmehkaaPQx2
import Derived.Test.YtklkanaabmehkaaBase
set_option linter.unusedVariables false
set_option linter.unusedSimpArgs false
namespace Go.Proofs.Ytklkanaabmehkaa.Pure
open Go.RowKit Go.Proofs.Ytklkanaabmehkaa.PQ Go.Proofs.YtklkanaabmehkaaW.PrintWords Go.Proofs.YtklkanaabmehkaaW.PrintLast Go.Proofs.YtklkanaabmehkaaW.PrintMore

def overV (P c : Int) : Int × Bool := if P / c > 1000000000000000000 then (0, false) else (rhe P c, decide (rhe P c ≤ 1000000000000000000))
theorem over_of {hi lo c : Int} (h0 : 0 ≤ hi) (l0 : 0 ≤ lo) (l1 : lo < 18446744073709551616) (c0 : 0 < c) (c1 : c < 9223372036854775808) :
    Ev (fun k => num_pair_over.f k hi lo c) (overV (hi * 18446744073709551616 + lo) c) := by
  have hS : 0 ≤ hi * 18446744073709551616 + lo := by omega
  by_cases c3 : hi ≥ c
  · have hbig : 18446744073709551616 ≤ (hi * 18446744073709551616 + lo) / c := (Int.le_ediv_iff_mul_le c0).2 (by omega)
    unfold overV
    rw [if_pos (by omega)]
    exact Ev.congr (f := fun _ => some (0, false)) (fun k => by unfold num_pair_over.f; rw [if_pos c3]) (Ev.now _)
  · have hdiv := div64 (hi := hi) (lo := lo) (y := c) h0 (by omega) (by omega) l0 l1
    have hsm : (hi * 18446744073709551616 + lo) / c < 18446744073709551616 := Int.ediv_lt_of_lt_mul c0 (by omega)
    unfold overV
    generalize hi * 18446744073709551616 + lo = S at *
    have hdm := Int.mul_ediv_add_emod S c
    have hr0 := Int.emod_nonneg S (b := c) (by omega)
    have hr1 := Int.emod_lt_of_pos S (b := c) c0
    have hq0 : 0 ≤ S / c := Int.ediv_nonneg hS (by omega)
    refine Ev.congr (fun k => ?_) (Ev.bind (f := fun _ bt => (if bt.1 > 1000000000000000000 then (some (0, false)) else (if bt.2 > (IntKind.u64.wrap (c - bt.2)) then (some (wrap64 (IntKind.u64.wrap (bt.1 + 1)), decide ((IntKind.u64.wrap (bt.1 + 1)) ≤ 1000000000000000000))) else (if bt.2 = (IntKind.u64.wrap (c - bt.2)) then (if (Go.bits .and .u64 bt.1 1) = 1 then (some (wrap64 (IntKind.u64.wrap (bt.1 + 1)), decide ((IntKind.u64.wrap (bt.1 + 1)) ≤ 1000000000000000000))) else (some (wrap64 (bt.1), decide (bt.1 ≤ 1000000000000000000)))) else (some (wrap64 (bt.1), decide (bt.1 ≤ 1000000000000000000))))))) hdiv (Ev.congr (f := fun _ => some (if S / c > 1000000000000000000 then (0, false) else (rhe S c, decide (rhe S c ≤ 1000000000000000000)))) (fun k => ?_) (Ev.now _)))
    · unfold num_pair_over.f; rw [if_neg c3]
    · dsimp only
      by_cases c4 : S / c > 1000000000000000000
      · rw [if_pos c4, if_pos c4]
      · rw [if_neg c4, if_neg c4]
        have hwr : IntKind.u64.wrap (c - S % c) = c - S % c := w64 (by omega) (by omega)
        have hw1 : IntKind.u64.wrap (S / c + 1) = S / c + 1 := w64 (by omega) (by omega)
        rw [hwr, hw1, and1 hq0 hsm, wr64 (x := S / c + 1) (by omega) (by omega), wr64 (x := S / c) (by omega) (by omega)]
        by_cases c5 : S % c > c - S % c
        · rw [show rhe S c = S / c + 1 from if_pos (.inl c5), if_pos c5]
        · rw [if_neg c5]
          by_cases c6 : S % c = c - S % c
          · rw [if_pos c6]
            by_cases c7 : S / c % 2 = 1
            · rw [show rhe S c = S / c + 1 from if_pos (.inr ⟨c6, c7⟩), if_pos c7]
            · rw [show rhe S c = S / c from if_neg (by rintro (q | q); exact c5 q; exact c7 q.2), if_neg c7]
          · rw [show rhe S c = S / c from if_neg (by rintro (q | q); exact c5 q; exact c6 q.1), if_neg c6]

theorem bareU_of {a : Int} (f : FitsI a) : num_bareU a = absI a := by
  obtain ⟨_, _⟩ := f
  have := absI_fits (x := a) ⟨by omega, by omega⟩
  unfold num_bareU
  rw [mx_abs (by omega) (by omega)]
  exact w64 (by omega) (by omega)
/-- A number with the sign of a product. -/
def signed (a b n : Int) : Int := if (!(decide (a < 0) == decide (b < 0))) = true then -n else n
def mulV (a b : Int) : Int × Int := if rhe (absI a * absI b) 1000000 > 1000000000000000000 then (0, 3) else (signed a b (rhe (absI a * absI b) 1000000), 0)
def divV (a b : Int) : Int × Int := if b = 0 then (0, 4) else if rhe (absI a * 1000000) (absI b) > 1000000000000000000 then (0, 3) else (signed a b (rhe (absI a * 1000000) (absI b)), 0)
theorem mul64_of {a b : Int} (a0 : 0 ≤ a) (a1 : a < 18446744073709551616) (b0 : 0 ≤ b) (b1 : b < 18446744073709551616) : num_times.f a b = some (a * b / 18446744073709551616, a * b % 18446744073709551616) := by
  unfold num_times.f bits_Mul64.f
  rw [if_pos ⟨a0, a1, b0, b1⟩]; rfl
/-- What comes behind the division. -/
theorem over_told {P c : Int} (c0 : 1 ≤ c) (hP : 0 ≤ P) (a b : Int) :
    (if (overV P c).2 = true then some (if (!(decide (a < 0) == decide (b < 0))) = true then wrap64 (-(overV P c).1) else (overV P c).1, (0 : Int)) else some (0, 3)) =
    some (if rhe P c > 1000000000000000000 then (0, 3) else (signed a b (rhe P c), 0)) := by
  have hr := rhe_nonneg c0 hP
  have hq : P / c ≤ rhe P c := by unfold rhe; split <;> omega
  unfold overV signed
  by_cases h : P / c > 1000000000000000000
  · rw [if_pos h, if_neg (by decide), if_pos (by omega)]
  · rw [if_neg h]
    dsimp only
    generalize (!(decide (a < 0) == decide (b < 0))) = sg
    by_cases h2 : rhe P c ≤ 1000000000000000000
    · rw [decide_eq_true h2, if_pos rfl, wr64 (by omega) (by omega), if_neg (show ¬ rhe P c > 1000000000000000000 by omega)]
    · rw [decide_eq_false h2, if_neg (by decide), if_pos (by omega)]
theorem mul_of (a b : Int) : Ev (fun k => num_Mul.f k a b) (if FitsI a ∧ FitsI b then mulV a b else (0, 2)) := by
  by_cases fa : FitsI a
  · by_cases fb : FitsI b
    · rw [if_pos ⟨fa, fb⟩]
      have ha := absI_fits fa
      have hb := absI_fits fb
      have hp := mul_bound (a := absI a) (b := absI b) ha.1 hb.1 ha.2 hb.2
      have ho := over_of (hi := absI a * absI b / 18446744073709551616) (lo := absI a * absI b % 18446744073709551616) (c := 1000000) (by omega) (by omega) (by omega) (by omega) (by omega)
      rw [show absI a * absI b / 18446744073709551616 * 18446744073709551616 + absI a * absI b % 18446744073709551616 = absI a * absI b by omega] at ho
      refine Ev.congr (fun k => ?_) (Ev.bind (f := fun _ q => if q.2 = true then some (if (!(decide (a < 0) == decide (b < 0))) = true then wrap64 (-q.1) else q.1, 0) else some (0, 3)) ho (Ev.congr (f := fun _ => some (mulV a b)) (fun k => over_told (by omega) hp.1 a b) (Ev.now _)))
      unfold num_Mul.f
      rw [fits_of, fits_of, decide_eq_true fa, decide_eq_true fb, bareU_of fa, bareU_of fb, mul64_of (by omega) (by omega) (by omega) (by omega)]
      rfl
    · rw [if_neg (fun q => fb q.2)]
      exact Ev.congr (f := fun _ => some (0, 2)) (fun k => by unfold num_Mul.f; rw [fits_of, fits_of, decide_eq_true fa, decide_eq_false fb]; rfl) (Ev.now _)
  · rw [if_neg (fun q => fa q.1)]
    exact Ev.congr (f := fun _ => some (0, 2)) (fun k => by unfold num_Mul.f; rw [fits_of, decide_eq_false fa]; rfl) (Ev.now _)
theorem div_of (a b : Int) : Ev (fun k => num_Div.f k a b) (if FitsI a ∧ FitsI b then divV a b else (0, 2)) := by
  by_cases fa : FitsI a
  · by_cases fb : FitsI b
    · rw [if_pos ⟨fa, fb⟩]
      have ha := absI_fits fa
      have hb := absI_fits fb
      by_cases hz : b = 0
      · unfold divV
        rw [if_pos hz]
        exact Ev.congr (f := fun _ => some (0, 4)) (fun k => by unfold num_Div.f; rw [fits_of, fits_of, decide_eq_true fa, decide_eq_true fb]; simp only [Option.bind_some]; rw [if_pos trivial, if_pos trivial, if_pos hz]) (Ev.now _)
      · have hb1 : 1 ≤ absI b := by unfold absI; split <;> omega
        have ho := over_of (hi := absI a * 1000000 / 18446744073709551616) (lo := absI a * 1000000 % 18446744073709551616) (c := absI b) (by omega) (by omega) (by omega) (by omega) (by omega)
        rw [show absI a * 1000000 / 18446744073709551616 * 18446744073709551616 + absI a * 1000000 % 18446744073709551616 = absI a * 1000000 by omega] at ho
        unfold divV
        rw [if_neg hz]
        refine Ev.congr (fun k => ?_) (Ev.bind (f := fun _ q => if q.2 = true then some (if (!(decide (a < 0) == decide (b < 0))) = true then wrap64 (-q.1) else q.1, 0) else some (0, 3)) ho (Ev.congr (f := fun _ => some _) (fun k => over_told (by omega) (by omega) a b) (Ev.now _)))
        unfold num_Div.f
        rw [fits_of, fits_of, decide_eq_true fa, decide_eq_true fb, bareU_of fa, bareU_of fb, mul64_of (by omega) (by omega) (by omega) (by omega)]
        simp only [Option.bind_some]
        rw [if_pos trivial, if_pos trivial, if_neg hz]
    · rw [if_neg (fun q => fb q.2)]
      exact Ev.congr (f := fun _ => some (0, 2)) (fun k => by unfold num_Div.f; rw [fits_of, fits_of, decide_eq_true fa, decide_eq_false fb]; rfl) (Ev.now _)
  · rw [if_neg (fun q => fa q.1)]
    exact Ev.congr (f := fun _ => some (0, 2)) (fun k => by unfold num_Div.f; rw [fits_of, decide_eq_false fa]; rfl) (Ev.now _)
theorem signed_abs (a b n : Int) (h : 0 ≤ n) : absI (signed a b n) = n := by unfold signed absI; split <;> split <;> omega
theorem mulV_fits {a b n : Int} (h : mulV a b = (n, 0)) : FitsI n := by
  unfold mulV at h
  split at h
  · simp at h
  · rename_i hc
    simp only [Prod.mk.injEq, and_true] at h
    have hr := rhe_nonneg (S := absI a * absI b) (c := 1000000) (by omega) (Int.mul_nonneg (absI_nonneg a) (absI_nonneg b))
    subst h
    unfold signed FitsI
    split <;> omega
end Go.Proofs.Ytklkanaabmehkaa.Pure
