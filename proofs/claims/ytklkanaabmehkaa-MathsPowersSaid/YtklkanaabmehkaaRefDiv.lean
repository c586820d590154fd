/- What the reference's printed quotient tells: digit by digit. -/
import Derived.Test.YtklkanaabmehkaaPQx4
import Derived.Test.YtklkanaabmehkaaPQx2
import Derived.Test.YtklkanaabmehkaaNum
set_option linter.unusedVariables false
set_option linter.unusedSimpArgs false
namespace Go.Proofs.Ytklkanaabmehkaa.Pure
open Go.RowKit Go.Proofs.Ytklkanaabmehkaa.PQ Go.Proofs.YtklkanaabmehkaaW.PrintWords Go.Proofs.YtklkanaabmehkaaW.PrintLast Go.Proofs.YtklkanaabmehkaaW.PrintMore

theorem refFits_of (n : Int) : foolscapref01_Fits.f n = some (decide (FitsI n)) := by
  unfold foolscapref01_Fits.f
  by_cases c : n ≥ -1000000000000000000
  · rw [if_pos c]
    congr 1
    exact decide_eq_decide.2 ⟨fun h => ⟨c, h⟩, fun h => h.2⟩
  · rw [if_neg c, decide_eq_false (show ¬ FitsI n from fun q => c q.1)]
theorem refSize_of {n : Int} (h0 : -9223372036854775807 ≤ n) (h1 : n ≤ 9223372036854775807) : foolscapref01_Size.f n = some (absI n) := by
  unfold foolscapref01_Size.f; rw [mx_abs h0 h1]
/-- Rounding by what is left. -/
theorem refEven_rhe {S c : Int} (c0 : 1 ≤ c) (c1 : c ≤ 1000000000000000000) (h0 : 0 ≤ S / c) (h1 : S / c ≤ 4000000000000000000) : foolscapref01_even.f (S / c) (S % c) c = some (rhe S c) := by
  have hr0 := Int.emod_nonneg S (b := c) (by omega)
  have hr1 := Int.emod_lt_of_pos S (b := c) (by omega)
  unfold foolscapref01_even.f
  rw [wr64 (x := c - S % c) (by omega) (by omega), wr64 (x := S / c + 1) (by omega) (by omega), Int.tmod_eq_emod_of_nonneg h0]
  by_cases c5 : S % c > c - S % c
  · rw [show rhe S c = S / c + 1 from if_pos (.inl c5), if_pos c5]
  · rw [if_neg c5]
    by_cases c6 : S % c = c - S % c
    · rw [if_pos c6]
      by_cases c7 : S / c % 2 = 1
      · rw [show rhe S c = S / c + 1 from if_pos (.inr ⟨c6, c7⟩), if_pos c7]
      · rw [show rhe S c = S / c from if_neg (by rintro (q | q); exact c5 q; exact c7 q.2), if_neg c7]
    · rw [show rhe S c = S / c from if_neg (by rintro (q | q); exact c5 q; exact c6 q.1), if_neg c6]
theorem div_unique {W L S B : Int} (h : W * B + L = S) (l0 : 0 ≤ L) (l1 : L < B) : S / B = W ∧ S % B = L := by
  have hB : 0 < B := by omega
  subst h
  constructor
  · rw [Int.add_comm, Int.add_mul_ediv_right _ _ (by omega), Int.ediv_eq_zero_of_lt l0 l1]; omega
  · rw [Int.add_comm, Int.add_mul_emod_self_right, Int.emod_eq_of_lt l0 l1]
theorem sgn_bne (a b : Int) : (decide (a < 0) != decide (b < 0)) = (!(decide (a < 0) == decide (b < 0))) := rfl
/-- What follows the last digit. -/
theorem refDiv_end {a b S B : Int} (hB : absI b = B) (b1 : 1 ≤ B) (b2 : B ≤ 1000000000000000000) (hb : FitsI b) (s0 : 0 ≤ S / B) (s1 : S / B ≤ 4000000000000000000) : ∀ k,
    foolscapref01_Div.l0 (k + 1) a b (S / B) (S % B) B 6 = some (if rhe S B > 1000000000000000000 then (0, 3) else (signed a b (rhe S B), 0)) := by
  intro k
  have hr0 := Int.emod_nonneg S (b := B) (by omega)
  have hr1 := Int.emod_lt_of_pos S (b := B) (by omega)
  obtain ⟨_, _⟩ := hb
  simp only [foolscapref01_Div.l0]
  rw [if_neg (by omega), refSize_of (by omega) (by omega), hB, wr64 (x := S % B) (by omega) (by omega)]
  simp only [Option.bind_some]
  rw [refEven_rhe b1 b2 s0 s1]
  simp only [Option.bind_some]
  have hrh := rhe_nonneg (S := S) (c := B) b1 (by have := Int.mul_ediv_add_emod S B; have := Int.mul_nonneg (show 0 ≤ B by omega) s0; omega)
  by_cases c : rhe S B > 1000000000000000000
  · rw [if_pos c, if_pos c]
  · rw [if_neg c, if_neg c, wr64 (x := -rhe S B) (by omega) (by omega), sgn_bne]
    unfold signed
    by_cases d : (!(decide (a < 0) == decide (b < 0))) = true
    · rw [if_pos d, if_pos d]
    · rw [if_neg d, if_neg d]
theorem refDiv_l0 {a b S B : Int} (hB : absI b = B) (b1 : 1 ≤ B) (b2 : B ≤ 1000000000000000000) (hb : FitsI b) :
    ∀ (d : Nat) (W L i : Int), i + d = 6 → 0 ≤ i → 0 ≤ W → (W + 1) * 10 ^ d ≤ 1000001000000000000 → 0 ≤ L → L < B → (W * B + L) * 10 ^ d = S →
    Ev (fun k => foolscapref01_Div.l0 k a b W L B i) (if rhe S B > 1000000000000000000 then (0, 3) else (signed a b (rhe S B), 0))
  | 0, W, L, i, hi, i0, w0, w1, l0, l1, hS => by
    rw [Int.pow_zero, Int.mul_one] at hS w1
    obtain ⟨e1, e2⟩ := div_unique hS l0 l1
    refine Ev.step (f := fun _ => some _) (fun k => ?_) (Ev.now _)
    have := refDiv_end (a := a) (S := S) hB b1 b2 hb (by omega) (by omega) k
    rw [e1, e2] at this
    rw [show i = 6 by omega]; exact this
  | d + 1, W, L, i, hi, i0, w0, w1, l0, l1, hS => by
    have ep : (10 : Int) ^ (d + 1) = 10 * 10 ^ d := by rw [Int.pow_succ, Int.mul_comm]
    have hp : 1 ≤ (10 : Int) ^ d := Int.add_one_le_of_lt (Int.pow_pos (by decide))
    have q0 : 0 ≤ 10 * L / B := Int.ediv_nonneg (by omega) (by omega)
    have q1 : 10 * L / B < 10 := Int.ediv_lt_of_lt_mul (by omega) (by omega)
    have r0 := Int.emod_nonneg (10 * L) (b := B) (by omega)
    have r1 := Int.emod_lt_of_pos (10 * L) (b := B) (by omega)
    have hdm := Int.mul_ediv_add_emod (10 * L) B
    have e1 : (W + 1) * (10 * 10 ^ d) = (10 * W + 10) * 10 ^ d := by grind
    rw [ep, e1] at w1
    have w2 : 10 * W + 10 ≤ (10 * W + 10) * 10 ^ d := by
      have := Int.mul_le_mul_of_nonneg_left hp (show 0 ≤ 10 * W + 10 by omega); omega
    have h := refDiv_l0 (a := a) (S := S) hB b1 b2 hb d (10 * W + 10 * L / B) (10 * L % B) (i + 1) (by omega) (by omega) (by omega) (by
        have := Int.mul_le_mul_of_nonneg_right (show 10 * W + 10 * L / B + 1 ≤ 10 * W + 10 by omega) (show 0 ≤ (10 : Int) ^ d by omega); omega) r0 r1 (by
        rw [← hS, ep, show (10 * W + 10 * L / B) * B + 10 * L % B = 10 * W * B + (B * (10 * L / B) + 10 * L % B) by grind, hdm]; grind)
    refine Ev.step (fun k => ?_) h
    simp only [foolscapref01_Div.l0]
    rw [if_pos (by omega), if_neg (by omega), w64 (x := 10 * L) (by omega) (by omega), Int.tdiv_eq_ediv_of_nonneg (a := 10 * L) (by omega), Int.tmod_eq_emod_of_nonneg (a := 10 * L) (by omega),
      w64 (x := 10 * L / B) (by omega) (by omega), wr64 (x := 10 * L / B) (by omega) (by omega), wr64 (x := 10 * W) (by omega) (by omega), wr64 (x := 10 * W + 10 * L / B) (by omega) (by omega), wr64 (x := i + 1) (by omega) (by omega)]
theorem refDiv_of (a b : Int) : Ev (fun k => foolscapref01_Div.f k a b) (if FitsI a ∧ FitsI b then divV a b else (0, 2)) := by
  have bad : Ev (fun k => foolscapref01_Div.j0 k a b true) (0, 2) := Ev.step (f := fun _ => some (0, 2)) (fun k => by simp only [foolscapref01_Div.j0]; rw [if_pos trivial]) (Ev.now _)
  by_cases fa : FitsI a
  · by_cases fb : FitsI b
    · rw [if_pos ⟨fa, fb⟩]
      have hf : ∀ k, foolscapref01_Div.f k a b = foolscapref01_Div.j0 k a b false := fun k => by unfold foolscapref01_Div.f; rw [refFits_of, refFits_of, decide_eq_true fa, decide_eq_true fb]; rfl
      refine Ev.congr hf ?_
      unfold divV
      by_cases z : b = 0
      · rw [if_pos z]
        exact Ev.step (f := fun _ => some (0, 4)) (fun k => by simp only [foolscapref01_Div.j0]; rw [if_neg (by decide), if_pos z]) (Ev.now _)
      rw [if_neg z]
      have ha := absI_fits fa
      have hb := absI_fits fb
      have hb1 : 1 ≤ absI b := by unfold absI; split <;> omega
      have sa : foolscapref01_Size.f a = some (absI a) := refSize_of (by obtain ⟨_, _⟩ := fa; omega) (by obtain ⟨_, _⟩ := fa; omega)
      have sb : foolscapref01_Size.f b = some (absI b) := refSize_of (by obtain ⟨_, _⟩ := fb; omega) (by obtain ⟨_, _⟩ := fb; omega)
      have r0 := Int.emod_nonneg (absI a) (b := absI b) (by omega)
      have r1 := Int.emod_lt_of_pos (absI a) (b := absI b) (by omega)
      have q0 : 0 ≤ absI a / absI b := Int.ediv_nonneg ha.1 hb.1
      have q1 : absI a / absI b ≤ absI a := Int.ediv_le_self _ ha.1
      have hdm := Int.mul_ediv_add_emod (absI a) (absI b)
      have st : ∀ k, foolscapref01_Div.j0 (k + 1) a b false = if absI a / absI b > 1000000000000 then some (0, 3) else foolscapref01_Div.l0 k a b (absI a / absI b) (absI a % absI b) (absI b) 0 := fun k => by
        simp only [foolscapref01_Div.j0]
        rw [if_neg (by decide), if_neg z, sa, sb]
        simp only [Option.bind_some]
        rw [if_neg (by omega), if_neg (by omega), Int.tdiv_eq_ediv_of_nonneg ha.1, Int.tmod_eq_emod_of_nonneg ha.1, wr64 (x := absI a / absI b) (by omega) (by omega), w64 (x := absI a % absI b) (by omega) (by omega), w64 (x := absI b) (by omega) (by omega)]
      by_cases c : absI a / absI b > 1000000000000
      · have hbig := rhe_ge (S := absI a * 1000000) (c := absI b) (b := 1000000000001000000) hb1 (by
          have := Int.mul_le_mul_of_nonneg_left (show 1000000000001 ≤ absI a / absI b by omega) hb.1
          omega)
        rw [if_pos (show rhe (absI a * 1000000) (absI b) > 1000000000000000000 by omega)]
        exact Ev.step (f := fun _ => some (0, 3)) (fun k => by rw [st, if_pos c]) (Ev.now _)
      · refine Ev.step (fun k => by rw [st, if_neg c]) (refDiv_l0 (a := a) (S := absI a * 1000000) rfl hb1 hb.2 fb 6 _ _ 0 (by omega) (by omega) q0 ?_ r0 r1 ?_)
        · rw [show (10 : Int) ^ 6 = 1000000 by decide]; omega
        · rw [show (10 : Int) ^ 6 = 1000000 by decide, Int.mul_comm (absI a / absI b) (absI b), hdm]
    · rw [if_neg (fun q => fb q.2)]
      exact Ev.congr (fun k => by unfold foolscapref01_Div.f; rw [refFits_of, refFits_of, decide_eq_true fa, decide_eq_false fb]; rfl) bad
  · rw [if_neg (fun q => fa q.1)]
    exact Ev.congr (fun k => by unfold foolscapref01_Div.f; rw [refFits_of, decide_eq_false fa]; rfl) bad
end Go.Proofs.Ytklkanaabmehkaa.Pure
