/- Numbers that fit; sizes; rounding to the nearest number, halves to the even one. -/
import Derived.Test.YtlglopainaploaaDiv
import Derived.Test.YtlglopainaploaaPLx1
set_option linter.unusedVariables false
set_option linter.unusedSimpArgs false
namespace Go.Proofs.Ytlglopainaploaa.Pure
open Go.RowKit Go.Proofs.Ytlglopainaploaa.PL Go.Proofs.YtlglopainaploaaW.PrintWords Go.Proofs.YtlglopainaploaaW.PrintLast Go.Proofs.YtlglopainaploaaW.PrintMore

def FitsI (n : Int) : Prop := -1000000000000000000 ≤ n ∧ n ≤ 1000000000000000000
instance (n : Int) : Decidable (FitsI n) := inferInstanceAs (Decidable (_ ∧ _))
theorem wr64 {x : Int} (h0 : -9223372036854775808 ≤ x) (h1 : x ≤ 9223372036854775807) : wrap64 x = x := by
  unfold wrap64; omega
theorem wf_i64 {n : Int} (w : (Lit.int .i64 n).wf = true) : -9223372036854775808 ≤ n ∧ n ≤ 9223372036854775807 := by
  simp only [Lit.wf, IntKind.min, IntKind.max, IntKind.signed, IntKind.bits, Bool.and_eq_true, decide_eq_true_eq, if_true] at w
  omega
theorem fits_of (n : Int) : num_Fits.f n = some (decide (FitsI n)) := by
  unfold num_Fits.f
  by_cases c : n ≥ -1000000000000000000
  · rw [if_pos c]
    congr 1
    exact decide_eq_decide.2 ⟨fun h => ⟨c, h⟩, fun h => h.2⟩
  · rw [if_neg c, decide_eq_false (show ¬ FitsI n from fun q => c q.1)]

/-- A number's size. -/
def absI (x : Int) : Int := if x < 0 then -x else x
theorem absI_nonneg (x : Int) : 0 ≤ absI x := by unfold absI; split <;> omega
theorem absI_fits {x : Int} (f : FitsI x) : 0 ≤ absI x ∧ absI x ≤ 1000000000000000000 := by
  obtain ⟨_, _⟩ := f; unfold absI; split <;> omega
theorem mx_abs {x : Int} (h0 : -9223372036854775807 ≤ x) (h1 : x ≤ 9223372036854775807) : mx x (wrap64 (-x)) = absI x := by
  rw [wr64 (by omega) (by omega)]; unfold mx absI; split <;> split <;> omega

/-- A quotient rounded to the nearest whole number, halves to the even one. -/
def rhe (S c : Int) : Int := if S % c > c - S % c ∨ (S % c = c - S % c ∧ S / c % 2 = 1) then S / c + 1 else S / c
theorem and1 {q : Int} (h0 : 0 ≤ q) (h1 : q < 18446744073709551616) : Go.bits .and .u64 q 1 = q % 2 :=
  bits_mask .u64 64 (by decide) w64s 1 (by decide) q h0 (by simpa using h1)
theorem rhe_le {S c b : Int} (c0 : 1 ≤ c) (h : S ≤ c * b) (hb : 0 ≤ S) : rhe S c ≤ b := by
  have hdm := Int.mul_ediv_add_emod S c
  have hr0 := Int.emod_nonneg S (b := c) (by omega)
  have hr1 := Int.emod_lt_of_pos S (b := c) (by omega)
  by_cases e : b ≤ S / c
  · have h1 : c * b ≤ c * (S / c) := Int.mul_le_mul_of_nonneg_left e (by omega)
    have h2 : S % c = 0 := by omega
    have h3 : S / c = b := by
      have h4 : c * (S / c) = c * b := by omega
      exact Int.eq_of_mul_eq_mul_left (by omega) h4
    unfold rhe
    rw [if_neg (by rw [h2]; omega)]; omega
  · unfold rhe; split <;> omega
theorem rhe_ge {S c b : Int} (c0 : 1 ≤ c) (h : c * b ≤ S) : b ≤ rhe S c := by
  have h1 : b ≤ S / c := (Int.le_ediv_iff_mul_le (by omega)).2 (by rw [Int.mul_comm]; exact h)
  unfold rhe; split <;> omega
theorem rhe_nonneg {S c : Int} (c0 : 1 ≤ c) (h : 0 ≤ S) : 0 ≤ rhe S c := rhe_ge c0 (by omega)
/-- What is rounded is off by half at the most. -/
theorem rhe_near {S c : Int} (c0 : 1 ≤ c) : 2 * S - c ≤ 2 * (c * rhe S c) ∧ 2 * (c * rhe S c) ≤ 2 * S + c := by
  have hdm := Int.mul_ediv_add_emod S c
  have hr0 := Int.emod_nonneg S (b := c) (by omega)
  have hr1 := Int.emod_lt_of_pos S (b := c) (by omega)
  unfold rhe
  split
  · rename_i h; rw [Int.mul_add, Int.mul_one]; omega
  · rename_i h; have : ¬ S % c > c - S % c := fun q => h (.inl q); omega
theorem rhe_exact {c q : Int} (c0 : 1 ≤ c) : rhe (c * q) c = q := by
  unfold rhe
  rw [Int.mul_emod_right, Int.mul_ediv_cancel_left _ (by omega), if_neg (by omega)]
end Go.Proofs.Ytlglopainaploaa.Pure
