/- Sums told by their values. -/
import Derived.Test.YtlglopainaploaaWide16
set_option linter.unusedVariables false
set_option linter.unusedSimpArgs false
namespace Go.Proofs.Ytlglopainaploaa.Pure
open Go.RowKit Go.Proofs.Ytlglopainaploaa.PL Go.Proofs.YtlglopainaploaaW.PrintWords Go.Proofs.YtlglopainaploaaW.PrintLast Go.Proofs.YtlglopainaploaaW.PrintMore

/-- The values that sums may have. -/
def inR (v : Int) : Prop := -2147483648000000000000000000 ≤ v ∧ v < 2147483648000000000000000000
theorem WV_of {v : Int} (h : inR v) : WV (v / 1000000000000000000) (v % 1000000000000000000) := by
  obtain ⟨a, b⟩ := h; exact ⟨by omega, by omega, by omega, by omega⟩
theorem val_of (v : Int) : val (v / 1000000000000000000) (v % 1000000000000000000) = v := by unfold val; omega
theorem of_WV {h l : Int} (w : WV h l) : inR (val h l) ∧ h = val h l / 1000000000000000000 ∧ l = val h l % 1000000000000000000 := by
  obtain ⟨a, b, c, d⟩ := w; unfold inR val; omega
theorem carry_in {h l : Int} (r : inR (val h l)) : carry h l = (val h l / 1000000000000000000, val h l % 1000000000000000000, 0) :=
  carry_ok r.1 r.2
theorem carry_out {h l : Int} (r : ¬ inR (val h l)) : carry h l = (0, 0, 3) :=
  carry_over (by unfold inR at r; omega)
/-- A number told to a value. -/
theorem add_v {v n : Int} (r : inR v) : wide_Add.f (v / 1000000000000000000) (v % 1000000000000000000) n =
    some (if FitsI n then carry (v / 1000000000000000000) (v % 1000000000000000000 + n) else (0, 0, 2)) := by
  rw [add_of]
  congr 1
  by_cases c : FitsI n
  · rw [if_pos ⟨WV_of r, c⟩, if_pos c]
  · rw [if_neg (fun q => c q.2), if_neg c]
theorem add_in {v n : Int} (r : inR v) (f : FitsI n) (s : inR (v + n)) : wide_Add.f (v / 1000000000000000000) (v % 1000000000000000000) n =
    some ((v + n) / 1000000000000000000, (v + n) % 1000000000000000000, 0) := by
  have e : val (v / 1000000000000000000) (v % 1000000000000000000 + n) = v + n := by unfold val; omega
  rw [add_v r, if_pos f, carry_in (by rw [e]; exact s), e]
theorem add_out {v n : Int} (r : inR v) (f : FitsI n) (s : ¬ inR (v + n)) : wide_Add.f (v / 1000000000000000000) (v % 1000000000000000000) n = some (0, 0, 3) := by
  have e : val (v / 1000000000000000000) (v % 1000000000000000000 + n) = v + n := by unfold val; omega
  rw [add_v r, if_pos f, carry_out (by rw [e]; exact s)]
theorem add_bad {v n : Int} (r : inR v) (f : ¬ FitsI n) : wide_Add.f (v / 1000000000000000000) (v % 1000000000000000000) n = some (0, 0, 2) := by
  rw [add_v r, if_neg f]
theorem total_v {v : Int} (r : inR v) : wide_Total.f (v / 1000000000000000000) (v % 1000000000000000000) =
    some (if -1000000000000000000 ≤ v ∧ v ≤ 1000000000000000000 then (v, 0) else (0, 3)) := by
  rw [total_of, if_pos (WV_of r), val_of]
/-- The mean of a value. -/
def meanV (v c : Int) : Int := if v < 0 then -rhe (absI v) c else rhe (absI v) c
theorem mean_v {v c : Int} (r : inR v) (c0 : 1 ≤ c) (c1 : c ≤ 2147483648) : Ev (fun k => wide_Mean.f k (v / 1000000000000000000) (v % 1000000000000000000) c)
    (if rhe (absI v) c > 1000000000000000000 then (0, 3) else (meanV v c, 0)) := by
  have h := mean_of (v / 1000000000000000000) (v % 1000000000000000000) c
  rw [if_pos ⟨WV_of r, c0, c1⟩] at h
  unfold meanOf at h
  rw [val_of] at h
  have e : (v / 1000000000000000000 < 0) ↔ v < 0 := by omega
  unfold meanV
  by_cases d : v < 0
  · rw [if_pos (e.2 d)] at h; rw [if_pos d]; exact h
  · rw [if_neg (fun q => d (e.1 q))] at h; rw [if_neg d]; exact h

theorem meanV_le {v c b : Int} (c0 : 1 ≤ c) (h : v ≤ c * b) : meanV v c ≤ b := by
  unfold meanV absI
  by_cases d : v < 0
  · rw [if_pos d, if_pos d]
    by_cases e : b < 0
    · have h1 : -b ≤ rhe (-v) c := rhe_ge c0 (by rw [Int.mul_neg]; omega)
      omega
    · have h1 : 0 ≤ rhe (-v) c := rhe_nonneg c0 (by omega)
      omega
  · rw [if_neg d, if_neg d]
    exact rhe_le c0 h (by omega)
theorem meanV_ge {v c b : Int} (c0 : 1 ≤ c) (h : c * b ≤ v) : b ≤ meanV v c := by
  unfold meanV absI
  by_cases d : v < 0
  · rw [if_pos d, if_pos d]
    have h1 : rhe (-v) c ≤ -b := rhe_le c0 (by rw [Int.mul_neg]; omega) (by omega)
    omega
  · rw [if_neg d, if_neg d]
    exact rhe_ge c0 h
/-- The mean of numbers between bounds that fit. -/
theorem mean_fits {v c lo hi : Int} (c0 : 1 ≤ c) (l : c * lo ≤ v) (h : v ≤ c * hi) (fl : FitsI lo) (fh : FitsI hi) :
    rhe (absI v) c ≤ 1000000000000000000 ∧ lo ≤ meanV v c ∧ meanV v c ≤ hi := by
  refine ⟨?_, meanV_ge c0 l, meanV_le c0 h⟩
  have a := meanV_ge c0 l
  have b := meanV_le c0 h
  obtain ⟨x, y⟩ := fl; obtain ⟨z, t⟩ := fh
  unfold meanV at a b
  split at a
  · rename_i d; rw [if_pos d] at b; omega
  · rename_i d; rw [if_neg d] at b; omega
end Go.Proofs.Ytlglopainaploaa.Pure
