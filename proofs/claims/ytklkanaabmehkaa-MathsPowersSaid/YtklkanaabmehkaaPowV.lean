/- What the printed power tells. -/
import Derived.Test.YtklkanaabmehkaaPQx2
import Derived.Test.YtklkanaabmehkaaNum
set_option linter.unusedVariables false
set_option linter.unusedSimpArgs false
namespace Go.Proofs.Ytklkanaabmehkaa.Pure
open Go.RowKit Go.Proofs.Ytklkanaabmehkaa.PQ Go.Proofs.YtklkanaabmehkaaW.PrintWords Go.Proofs.YtklkanaabmehkaaW.PrintLast Go.Proofs.YtklkanaabmehkaaW.PrintMore

theorem mSize_of {n : Int} (h0 : -9223372036854775807 ≤ n) (h1 : n ≤ 9223372036854775807) : maths_size.f n = some (absI n) := by
  unfold maths_size.f; rw [mx_abs h0 h1]
def powEnd (k p : Int) : Int × Int := if k > 0 then (p, 0) else if (divV 1000000 p).2 = 0 then ((divV 1000000 p).1, 0) else if (divV 1000000 p).2 = 4 then (0, 1) else (0, 5)
def powL (n k : Int) : Nat → Int → Int × Int
  | 0, p => powEnd k p
  | d + 1, p => if (mulV p n).2 = 0 then powL n k d (mulV p n).1 else (0, 5)
def PowOk (n k : Int) : Prop := FitsI n ∧ FitsI k ∧ k.tmod 1000000 = 0 ∧ absI k ≤ 1000000000 ∧ ¬ (n = 0 ∧ k = 0)
instance (n k : Int) : Decidable (PowOk n k) := inferInstanceAs (Decidable (_ ∧ _))
def powV (n k : Int) : Int × Int := if PowOk n k then (if k = 0 then (1000000, 0) else powL n k (absI k / 1000000 - 1).toNat n) else (0, 5)
theorem pow_l0 {n q : Int} (fn : FitsI n) : ∀ (d : Nat) (p i : Int), FitsI p → 0 ≤ i → i + d ≤ 1000000000 →
    Ev (fun k => maths_Power.l0 k n q p (i + d) i) (powL n q d p)
  | 0, p, i, fp, i0, i1 => by
    show Ev _ (powEnd q p)
    unfold powEnd
    by_cases c : q > 0
    · rw [if_pos c]
      refine Ev.step (f := fun _ => some (p, 0)) (fun k => ?_) (Ev.now _)
      simp only [maths_Power.l0]
      rw [if_neg (by omega), if_pos c]
    · rw [if_neg c]
      have hd := div_of 1000000 p
      rw [if_pos ⟨⟨by decide, by decide⟩, fp⟩] at hd
      refine Ev.step (f := fun k => (num_Div.f k 1000000 p).bind fun bt114 => (if bt114.2 = 0 then (some (bt114.1, 0)) else (if bt114.2 = 4 then (some (0, 1)) else (some (0, 5))))) (fun k => ?_) (Ev.bind hd (Ev.congr (fun k => ?_) (Ev.now _)))
      · simp only [maths_Power.l0]; rw [if_neg (by omega), if_neg c]
      · split
        · rfl
        · split <;> rfl
  | d + 1, p, i, fp, i0, i1 => by
    have hm := mul_of p n
    rw [if_pos ⟨fp, fn⟩] at hm
    refine Ev.step (f := fun k => (num_Mul.f k p n).bind fun bt112 => (if bt112.2 = 0 then (maths_Power.l0 k n q bt112.1 (i + (d + 1 : Nat)) (i + 1)) else (some (0, 5)))) (fun k => ?_) (Ev.bind hm ?_)
    · simp only [maths_Power.l0]; rw [if_pos (by omega), wr64 (x := i + 1) (by omega) (by omega)]
    · unfold powL
      by_cases c : (mulV p n).2 = 0
      · rw [if_pos c]
        refine Ev.congr (fun k => if_pos c) ?_
        have h := pow_l0 (q := q) fn d (mulV p n).1 (i + 1) (mulV_fits (Prod.ext rfl c)) (by omega) (by omega)
        rw [show i + 1 + (d : Int) = i + (d + 1 : Nat) by omega] at h
        exact h
      · rw [if_neg c]
        exact Ev.congr (f := fun _ => some (0, 5)) (fun k => if_neg c) (Ev.now _)
theorem k_whole {k : Int} (h : k.tmod 1000000 = 0) (h0 : k ≠ 0) : 1 ≤ absI k / 1000000 := by
  have := Int.mul_tdiv_add_tmod k 1000000
  unfold absI; split <;> omega
theorem pow_of (n q : Int) : Ev (fun k => maths_Power.f k n q) (powV n q) := by
  have bad : Ev (fun k => maths_Power.j0 k n q true) (0, 5) := Ev.step (f := fun _ => some (0, 5)) (fun k => by simp only [maths_Power.j0]; rw [if_pos trivial]) (Ev.now _)
  unfold maths_Power.f powV
  rw [fits_of, fits_of]
  simp only [Option.bind_some]
  by_cases c1 : FitsI n
  · refine Ev.congr (fun k => if_pos (decide_eq_true c1)) ?_
    by_cases c2 : FitsI q
    · refine Ev.congr (fun k => if_pos (decide_eq_true c2)) ?_
      by_cases c3 : q.tmod 1000000 = 0
      · refine Ev.congr (fun k => if_pos c3) ?_
        have hq := c2
        obtain ⟨_, _⟩ := hq
        rw [mSize_of (by omega) (by omega)]
        simp only [Option.bind_some]
        by_cases c4 : absI q > 1000000000
        · rw [if_neg (show ¬ PowOk n q from fun h => by have := h.2.2.2.1; omega)]
          exact Ev.congr (fun k => if_pos c4) bad
        refine Ev.congr (fun k => if_neg c4) ?_
        by_cases c5 : n = 0 ∧ q = 0
        · rw [if_neg (show ¬ PowOk n q from fun h => h.2.2.2.2 c5)]
          exact Ev.congr (fun k => by rw [if_pos c5.1, c5.2]; rfl) bad
        rw [if_pos (show PowOk n q from ⟨c1, c2, c3, by omega, c5⟩)]
        refine Ev.congr (f := fun k => maths_Power.j0 k n q false) (fun k => ?_) ?_
        · by_cases c6 : n = 0
          · rw [if_pos c6, beq_eq_false_iff_ne.2 (fun h => c5 ⟨c6, h⟩)]
          · rw [if_neg c6]
        by_cases c6 : q = 0
        · rw [if_pos c6]
          exact Ev.step (f := fun _ => some (1000000, 0)) (fun k => by simp only [maths_Power.j0]; rw [if_neg (by decide), if_pos c6]) (Ev.now _)
        rw [if_neg c6]
        have hK := k_whole c3 c6
        have h := pow_l0 (q := q) c1 (absI q / 1000000 - 1).toNat n 0 c1 (by omega) (by omega)
        rw [show (0 : Int) + ((absI q / 1000000 - 1).toNat : Nat) = absI q / 1000000 - 1 by omega] at h
        refine Ev.step (fun k => ?_) h
        simp only [maths_Power.j0]
        rw [if_neg (by decide), if_neg c6, mSize_of (by omega) (by omega)]
        simp only [Option.bind_some]
        rw [Int.tdiv_eq_ediv_of_nonneg (absI_nonneg q), wr64 (x := absI q / 1000000) (by omega) (by omega), wr64 (x := absI q / 1000000 - 1) (by omega) (by omega)]
      · rw [if_neg (show ¬ PowOk n q from fun h => c3 h.2.2.1)]
        exact Ev.congr (fun k => if_neg c3) bad
    · rw [if_neg (show ¬ PowOk n q from fun h => c2 h.2.1)]
      exact Ev.congr (fun k => if_neg (by rw [decide_eq_false c2]; decide)) bad
  · rw [if_neg (show ¬ PowOk n q from fun h => c1 h.1)]
    exact Ev.congr (fun k => if_neg (by rw [decide_eq_false c1]; decide)) bad
end Go.Proofs.Ytklkanaabmehkaa.Pure
