/- What the printed functions of the package maths that round tell. -/
import Derived.Test.YtklkanaabmehkaaPRx5
import Derived.Test.YtklkanaabmehkaaPRx6
import Derived.Test.YtklkanaabmehkaaPRx5
import Derived.Test.YtklkanaabmehkaaBase
set_option linter.unusedVariables false
set_option linter.unusedSimpArgs false
namespace Go.Proofs.Ytklkanaabmehkaa.Pure
open Go.RowKit Go.Proofs.Ytklkanaabmehkaa.PR Go.Proofs.YtklkanaabmehkaaW.PrintWords Go.Proofs.YtklkanaabmehkaaW.PrintLast Go.Proofs.YtklkanaabmehkaaW.PrintMore

theorem tm_pos {n t : Int} (t0 : 1 ≤ t) (h : 0 ≤ n) : 0 ≤ n.tmod t ∧ n.tmod t < t ∧ n.tmod t ≤ n := by
  rw [Int.tmod_eq_emod_of_nonneg h]
  have h1 := Int.emod_nonneg n (b := t) (by omega)
  have h2 := Int.emod_lt_of_pos n (b := t) (by omega)
  have h3 := Int.mul_ediv_add_emod n t
  have h4 : 0 ≤ t * (n / t) := Int.mul_nonneg (by omega) (Int.ediv_nonneg h (by omega))
  omega
theorem tm_neg {n t : Int} (t0 : 1 ≤ t) (h : n ≤ 0) : -t < n.tmod t ∧ n.tmod t ≤ 0 ∧ n ≤ n.tmod t := by
  obtain ⟨m, rfl⟩ : ∃ m, n = -m := ⟨-n, by omega⟩
  rw [Int.neg_tmod]
  have := tm_pos (n := m) t0 (by omega)
  omega
/-- What is left of n behind its rest: a multiple, not farther from 0. -/
theorem tm_rest (n : Int) {t : Int} (t0 : 1 ≤ t) : (n - n.tmod t).tmod t = 0 := by
  have h := Int.mul_tdiv_add_tmod n t
  rw [show n - n.tmod t = t * n.tdiv t by omega]
  exact Int.mul_tmod_right _ _
theorem tm_zero_add {a t : Int} (h : a.tmod t = 0) : (a + t).tmod t = 0 ∧ (a - t).tmod t = 0 := by
  have h1 := Int.mul_tdiv_add_tmod a t
  rw [h, Int.add_zero] at h1
  constructor
  · rw [← h1, show t * a.tdiv t + t = t * (a.tdiv t + 1) by rw [Int.mul_add, Int.mul_one]]; exact Int.mul_tmod_right _ _
  · rw [← h1, show t * a.tdiv t - t = t * (a.tdiv t - 1) by rw [Int.mul_sub, Int.mul_one]]; exact Int.mul_tmod_right _ _

def toldV (n : Int) : Int × Int := if FitsI n then (n, 0) else (0, 5)
theorem told_of (n : Int) : maths_told.f n = some (toldV n) := by
  unfold maths_told.f toldV
  rw [fits_of]
  simp only [Option.bind_some]
  by_cases c : FitsI n
  · rw [decide_eq_true c, if_pos rfl, if_pos c]
  · rw [decide_eq_false c, if_neg (by decide), if_neg c]
/-- A number farther from 0, on a side. -/
def awayV (n b side : Int) : Int × Int := toldV (if side < 0 then n - b else n + b)
theorem away_of {n b side : Int} (hn : FitsI n) (b0 : 0 ≤ b) (b1 : b ≤ 1000000000000000000) : maths_away.f n b side = some (awayV n b side) := by
  obtain ⟨_, _⟩ := hn
  unfold maths_away.f awayV
  by_cases c : side < 0
  · rw [if_pos c, if_pos c, wr64 (x := -b) (by omega) (by omega), wr64 (by omega) (by omega), told_of]; rw [show n + -b = n - b by omega]; rfl
  · rw [if_neg c, if_neg c, wr64 (by omega) (by omega), told_of]; rfl

theorem p10 : ∀ j, j < 19 → (1 : Int) ≤ 10 ^ j ∧ (10 : Int) ^ j ≤ 1000000000000000000 := by decide
/-- How long a step of so many places is. -/
def pw (p : Int) : Int := 10 ^ (6 - p).toNat
def Places (p : Int) : Prop := -12 ≤ p ∧ p ≤ 6
instance (p : Int) : Decidable (Places p) := inferInstanceAs (Decidable (_ ∧ _))
theorem pw_bd {p : Int} (h : Places p) : 1 ≤ pw p ∧ pw p ≤ 1000000000000000000 := p10 _ (by obtain ⟨_, _⟩ := h; omega)
theorem steps_l0 (n : Nat) (hn : n ≤ 18) (d : Nat) : ∀ j : Nat, j + d = n → Ev (fun k => maths_steps.l0 k (10 ^ j) n j) (10 ^ n) := by
  induction d with
  | zero =>
    intro j hj
    obtain rfl : j = n := by omega
    refine Ev.step (f := fun _ => some (10 ^ j)) (fun k => ?_) (Ev.now _)
    simp only [maths_steps.l0]; rw [if_neg (by omega)]
  | succ d ih =>
    intro j hj
    have h1 := p10 (j + 1) (by omega)
    have e : (10 : Int) ^ j * 10 = 10 ^ (j + 1) := (Int.pow_succ 10 j).symm
    refine Ev.step (fun k => ?_) (ih (j + 1) (by omega))
    simp only [maths_steps.l0]
    rw [if_pos (by omega), e, wr64 (x := 10 ^ (j + 1)) (by omega) (by omega), wr64 (by omega) (by omega)]
    rfl
theorem steps_of {p : Int} (p0 : -9223372036854775808 ≤ p) (p1 : p ≤ 9223372036854775807) : Ev (fun k => maths_steps.f k p) (if Places p then pw p else 0) := by
  have bad : Ev (fun k => maths_steps.j0 k p true) 0 := Ev.step (f := fun _ => some 0) (fun k => by simp only [maths_steps.j0]; rw [if_pos trivial]) (Ev.now _)
  by_cases c1 : p < -12
  · rw [if_neg (show ¬ Places p from fun q => by obtain ⟨_, _⟩ := q; omega)]
    exact Ev.congr (fun k => by unfold maths_steps.f; rw [if_pos c1]) bad
  by_cases c2 : p > 6
  · rw [if_neg (show ¬ Places p from fun q => by obtain ⟨_, _⟩ := q; omega)]
    exact Ev.congr (fun k => by unfold maths_steps.f; rw [if_neg c1, decide_eq_true c2]) bad
  rw [if_pos (show Places p from ⟨by omega, by omega⟩)]
  refine Ev.congr (f := fun k => maths_steps.j0 k p false) (fun k => by unfold maths_steps.f; rw [if_neg c1, decide_eq_false c2]) ?_
  have h := steps_l0 (6 - p).toNat (by omega) (6 - p).toNat 0 (by omega)
  rw [show (((6 - p).toNat : Nat) : Int) = 6 - p by omega] at h
  refine Ev.step (fun k => ?_) h
  simp only [maths_steps.j0]
  rw [if_neg (by decide), wr64 (x := 6 - p) (by omega) (by omega)]
  rfl

def downV (n p : Int) : Int × Int := if FitsI n ∧ Places p then (n - n.tmod (pw p), 0) else (0, 5)
def upV (n p : Int) : Int × Int := if FitsI n ∧ Places p then (if n.tmod (pw p) = 0 then (n, 0) else awayV (n - n.tmod (pw p)) (pw p) n) else (0, 5)
theorem rest_fits {n t : Int} (hn : FitsI n) (t0 : 1 ≤ t) : FitsI (n - n.tmod t) := by
  obtain ⟨a, b⟩ := hn
  by_cases h : 0 ≤ n
  · have := tm_pos t0 h; exact ⟨by omega, by omega⟩
  · have := tm_neg t0 (show n ≤ 0 by omega); exact ⟨by omega, by omega⟩
theorem down_of {n p : Int} (p0 : -9223372036854775808 ≤ p) (p1 : p ≤ 9223372036854775807) : Ev (fun k => maths_Down.f k n p) (downV n p) := by
  refine Ev.bind (steps_of p0 p1) (Ev.congr (f := fun _ => some (downV n p)) (fun k => ?_) (Ev.now _))
  unfold downV
  rw [fits_of]
  simp only [Option.bind_some]
  by_cases c : FitsI n
  · rw [decide_eq_true c, if_pos rfl]
    unfold maths_Down_1.f
    by_cases d : Places p
    · have h := pw_bd d
      obtain ⟨_, _⟩ := rest_fits c h.1
      rw [if_pos d, if_neg (by omega), if_pos (show FitsI n ∧ Places p from ⟨c, d⟩), wr64 (by omega) (by omega)]
    · rw [if_neg d, if_pos rfl, if_neg (fun q => d q.2)]
  · rw [decide_eq_false c, if_neg (by decide), if_neg (fun q => c q.1)]
theorem up_of {n p : Int} (p0 : -9223372036854775808 ≤ p) (p1 : p ≤ 9223372036854775807) : Ev (fun k => maths_Up.f k n p) (upV n p) := by
  refine Ev.bind (steps_of p0 p1) (Ev.congr (f := fun _ => some (upV n p)) (fun k => ?_) (Ev.now _))
  unfold upV
  rw [fits_of]
  simp only [Option.bind_some]
  by_cases c : FitsI n
  · rw [decide_eq_true c, if_pos rfl]
    unfold maths_Up_1.f
    by_cases d : Places p
    · have h := pw_bd d
      have hf := rest_fits c h.1
      rw [if_pos d, if_neg (by omega), if_pos (show FitsI n ∧ Places p from ⟨c, d⟩)]
      by_cases e : n.tmod (pw p) = 0
      · rw [if_pos e, if_pos e]
      · rw [if_neg e, if_neg e, wr64 (by obtain ⟨_, _⟩ := hf; omega) (by obtain ⟨_, _⟩ := hf; omega), away_of hf (by omega) h.2]; rfl
    · rw [if_neg d, if_pos rfl, if_neg (fun q => d q.2)]
  · rw [decide_eq_false c, if_neg (by decide), if_neg (fun q => c q.1)]

theorem size_of {n : Int} (h0 : -9223372036854775807 ≤ n) (h1 : n ≤ 9223372036854775807) : maths_size.f n = some (absI n) := by
  unfold maths_size.f; rw [mx_abs h0 h1]

/-- Rounding to multiples. -/
def multV (n s : Int) (up : Bool) : Int × Int :=
  if ¬ (FitsI n ∧ FitsI s) then (0, 5) else if n = 0 then (0, 0) else if s = 0 then (0, 1) else if n > 0 ∧ s < 0 then (0, 5) else
  if n.tmod (absI s) = 0 then (n, 0) else if up = true ∧ n > 0 then toldV (n - n.tmod (absI s) + absI s) else if up = false ∧ n < 0 then toldV (n - n.tmod (absI s) - absI s) else (n - n.tmod (absI s), 0)
theorem mult_of (n s : Int) (up : Bool) : Ev (fun k => maths_multiple.f k n s up) (multV n s up) := by
  have bad : Ev (fun k => maths_multiple.j0 k n s up true) (0, 5) := Ev.step (f := fun _ => some (0, 5)) (fun k => by simp only [maths_multiple.j0]; rw [if_pos trivial]) (Ev.now _)
  unfold multV
  by_cases cn : FitsI n
  · by_cases cs : FitsI s
    · rw [if_neg (fun q => q ⟨cn, cs⟩)]
      have hs := absI_fits cs
      have hj1 : s ≠ 0 → Ev (fun k => maths_multiple.j1 k n s up) (if n.tmod (absI s) = 0 then (n, 0) else if up = true ∧ n > 0 then toldV (n - n.tmod (absI s) + absI s) else if up = false ∧ n < 0 then toldV (n - n.tmod (absI s) - absI s) else (n - n.tmod (absI s), 0)) := by
        intro hz
        have ht : 1 ≤ absI s := by unfold absI; split <;> omega
        have hsz : maths_size.f s = some (absI s) := size_of (by obtain ⟨_, _⟩ := cs; omega) (by obtain ⟨_, _⟩ := cs; omega)
        have hrf := rest_fits cn ht
        obtain ⟨hr1, hr2⟩ := hrf
        generalize absI s = t at *
        by_cases e0 : n.tmod t = 0
        · rw [if_pos e0]
          refine Ev.step (f := fun _ => some (n, 0)) (fun k => ?_) (Ev.now _)
          simp only [maths_multiple.j1]; rw [hsz]; simp only [Option.bind_some]; rw [if_neg (by omega), if_pos e0]
        rw [if_neg e0]
        have w1 : wrap64 (n - n.tmod t) = n - n.tmod t := wr64 (by omega) (by omega)
        have hj2 : ∀ b : Bool, Ev (fun k => maths_multiple.j2 k n t up (n.tmod t) b) (if b = true then toldV (n - n.tmod t + t) else if up = true then (n - n.tmod t, 0) else if n < 0 then toldV (n - n.tmod t - t) else (n - n.tmod t, 0)) := by
          intro b
          refine Ev.step (f := fun _ => some _) (fun k => ?_) (Ev.now _)
          simp only [maths_multiple.j2]
          rw [w1, wr64 (x := n - n.tmod t + t) (by omega) (by omega), wr64 (x := n - n.tmod t - t) (by omega) (by omega), told_of, told_of]
          cases b <;> cases up <;> by_cases c : n < 0 <;> simp [c]
        have hj1' : ∀ k, maths_multiple.j1 (k + 1) n s up = (if up = true then (maths_multiple.j2 k n t up (n.tmod t) (decide (n > 0))) else (maths_multiple.j2 k n t up (n.tmod t) false)) := fun k => by
          simp only [maths_multiple.j1]; rw [hsz]; simp only [Option.bind_some]; rw [if_neg (by omega), if_neg e0]
        cases up with
        | true =>
          refine Ev.step hj1' (Ev.congr (fun k => if_pos rfl) ?_)
          have h := hj2 (decide (n > 0))
          by_cases c : n > 0
          · rw [decide_eq_true c, if_pos rfl] at h; rw [if_pos ⟨rfl, c⟩, decide_eq_true c]; exact h
          · rw [decide_eq_false c, if_neg (by decide), if_pos rfl] at h; rw [if_neg (fun q => c q.2), if_neg (fun q => by cases q.1), decide_eq_false c]; exact h
        | false =>
          refine Ev.step hj1' (Ev.congr (fun k => if_neg (by decide)) ?_)
          have h := hj2 false
          rw [if_neg (by decide), if_neg (by decide)] at h
          rw [if_neg (fun q => by cases q.1)]
          by_cases c : n < 0
          · rw [if_pos c] at h; rw [if_pos ⟨rfl, c⟩]; exact h
          · rw [if_neg c] at h; rw [if_neg (fun q => c q.2)]; exact h
      have hf : ∀ k, maths_multiple.f k n s up = maths_multiple.j0 k n s up false := fun k => by unfold maths_multiple.f; rw [fits_of, fits_of, decide_eq_true cn, decide_eq_true cs]; rfl
      refine Ev.congr hf ?_
      by_cases c1 : n = 0
      · rw [if_pos c1]
        exact Ev.step (f := fun _ => some (0, 0)) (fun k => by simp only [maths_multiple.j0]; rw [if_neg (by decide), if_pos c1]) (Ev.now _)
      rw [if_neg c1]
      by_cases c2 : s = 0
      · rw [if_pos c2]
        exact Ev.step (f := fun _ => some (0, 1)) (fun k => by simp only [maths_multiple.j0]; rw [if_neg (by decide), if_neg c1, if_pos c2]) (Ev.now _)
      rw [if_neg c2]
      by_cases c3 : n > 0
      · by_cases c4 : s < 0
        · rw [if_pos ⟨c3, c4⟩]
          exact Ev.step (f := fun _ => some (0, 5)) (fun k => by simp only [maths_multiple.j0]; rw [if_neg (by decide), if_neg c1, if_neg c2, if_pos c3, if_pos c4]) (Ev.now _)
        · rw [if_neg (fun q => c4 q.2)]
          exact Ev.step (fun k => by simp only [maths_multiple.j0]; rw [if_neg (by decide), if_neg c1, if_neg c2, if_pos c3, if_neg c4]) (hj1 c2)
      · rw [if_neg (fun q => c3 q.1)]
        exact Ev.step (fun k => by simp only [maths_multiple.j0]; rw [if_neg (by decide), if_neg c1, if_neg c2, if_neg c3]) (hj1 c2)
    · rw [if_pos (fun q => cs q.2)]
      exact Ev.congr (fun k => by unfold maths_multiple.f; rw [fits_of, fits_of, decide_eq_true cn, decide_eq_false cs]; rfl) bad
  · rw [if_pos (fun q => cn q.1)]
    exact Ev.congr (fun k => by unfold maths_multiple.f; rw [fits_of, decide_eq_false cn]; rfl) bad
end Go.Proofs.Ytklkanaabmehkaa.Pure
