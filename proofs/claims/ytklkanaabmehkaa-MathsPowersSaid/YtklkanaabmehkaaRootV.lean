/- What the printed root tells. -/
import Derived.Test.YtklkanaabmehkaaPQx6
import Derived.Test.YtklkanaabmehkaaBase
set_option linter.unusedVariables false
set_option linter.unusedSimpArgs false
namespace Go.Proofs.Ytklkanaabmehkaa.Pure
open Go.RowKit Go.Proofs.Ytklkanaabmehkaa.PQ Go.Proofs.YtklkanaabmehkaaW.PrintWords Go.Proofs.YtklkanaabmehkaaW.PrintLast Go.Proofs.YtklkanaabmehkaaW.PrintMore

/-- r is the whole part of N's root. -/
def IsRt (N r : Int) : Prop := 0 ≤ r ∧ r * r ≤ N ∧ N < (r + 1) * (r + 1)
/-- Rounded to the nearest. -/
def rootR (N r : Int) : Int := if N - r * r > r then r + 1 else r
theorem sq_lt {a b : Int} (h0 : 0 ≤ a) (h : a < b) : a * a < b * b := by
  have h1 : a * a ≤ a * b := Int.mul_le_mul_of_nonneg_left (by omega) h0
  have h2 : a * b < b * b := Int.mul_lt_mul_of_pos_right h (by omega)
  omega
theorem sq_le {a b : Int} (h0 : 0 ≤ a) (h : a ≤ b) : a * a ≤ b * b := Int.mul_le_mul h h h0 (by omega)
theorem lt_of_sq {a b : Int} (h0 : 0 ≤ b) (h : a * a < b * b) : a < b := by
  by_cases c : a < b
  · exact c
  · have := sq_le h0 (show b ≤ a by omega); omega
theorem rt_mono {N M r s : Int} (h : N ≤ M) (hr : IsRt N r) (hs : IsRt M s) : r ≤ s := by
  have := lt_of_sq (a := r) (b := s + 1) (by have := hs.1; omega) (by have := hr.2.1; have := hs.2.2; omega)
  omega
theorem rt_one {N r s : Int} (hr : IsRt N r) (hs : IsRt N s) : r = s := by
  have h1 := rt_mono (Int.le_refl N) hr hs
  have h2 := rt_mono (Int.le_refl N) hs hr
  omega
theorem rt_sq {m : Int} (h : 0 ≤ m) : IsRt (m * m) m := ⟨h, Int.le_refl _, sq_lt h (by omega)⟩
theorem rootR_mono {N M r s : Int} (h : N ≤ M) (hr : IsRt N r) (hs : IsRt M s) : rootR N r ≤ rootR M s := by
  have h1 := rt_mono h hr hs
  unfold rootR
  by_cases c : r = s
  · subst c; split <;> split <;> omega
  · split <;> split <;> omega
theorem rt_bd {N r b : Int} (hb : 0 ≤ b) (h : N ≤ b * b) (hr : IsRt N r) : r ≤ b := by
  have := lt_of_sq (a := r) (b := b + 1) (by omega) (by have := sq_lt hb (show b < b + 1 by omega); have := hr.2.1; omega)
  omega
/-- How far the rounded root's square is off. -/
theorem rootR_near {N r b : Int} (hb : 0 ≤ b) (h : N ≤ b * b) (hr : IsRt N r) : 0 ≤ rootR N r ∧ rootR N r ≤ b ∧ N - rootR N r ≤ rootR N r * rootR N r ∧ rootR N r * rootR N r ≤ N + rootR N r ∧ rootR N r * rootR N r ≤ b * b := by
  have h1 := rt_bd hb h hr
  obtain ⟨r0, r1, r2⟩ := hr
  have e : (r + 1) * (r + 1) = r * r + 2 * r + 1 := by grind
  unfold rootR
  split
  · rename_i c
    have : r ≠ b := by rintro rfl; omega
    have := sq_le (a := r + 1) (b := b) (by omega) (by omega)
    refine ⟨by omega, by omega, by omega, by omega, by omega⟩
  · have := sq_le r0 h1
    refine ⟨by omega, by omega, by omega, by omega, by omega⟩

theorem times_of {a b : Int} (a0 : 0 ≤ a) (a1 : a < 18446744073709551616) (b0 : 0 ≤ b) (b1 : b < 18446744073709551616) : maths_times.f a b = some (a * b / 18446744073709551616, a * b % 18446744073709551616) := by
  unfold maths_times.f bits_Mul64.f
  rw [if_pos ⟨a0, a1, b0, b1⟩]; rfl
theorem pair_of (x y : Int) : maths_pair_over.f (x / 18446744073709551616) (x % 18446744073709551616) (y / 18446744073709551616) (y % 18446744073709551616) = some (decide (x > y)) := by
  unfold maths_pair_over.f
  by_cases c : x / 18446744073709551616 > y / 18446744073709551616
  · rw [if_pos c, decide_eq_true (show x > y by omega)]
  rw [if_neg c]
  by_cases d : x / 18446744073709551616 = y / 18446744073709551616
  · rw [if_pos d]; congr 1; exact decide_eq_decide.2 (by omega)
  · rw [if_neg d, decide_eq_false (show ¬ x > y by omega)]
theorem add64_r1 {x y : Int} (x0 : 0 ≤ x) (y0 : 0 ≤ y) : bits_Add64.r1 x y = (x + y) % 18446744073709551616 := by
  unfold bits_Add64.r1; omega
theorem add64_r2 {x y : Int} (x0 : 0 ≤ x) (y0 : 0 ≤ y) : bits_Add64.r2 x y = (x + y) / 18446744073709551616 := by
  unfold bits_Add64.r2; omega
theorem root_end {N r : Int} (h0 : 0 ≤ r) (h1 : r < 4398046511104) : Ev (fun k => maths_Root.l0 k r 0 (N / 18446744073709551616) (N % 18446744073709551616)) (rootR N r, 0) := by
  refine Ev.step (f := fun _ => some (rootR N r, 0)) (fun k => ?_) (Ev.now _)
  simp only [maths_Root.l0]
  rw [if_neg (by omega), times_of h0 (by omega) h0 (by omega)]
  simp only [Option.bind_some]
  have hs := mul_bound h0 h0 (Int.le_of_lt h1) (Int.le_of_lt h1)
  rw [add64_r1 (by omega) h0, add64_r2 (by omega) h0]
  generalize hp : r * r = p at *
  rw [w64 (x := p / 18446744073709551616 + (p % 18446744073709551616 + r) / 18446744073709551616) (by omega) (by omega),
    show p / 18446744073709551616 + (p % 18446744073709551616 + r) / 18446744073709551616 = (p + r) / 18446744073709551616 by omega,
    show (p % 18446744073709551616 + r) % 18446744073709551616 = (p + r) % 18446744073709551616 by omega, pair_of]
  simp only [Option.bind_some]
  unfold rootR
  rw [hp]
  by_cases c : N > p + r
  · rw [if_pos (decide_eq_true c), if_pos (show N - p > r by omega), w64 (by omega) (by omega), wr64 (by omega) (by omega)]
  · rw [if_neg (by simpa using c), if_neg (show ¬ N - p > r by omega), wr64 (by omega) (by omega)]
theorem pow2_half (j : Nat) : (2 : Int) ^ (j + 1) / 2 = 2 ^ j ∧ 0 < (2 : Int) ^ j ∧ (2 : Int) ^ (j + 1) = 2 * 2 ^ j := by
  have e : (2 : Int) ^ (j + 1) = 2 * 2 ^ j := by rw [Int.pow_succ, Int.mul_comm]
  have p : 0 < (2 : Int) ^ j := Int.pow_pos (by decide)
  omega
/-- A step of the search. -/
theorem root_step {N r b c : Int} (h0 : 0 ≤ r) (hb : 0 < b) (h1 : r + 2 * b ≤ 2199023255552) (hc : b / 2 = c)
    (hlow : r * r ≤ N) (hhigh : N < (r + 2 * b) * (r + 2 * b)) :
    ∃ r', 0 ≤ r' ∧ r' + b ≤ r + 2 * b ∧ r' * r' ≤ N ∧ N < (r' + b) * (r' + b) ∧ ∀ k, maths_Root.l0 (k + 1) r b (N / 18446744073709551616) (N % 18446744073709551616) = maths_Root.l0 k r' c (N / 18446744073709551616) (N % 18446744073709551616) := by
  have hw : IntKind.u64.wrap (r + b) = r + b := w64 (by omega) (by omega)
  by_cases d : (r + b) * (r + b) > N
  · refine ⟨r, h0, by omega, hlow, d, fun k => ?_⟩
    simp only [maths_Root.l0]
    rw [if_pos (by omega), hw, times_of (by omega) (by omega) (by omega) (by omega)]
    simp only [Option.bind_some]
    rw [pair_of]
    simp only [Option.bind_some]
    rw [if_pos (decide_eq_true d), hc]
  · refine ⟨r + b, by omega, by omega, by omega, by rw [show r + b + b = r + 2 * b by omega]; exact hhigh, fun k => ?_⟩
    simp only [maths_Root.l0]
    rw [if_pos (by omega), hw, times_of (by omega) (by omega) (by omega) (by omega)]
    simp only [Option.bind_some]
    rw [pair_of]
    simp only [Option.bind_some]
    rw [if_neg (by simpa using d), hc]
theorem root_l0 {N : Int} : ∀ (j : Nat) (r : Int), 0 ≤ r → r + 2 * 2 ^ j ≤ 2199023255552 → r * r ≤ N → N < (r + 2 * 2 ^ j) * (r + 2 * 2 ^ j) →
    ∃ s, IsRt N s ∧ Ev (fun k => maths_Root.l0 k r (2 ^ j) (N / 18446744073709551616) (N % 18446744073709551616)) (rootR N s, 0)
  | 0, r, h0, h1, hl, hh => by
    obtain ⟨s, s0, s1, s2, s3, st⟩ := root_step (b := 2 ^ 0) (c := 0) h0 (by decide) h1 (by decide) hl hh
    refine ⟨s, ⟨s0, s2, s3⟩, Ev.step st (root_end s0 ?_)⟩
    have : (2 : Int) ^ 0 = 1 := rfl
    omega
  | j + 1, r, h0, h1, hl, hh => by
    obtain ⟨e1, e2, e3⟩ := pow2_half j
    obtain ⟨s, s0, s1, s2, s3, st⟩ := root_step (b := 2 ^ (j + 1)) (c := 2 ^ j) h0 (by omega) h1 e1 hl hh
    rw [e3] at s1 s3
    obtain ⟨u, hu, hev⟩ := root_l0 j s s0 (by omega) s2 s3
    exact ⟨u, hu, Ev.step st hev⟩
theorem root_ok {n : Int} (f : FitsI n) (h : 0 ≤ n) : ∃ s, IsRt (n * 1000000) s ∧ Ev (fun k => maths_Root.f k n) (rootR (n * 1000000) s, 0) := by
  obtain ⟨_, f1⟩ := f
  obtain ⟨s, hs, hev⟩ := root_l0 (N := n * 1000000) 40 0 (by decide) (by decide) (by omega) (by rw [show ((0 : Int) + 2 * 2 ^ 40) * (0 + 2 * 2 ^ 40) = 4835703278458516698824704 by decide]; omega)
  refine ⟨s, hs, ?_⟩
  rw [show (2 : Int) ^ 40 = 1099511627776 by decide] at hev
  refine Ev.congr (f := fun k => maths_Root.j0 k n false) (fun k => ?_) (Ev.step (fun k => ?_) hev)
  · unfold maths_Root.f
    rw [fits_of, decide_eq_true (show FitsI n from ⟨by omega, f1⟩)]
    simp only [Option.bind_some]
    rw [if_pos trivial, decide_eq_false (by omega)]
  · simp only [maths_Root.j0]
    rw [if_neg (by decide), w64 (x := n) (by omega) (by omega), times_of (by omega) (by omega) (by omega) (by omega)]
    rfl
theorem root_no {n : Int} (h : ¬ (FitsI n ∧ 0 ≤ n)) : Ev (fun k => maths_Root.f k n) (0, 5) := by
  refine Ev.congr (f := fun k => maths_Root.j0 k n true) (fun k => ?_) (Ev.step (f := fun _ => some (0, 5)) (fun k => by simp only [maths_Root.j0]; rw [if_pos trivial]) (Ev.now _))
  unfold maths_Root.f
  rw [fits_of]
  simp only [Option.bind_some]
  by_cases c : FitsI n
  · rw [decide_eq_true c, if_pos rfl, decide_eq_true (show n < 0 by have : ¬ 0 ≤ n := fun q => h ⟨c, q⟩; omega)]
  · rw [decide_eq_false c, if_neg (by decide)]
end Go.Proofs.Ytklkanaabmehkaa.Pure
