/- What is rounded up or down is less than a step off, on its side; what is a multiple stays: the statement over numbers. -/
import Derived.Test.YtklkanaabmehkaaPRx7
import Derived.Test.YtklkanaabmehkaaMathsP
import Derived.Test.YtklkanaabmehkaaLives15
set_option linter.unusedVariables false
set_option linter.unusedSimpArgs false
namespace Go.Proofs.Ytklkanaabmehkaa.Pure
open Go.RowKit Go.Proofs.Ytklkanaabmehkaa.PR Go.Proofs.YtklkanaabmehkaaW.PrintWords Go.Proofs.YtklkanaabmehkaaW.PrintLast Go.Proofs.YtklkanaabmehkaaW.PrintMore

theorem floor_of (n s : Int) : Ev (fun k => maths_Floor.f k n s) (multV n s false) := Ev.bind (mult_of n s false) (Ev.now _)
theorem ceil_of (n s : Int) : Ev (fun k => maths_Ceiling.f k n s) (multV n s true) := Ev.bind (mult_of n s true) (Ev.now _)
theorem tmod_abs (a s : Int) : a.tmod (absI s) = a.tmod s := by
  unfold absI; split
  · exact Int.tmod_neg ..
  · rfl
theorem lawSize_of {n : Int} (h0 : -9223372036854775807 ≤ n) (h1 : n ≤ 9223372036854775807) : foolscaplaw15_size.f n = some (absI n) := by
  unfold foolscaplaw15_size.f; rw [mx_abs h0 h1]
/-- What rounding to multiples keeps to. -/
theorem mult_facts {n s : Int} {up : Bool} (h : (multV n s up).2 = 0) (hn : n ≠ 0) : FitsI n ∧ FitsI s ∧ s ≠ 0 ∧ FitsI (multV n s up).1 ∧ (multV n s up).1.tmod s = 0 ∧
    (if up = true then n ≤ (multV n s up).1 ∧ (multV n s up).1 - n < absI s else (multV n s up).1 ≤ n ∧ n - (multV n s up).1 < absI s) := by
  unfold multV at h ⊢
  by_cases c : FitsI n ∧ FitsI s
  · have c' : ¬ ¬ (FitsI n ∧ FitsI s) := fun q => q c
    rw [if_neg c', if_neg hn] at h
    rw [if_neg c', if_neg hn]
    by_cases c2 : s = 0
    · rw [if_pos c2] at h; simp at h
    rw [if_neg c2] at h ⊢
    by_cases c3 : n > 0 ∧ s < 0
    · rw [if_pos c3] at h; simp at h
    rw [if_neg c3] at h ⊢
    refine ⟨c.1, c.2, c2, ?_⟩
    rw [← tmod_abs _ s]
    have ht : 1 ≤ absI s := by unfold absI; split <;> omega
    have hf := rest_fits c.1 ht
    have h0 := tm_rest n ht
    have hp := fun q => tm_pos (n := n) ht q
    have hq := fun q => tm_neg (n := n) ht q
    obtain ⟨hf1, hf2⟩ := c.1
    generalize absI s = t at *
    by_cases d : n.tmod t = 0
    · rw [if_pos d]
      refine ⟨c.1, d, ?_⟩
      dsimp only
      split <;> omega
    rw [if_neg d] at h ⊢
    cases up with
    | true =>
      by_cases e : n > 0
      · rw [if_pos ⟨rfl, e⟩] at h ⊢
        obtain ⟨e1, e2⟩ := toldV_ok h
        rw [e1]
        refine ⟨e2, (tm_zero_add h0).1, ?_⟩
        rw [if_pos rfl]
        have := hp (by omega); omega
      · rw [if_neg (fun q => e q.2), if_neg (fun q => by cases q.1)]
        refine ⟨hf, h0, ?_⟩
        rw [if_pos rfl]
        have := hq (by omega)
        dsimp only; omega
    | false =>
      rw [if_neg (fun q => by cases q.1)] at h ⊢
      by_cases e : n < 0
      · rw [if_pos ⟨rfl, e⟩] at h ⊢
        obtain ⟨e1, e2⟩ := toldV_ok h
        rw [e1]
        refine ⟨e2, (tm_zero_add h0).2, ?_⟩
        rw [if_neg (by decide)]
        have := hq (by omega); omega
      · rw [if_neg (fun q => e q.2)]
        refine ⟨hf, h0, ?_⟩
        rw [if_neg (by decide)]
        have := hp (by omega)
        dsimp only; omega
  · rw [if_pos c] at h; simp at h
theorem near_j2 {x0 x2 : Int} : Ev (fun k => foolscaplaw15_MathsNear.j2 k x0 x2 (multV x0 x2 true).1 (multV x0 x2 true).2 false) true := by
  refine Ev.step (fun k => by simp only [foolscaplaw15_MathsNear.j2]; rw [if_neg (by decide)]) ?_
  by_cases c : (multV x0 x2 true).2 = 0
  · refine Ev.congr (fun k => if_pos c) ?_
    by_cases c1 : x0 = 0
    · exact Ev.congr (fun k => if_pos c1) ends
    refine Ev.congr (fun k => if_neg c1) ?_
    obtain ⟨f0, f2, z, ⟨_, _⟩, hm, hr⟩ := mult_facts c c1
    rw [if_pos rfl] at hr
    obtain ⟨_, _⟩ := f0
    have fs := f2
    obtain ⟨_, _⟩ := f2
    refine Ev.congr (fun k => ?_) ends
    rw [if_pos hr.1, lawSize_of (by omega) (by omega), wr64 (by omega) (by omega)]
    simp only [Option.bind_some]
    rw [if_pos hr.2, if_neg z, if_pos hm]
  · exact Ev.congr (fun k => if_neg c) ends
theorem near_j1 (x0 x2 : Int) : Ev (fun k => foolscaplaw15_MathsNear.j1 k x0 x2) true := by
  refine Ev.step (fun k => by simp only [foolscaplaw15_MathsNear.j1]; rfl) (Ev.bind (floor_of x0 x2) (Ev.bind (ceil_of x0 x2) ?_))
  refine Ev.congr (fun k => ?_) (near_j2 (x0 := x0) (x2 := x2))
  by_cases c : (multV x0 x2 false).2 = 0
  · rw [if_pos c]
    by_cases c1 : x0 = 0
    · rw [if_pos c1]
    rw [if_neg c1]
    obtain ⟨f0, f2, z, ⟨_, _⟩, hm, hr⟩ := mult_facts c c1
    rw [if_neg (by decide)] at hr
    obtain ⟨_, _⟩ := f0
    obtain ⟨_, _⟩ := f2
    rw [if_neg (by omega), lawSize_of (by omega) (by omega), wr64 (by omega) (by omega)]
    simp only [Option.bind_some]
    rw [if_neg (by omega), if_neg z, hm]; rfl
  · rw [if_neg c]
theorem near_l0 {x0 x2 x7 x8 x9 : Int} {T : Nat} (hT : T ≤ 18) (hb : Ev (fun k => foolscaplaw15_MathsNear.l0 k x0 x2 x7 x8 x9 (10 ^ T) 6) true) :
    ∀ d j : Nat, j + d = T → Ev (fun k => foolscaplaw15_MathsNear.l0 k x0 x2 x7 x8 x9 (10 ^ j) (6 - d)) true
  | 0, j, h => by obtain rfl : j = T := by omega
                  exact hb
  | d + 1, j, h => by
    have h1 := p10 (j + 1) (by omega)
    have e : 10 * (10 : Int) ^ j = 10 ^ (j + 1) := by rw [Int.pow_succ, Int.mul_comm]
    refine Ev.step (fun k => ?_) (near_l0 hT hb d (j + 1) (by omega))
    simp only [foolscaplaw15_MathsNear.l0]
    rw [if_pos (by omega), e, wr64 (x := 10 ^ (j + 1)) (by omega) (by omega), wr64 (by omega) (by omega), show (6 : Int) - ((d + 1 : Nat) : Int) + 1 = 6 - d by omega]
/-- What is rounded down: not farther from 0, less than a step off. -/
theorem down_near {n t : Int} (t0 : 1 ≤ t) : absI (n - n.tmod t) ≤ absI n ∧ absI (n - (n - n.tmod t)) < t := by
  by_cases h : 0 ≤ n
  · have := tm_pos t0 h; unfold absI; constructor
    · split <;> split <;> omega
    · split <;> omega
  · have := tm_neg t0 (show n ≤ 0 by omega); unfold absI; constructor
    · split <;> split <;> omega
    · split <;> omega
theorem up_near {n p : Int} (c : FitsI n ∧ Places p) (h : (upV n p).2 = 0) : absI n ≤ absI (upV n p).1 ∧ absI ((upV n p).1 - n) < pw p ∧ (upV n p).1.tmod (pw p) = 0 := by
  have ht := (pw_bd c.2).1
  have h0 := tm_rest n ht
  have hp := fun q => tm_pos (n := n) ht q
  have hq := fun q => tm_neg (n := n) ht q
  unfold upV at h ⊢
  rw [if_pos c] at h ⊢
  generalize pw p = t at *
  by_cases d : n.tmod t = 0
  · rw [if_pos d]
    refine ⟨Int.le_refl _, ?_, d⟩
    dsimp only
    unfold absI; split <;> omega
  · rw [if_neg d] at h ⊢
    unfold awayV at h ⊢
    obtain ⟨e1, e2⟩ := toldV_ok h
    rw [e1]
    by_cases e : n < 0
    · rw [if_pos e]
      have := hq (by omega)
      refine ⟨?_, ?_, (tm_zero_add h0).2⟩
      · unfold absI; split <;> split <;> omega
      · unfold absI; split <;> omega
    · rw [if_neg e]
      have := hp (by omega)
      refine ⟨?_, ?_, (tm_zero_add h0).1⟩
      · unfold absI; split <;> split <;> omega
      · unfold absI; split <;> omega
theorem MathsNear : foolscaplaw15_MathsNear.Pure := by
  intro n p s _ wp _
  have hp := wf_i64 wp
  refine Ev.rounds (g := fun k => foolscaplaw15_MathsNear.f k n p s) ?_
  refine Ev.bind (up_of hp.1 hp.2) (Ev.bind (down_of hp.1 hp.2) ?_)
  by_cases c : FitsI n ∧ Places p
  · have hd : downV n p = (n - n.tmod (pw p), 0) := if_pos c
    rw [hd]
    refine Ev.congr (fun k => if_pos rfl) ?_
    have hb := pw_bd c.2
    have hl := near_l0 (x0 := n) (x2 := s) (x7 := (upV n p).1) (x8 := (upV n p).2) (x9 := n - n.tmod (pw p)) (T := (6 - p).toNat) (by obtain ⟨_, _⟩ := c.2; omega) ?_ (6 - p).toNat 0 (by omega)
    · rw [show (6 : Int) - (((6 - p).toNat : Nat) : Int) = p by obtain ⟨_, _⟩ := c.2; omega] at hl
      exact hl
    · refine Ev.step (fun k => ?_) (near_j1 n s)
      have hf := rest_fits c.1 hb.1
      have hn := down_near (n := n) hb.1
      have h0 := tm_rest n hb.1
      have hu := fun q => up_near c q
      have hfu := fun q => upV_fits (n := n) (p := p) q
      have hs : n.tmod (pw p) = 0 → upV n p = (n, 0) := fun q => by unfold upV; rw [if_pos c, if_pos q]
      obtain ⟨hn1, hn2⟩ := c.1
      obtain ⟨hf1, hf2⟩ := hf
      simp only [foolscaplaw15_MathsNear.l0]
      rw [show (10 : Int) ^ (6 - p).toNat = pw p from rfl]
      rw [if_neg (by omega), lawSize_of (n := n - n.tmod (pw p)) (by omega) (by omega), lawSize_of (n := n) (by omega) (by omega)]
      simp only [Option.bind_some]
      rw [if_neg (by omega), wr64 (x := n - (n - n.tmod (pw p))) (by omega) (by omega), lawSize_of (n := n - (n - n.tmod (pw p))) (by omega) (by omega)]
      simp only [Option.bind_some]
      rw [if_neg (by omega), if_neg (by omega), if_pos h0]
      have tail : (if n - n.tmod (pw p) = n then (if (upV n p).1 = n then (foolscaplaw15_MathsNear.j1 k n s) else (some false)) else (foolscaplaw15_MathsNear.j1 k n s)) = foolscaplaw15_MathsNear.j1 k n s := by
        by_cases d : n - n.tmod (pw p) = n
        · rw [if_pos d, hs (by omega), if_pos rfl]
        · rw [if_neg d]
      rw [tail]
      by_cases e : (upV n p).2 = 0
      · have hu' := hu e
        obtain ⟨_, _⟩ := hfu e
        rw [if_pos e, lawSize_of (n := (upV n p).1) (by omega) (by omega)]
        simp only [Option.bind_some]
        rw [if_neg (by omega), wr64 (by omega) (by omega), lawSize_of (by omega) (by omega)]
        simp only [Option.bind_some]
        rw [if_neg (by omega), if_pos hu'.2.2]
      · rw [if_neg e]
  · have hd : downV n p = (0, 5) := if_neg c
    rw [hd]
    exact Ev.congr (fun k => if_neg (by decide)) (near_j1 n s)
end Go.Proofs.Ytklkanaabmehkaa.Pure
