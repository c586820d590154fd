/- The mean lies between the least and the greatest number: the statement over numbers. -/
import Derived.Test.YtphbgiaabkbccaaPAllx6
import Derived.Test.YtphbgiaabkbccaaLives03
set_option linter.unusedVariables false
set_option linter.unusedSimpArgs false
namespace Go.Proofs.Ytphbgiaabkbccaa.Pure
open Go.RowKit Go.Proofs.Ytphbgiaabkbccaa.PAll Go.Proofs.YtphbgiaabkbccaaW.PrintWords Go.Proofs.YtphbgiaabkbccaaW.PrintLast Go.Proofs.YtphbgiaabkbccaaW.PrintMore

theorem mul_bound_n {i n : Int} (i0 : 0 ≤ i) (i1 : i ≤ 200) (f : FitsI n) : -200000000000000000000 ≤ i * n ∧ i * n ≤ 200000000000000000000 := by
  obtain ⟨a, b⟩ := f
  have h1 : i * n ≤ i * 1000000000000000000 := Int.mul_le_mul_of_nonneg_left b i0
  have h2 : i * -1000000000000000000 ≤ i * n := Int.mul_le_mul_of_nonneg_left a i0
  omega
theorem middle_end (n t : Int) (ht : 1 ≤ t) (ht2 : t ≤ 200) (hF : FitsI n) :
    Ev (fun k => foolscaplaw03_WideMiddle.l1 k n t t ((t * n) / 1000000000000000000) ((t * n) % 1000000000000000000)) true := by
  have b := mul_bound_n (i := t) (n := n) (by omega) (by omega) hF
  have r : inR (t * n) := by unfold inR; omega
  have hm := mean_v (v := t * n) (c := t) r (by omega) (by omega)
  have hf2 := mean_fits (v := t * n) (c := t) (lo := n) (hi := n) (by omega) (by omega) (by omega) hF hF
  rw [if_neg (by omega), show meanV (t * n) t = n by omega] at hm
  refine Ev.step (fun k => ?_) (Ev.bind (f := fun k bt => if bt.1 = n then (if bt.2 = 0 then ((foolscaplaw03_lives.f k).bind fun t => (some t)) else (some false)) else (some false)) hm (Ev.congr (fun k => by rw [if_pos rfl, if_pos rfl]) ends))
  simp only [foolscaplaw03_WideMiddle.l1]
  rw [if_neg (by omega)]
/-- The second loop: n told so and so often. -/
theorem middle_l1 (n t : Int) (ht : 1 ≤ t) (ht2 : t ≤ 200) (d : Nat) : ∀ i : Int, 0 ≤ i → (t - i).toNat ≤ d → i ≤ t → (i = 0 ∨ FitsI n) →
    Ev (fun k => foolscaplaw03_WideMiddle.l1 k n t i ((i * n) / 1000000000000000000) ((i * n) % 1000000000000000000)) true := by
  induction d with
  | zero =>
    intro i i0 hd it hf
    obtain rfl : i = t := by omega
    exact middle_end n i ht ht2 (by rcases hf with h | h; omega; exact h)
  | succ d ih =>
    intro i i0 hd it hf
    by_cases hlt : i < t
    · have b : (-200000000000000000000 ≤ i * n ∧ i * n ≤ 200000000000000000000) := by
        rcases hf with h | h
        · rw [h, Int.zero_mul]; omega
        · exact mul_bound_n i0 (by omega) h
      have r : inR (i * n) := by unfold inR; omega
      have hi1 : wrap64 (i + 1) = i + 1 := wr64 (by omega) (by omega)
      by_cases hF : FitsI n
      · have e : (i + 1) * n = i * n + n := by rw [Int.add_mul, Int.one_mul]
        have r2 : inR (i * n + n) := by obtain ⟨_, _⟩ := hF; unfold inR; omega
        have := ih (i + 1) (by omega) (by omega) (by omega) (.inr hF)
        rw [e] at this
        refine Ev.step (fun k => ?_) this
        simp only [foolscaplaw03_WideMiddle.l1]
        rw [if_pos hlt, add_in r hF r2]
        simp only [Option.bind_some]
        rw [if_pos trivial, hi1]
      · refine Ev.step (fun k => ?_) ends
        simp only [foolscaplaw03_WideMiddle.l1]
        rw [if_pos hlt, add_bad r hF]
        simp only [Option.bind_some]
        rw [if_neg (by decide), if_pos trivial, fits_of, decide_eq_false hF]
        simp only [Option.bind_some]
        rw [if_neg (by decide)]
    · obtain rfl : i = t := by omega
      exact middle_end n i ht ht2 (by rcases hf with h | h; omega; exact h)

/-- The first loop: what has been told by then, and its ends. -/
theorem middle_l0 (l : List Int) (n t : Int) (hl : l.length ≤ 200) (h0 : 0 < l.length) (ht : 1 ≤ t) (ht2 : t ≤ 200) (d : Nat) : ∀ (i : Nat) (v lo hi : Int), l.length - i ≤ d → i ≤ l.length →
    (i : Int) * lo ≤ v → v ≤ (i : Int) * hi → (i = 0 ∨ (FitsI lo ∧ FitsI hi)) → (i = 0 → v = 0 ∧ lo = rd l 0 ∧ hi = rd l 0) →
    Ev (fun k => foolscaplaw03_WideMiddle.l0 k l n t lo hi i (v / 1000000000000000000) (v % 1000000000000000000) 0 0) true := by
  have hend : ∀ (v lo hi : Int), (l.length : Int) * lo ≤ v → v ≤ (l.length : Int) * hi → FitsI lo → FitsI hi →
      Ev (fun k => foolscaplaw03_WideMiddle.l0 k l n t lo hi l.length (v / 1000000000000000000) (v % 1000000000000000000) 0 0) true := by
    intro v lo hi h1 h2 f1 f2
    have b1 := mul_bound_n (i := (l.length : Int)) (n := lo) (by omega) (by omega) f1
    have b2 := mul_bound_n (i := (l.length : Int)) (n := hi) (by omega) (by omega) f2
    have r : inR v := by unfold inR; omega
    have hm := mean_v (v := v) (c := (l.length : Int)) r (by omega) (by omega)
    have hf := mean_fits (c0 := (by omega : 1 ≤ (l.length : Int))) h1 h2 f1 f2
    rw [if_neg (by omega)] at hm
    have h3 : Ev (fun k => foolscaplaw03_WideMiddle.j2 k n t false 0 0) true := by
      refine Ev.step (fun k => ?_) (by have := middle_l1 n t ht ht2 t.toNat 0 (by omega) (by omega) (by omega) (.inl rfl); rw [Int.zero_mul] at this; exact this)
      simp only [foolscaplaw03_WideMiddle.j2]
      rw [if_neg (by decide)]; rfl
    refine Ev.step (fun k => ?_) (Ev.bind (f := fun k bt => if bt.2 = 0 then (if bt.1 < lo then (foolscaplaw03_WideMiddle.j2 k n t true 0 0) else (foolscaplaw03_WideMiddle.j2 k n t (decide (bt.1 > hi)) 0 0)) else (foolscaplaw03_WideMiddle.j2 k n t true 0 0)) hm (Ev.congr (fun k => ?_) h3))
    · simp only [foolscaplaw03_WideMiddle.l0]
      rw [if_neg (by omega)]
    · rw [if_pos rfl, if_neg (by omega), decide_eq_false (by omega)]
  induction d with
  | zero =>
    intro i v lo hi hd hi1 h1 h2 hf hz
    obtain rfl : i = l.length := by omega
    rcases hf with h | h
    · omega
    · exact hend v lo hi h1 h2 h.1 h.2
  | succ d ih =>
    intro i v lo hi hd hi1 h1 h2 hf hz
    by_cases hlt : i < l.length
    · have r : inR v := by
        rcases hf with h | ⟨f1, f2⟩
        · rw [(hz h).1]; exact ⟨by omega, by omega⟩
        · have b1 := mul_bound_n (i := (i : Int)) (n := lo) (by omega) (by omega) f1
          have b2 := mul_bound_n (i := (i : Int)) (n := hi) (by omega) (by omega) f2
          unfold inR; omega
      have hw : wrap64 ((i : Int) + 1) = ((i + 1 : Nat) : Int) := by rw [wr64 (by omega) (by omega)]; omega
      generalize hx : rd l i = x at *
      by_cases hF : FitsI x
      · have r2 : inR (v + x) := by
          rcases hf with h | ⟨f1, f2⟩
          · rw [(hz h).1]; obtain ⟨_, _⟩ := hF; unfold inR; omega
          · have b1 := mul_bound_n (i := (i : Int)) (n := lo) (by omega) (by omega) f1
            have b2 := mul_bound_n (i := (i : Int)) (n := hi) (by omega) (by omega) f2
            obtain ⟨_, _⟩ := hF
            unfold inR; omega
        have hmn : mn lo x ≤ lo ∧ mn lo x ≤ x ∧ (mn lo x = lo ∨ mn lo x = x) := by unfold mn; split <;> omega
        have hmx : hi ≤ mx hi x ∧ x ≤ mx hi x ∧ (mx hi x = hi ∨ mx hi x = x) := by unfold mx; split <;> omega
        have e1 : ((i : Int) + 1) * mn lo x ≤ v + x := by
          have : (i : Int) * mn lo x ≤ (i : Int) * lo := Int.mul_le_mul_of_nonneg_left hmn.1 (by omega)
          rw [Int.add_mul, Int.one_mul]; omega
        have e2 : v + x ≤ ((i : Int) + 1) * mx hi x := by
          have : (i : Int) * hi ≤ (i : Int) * mx hi x := Int.mul_le_mul_of_nonneg_left hmx.1 (by omega)
          rw [Int.add_mul, Int.one_mul]; omega
        have flo : FitsI (mn lo x) := by
          rcases hf with h | ⟨f1, f2⟩
          · have := (hz h).2.1; subst h; rw [show ((0 : Nat) : Int) = 0 from rfl] at hx; rw [this, hx]; unfold mn; split <;> exact hF
          · rcases hmn.2.2 with q | q <;> rw [q]; exact f1; exact hF
        have fhi : FitsI (mx hi x) := by
          rcases hf with h | ⟨f1, f2⟩
          · have := (hz h).2.2; subst h; rw [show ((0 : Nat) : Int) = 0 from rfl] at hx; rw [this, hx]; unfold mx; split <;> exact hF
          · rcases hmx.2.2 with q | q <;> rw [q]; exact f2; exact hF
        have := ih (i + 1) (v + x) (mn lo x) (mx hi x) (by omega) (by omega) (by exact_mod_cast e1) (by exact_mod_cast e2) (.inr ⟨flo, fhi⟩) (by omega)
        refine Ev.step (fun k => ?_) this
        simp only [foolscaplaw03_WideMiddle.l0]
        rw [if_pos (by omega), if_pos (by omega), hx, add_in r hF r2]
        simp only [Option.bind_some]
        rw [if_pos trivial, hw]
      · refine Ev.step (fun k => ?_) ends
        simp only [foolscaplaw03_WideMiddle.l0]
        rw [if_pos (by omega), if_pos (by omega), hx, add_bad r hF]
        simp only [Option.bind_some]
        rw [if_neg (by decide), if_pos trivial, fits_of, decide_eq_false hF]
        simp only [Option.bind_some]
        rw [if_neg (by decide)]
    · obtain rfl : i = l.length := by omega
      rcases hf with h | h
      · omega
      · exact hend v lo hi h1 h2 h.1 h.2

theorem WideMiddle : foolscaplaw03_WideMiddle.Pure := by
  intro l n t _ _ _ _ _
  refine Ev.rounds (g := fun k => foolscaplaw03_WideMiddle.f k l n t) ?_
  have bad : Ev (fun k => foolscaplaw03_WideMiddle.j0 k l n t true) true := Ev.step (fun k => by simp only [foolscaplaw03_WideMiddle.j0]; rw [if_pos trivial]) ends
  by_cases c1 : (l.length : Int) = 0
  · exact Ev.congr (fun k => by unfold foolscaplaw03_WideMiddle.f; rw [if_pos c1]) bad
  by_cases c2 : (l.length : Int) > 200
  · exact Ev.congr (fun k => by unfold foolscaplaw03_WideMiddle.f; rw [if_neg c1, if_pos c2]) bad
  by_cases c3 : t < 1
  · exact Ev.congr (fun k => by unfold foolscaplaw03_WideMiddle.f; rw [if_neg c1, if_neg c2, if_pos c3]) bad
  by_cases c4 : t > 200
  · exact Ev.congr (fun k => by unfold foolscaplaw03_WideMiddle.f; rw [if_neg c1, if_neg c2, if_neg c3, decide_eq_true c4]) bad
  have h := middle_l0 l n t (by omega) (by omega) (by omega) (by omega) l.length 0 0 (rd l 0) (rd l 0) (by omega) (by omega) (by simp) (by simp) (.inl rfl) (fun _ => ⟨rfl, rfl, rfl⟩)
  refine Ev.congr (f := fun k => foolscaplaw03_WideMiddle.j0 k l n t false) (fun k => by unfold foolscaplaw03_WideMiddle.f; rw [if_neg c1, if_neg c2, if_neg c3, decide_eq_false c4]) ?_
  refine Ev.step (fun k => ?_) h
  simp only [foolscaplaw03_WideMiddle.j0]
  rw [if_neg (by decide), if_pos (by omega)]
  rfl
end Go.Proofs.Ytphbgiaabkbccaa.Pure
