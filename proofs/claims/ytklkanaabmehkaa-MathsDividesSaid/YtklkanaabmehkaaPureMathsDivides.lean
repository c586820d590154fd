/- The greatest divisor divides all, and the least multiple is divided by all: the statement over numbers. -/
import Derived.Test.YtklkanaabmehkaaPLx7
import Derived.Test.YtklkanaabmehkaaGcdV
import Derived.Test.YtklkanaabmehkaaLives15
set_option linter.unusedVariables false
set_option linter.unusedSimpArgs false
namespace Go.Proofs.Ytklkanaabmehkaa.Pure
open Go.RowKit Go.Proofs.Ytklkanaabmehkaa.PL Go.Proofs.YtklkanaabmehkaaW.PrintWords Go.Proofs.YtklkanaabmehkaaW.PrintLast Go.Proofs.YtklkanaabmehkaaW.PrintMore

def Few (a : Int) : Prop := 1 ≤ a ∧ a ≤ 1000000
theorem few_good {a : Int} (h : Few a) : Good (a * 1000000) := by obtain ⟨_, _⟩ := h; exact ⟨by omega, by omega, by omega⟩
theorem few_whole (a : Int) : a * 1000000 / 1000000 = a := by omega
theorem gcd_le_left {a b : Int} (ha : 1 ≤ a) : gcdI a b ≤ a := Int.le_of_dvd (by omega) (gcdI_dvd_left (by omega))
theorem gcd_two {a b : Int} (ha : Few a) (hb : Few b) : Ev (fun k => maths_Gcd.f k [a * 1000000, b * 1000000]) (gcdI a b * 1000000, 0) := by
  have hl : (([a * 1000000, b * 1000000] : List Int).length : Int) < 17592186044416 := by simp
  have hf : From [a * 1000000, b * 1000000] 0 := fun j _ hj => by
    match j, hj with
    | 0, _ => exact few_good ha
    | 1, _ => exact few_good hb
  have e := gcd_end (l := [a * 1000000, b * 1000000]) (g := gcdI a b)
  have hg := gcdI_nonneg a b
  have hle := gcdI_le (a := a) hb.1
  obtain ⟨hb0, hb1⟩ := hb
  rw [wr64 (x := gcdI a b * 1000000) (by omega) (by omega)] at e
  refine gcd_all hl hf (gcd_l1 (l := [a * 1000000, b * 1000000]) (i := 0) (by decide) (by simp) hl (few_good ha) ?_)
  rw [show gcdI 0 (rd [a * 1000000, b * 1000000] ((0 : Nat) : Int) / 1000000) = a from (by rw [show rd [a * 1000000, b * 1000000] ((0 : Nat) : Int) = a * 1000000 from rfl, few_whole, gcdI_zero (by have := ha.1; omega)])]
  refine gcd_l1 (l := [a * 1000000, b * 1000000]) (i := 1) (by have := ha.1; omega) (by simp) hl (few_good ⟨hb0, hb1⟩) ?_
  rw [show gcdI a (rd [a * 1000000, b * 1000000] ((1 : Nat) : Int) / 1000000) = gcdI a b from (by rw [show rd [a * 1000000, b * 1000000] ((1 : Nat) : Int) = b * 1000000 from rfl, few_whole])]
  exact e
theorem gcd_three {a b c : Int} (ha : Few a) (hb : Few b) (hc : Few c) : Ev (fun k => maths_Gcd.f k [a * 1000000, b * 1000000, c * 1000000]) (gcdI (gcdI a b) c * 1000000, 0) := by
  have hl : (([a * 1000000, b * 1000000, c * 1000000] : List Int).length : Int) < 17592186044416 := by simp
  have hf : From [a * 1000000, b * 1000000, c * 1000000] 0 := fun j _ hj => by
    match j, hj with
    | 0, _ => exact few_good ha
    | 1, _ => exact few_good hb
    | 2, _ => exact few_good hc
  have e := gcd_end (l := [a * 1000000, b * 1000000, c * 1000000]) (g := gcdI (gcdI a b) c)
  have hg := gcdI_nonneg (gcdI a b) c
  have hle := gcdI_le (a := gcdI a b) hc.1
  obtain ⟨hc0, hc1⟩ := hc
  rw [wr64 (x := gcdI (gcdI a b) c * 1000000) (by omega) (by omega)] at e
  refine gcd_all hl hf (gcd_l1 (l := [a * 1000000, b * 1000000, c * 1000000]) (i := 0) (by decide) (by simp) hl (few_good ha) ?_)
  rw [show gcdI 0 (rd [a * 1000000, b * 1000000, c * 1000000] ((0 : Nat) : Int) / 1000000) = a from (by rw [show rd [a * 1000000, b * 1000000, c * 1000000] ((0 : Nat) : Int) = a * 1000000 from rfl, few_whole, gcdI_zero (by have := ha.1; omega)])]
  refine gcd_l1 (l := [a * 1000000, b * 1000000, c * 1000000]) (i := 1) (by have := ha.1; omega) (by simp) hl (few_good hb) ?_
  rw [show gcdI a (rd [a * 1000000, b * 1000000, c * 1000000] ((1 : Nat) : Int) / 1000000) = gcdI a b from (by rw [show rd [a * 1000000, b * 1000000, c * 1000000] ((1 : Nat) : Int) = b * 1000000 from rfl, few_whole])]
  refine gcd_l1 (l := [a * 1000000, b * 1000000, c * 1000000]) (i := 2) (gcdI_nonneg a b) (by simp) hl (few_good ⟨hc0, hc1⟩) ?_
  rw [show gcdI (gcdI a b) (rd [a * 1000000, b * 1000000, c * 1000000] ((2 : Nat) : Int) / 1000000) = gcdI (gcdI a b) c from (by rw [show rd [a * 1000000, b * 1000000, c * 1000000] ((2 : Nat) : Int) = c * 1000000 from rfl, few_whole])]
  exact e
theorem lcm_two {a b : Int} (ha : Few a) (hb : Few b) (h0 : 1 ≤ b / gcdI a b) (h1 : b / gcdI a b ≤ b) (h2 : a * (b / gcdI a b) ≤ 1000000000000) (h3 : 0 ≤ a * (b / gcdI a b)) :
    Ev (fun k => maths_Lcm.f k [a * 1000000, b * 1000000]) (a * (b / gcdI a b) * 1000000, 0) := by
  have hl : (([a * 1000000, b * 1000000] : List Int).length : Int) < 17592186044416 := by simp
  have hf : From [a * 1000000, b * 1000000] 0 := fun j _ hj => by
    match j, hj with
    | 0, _ => exact few_good ha
    | 1, _ => exact few_good hb
  have hn : ¬ Nought [a * 1000000, b * 1000000] 0 := by
    rintro ⟨j, _, hj, h4, h5⟩
    have := ha.1
    have := hb.1
    match j, hj with
    | 0, _ => have : a * 1000000 < 1000000 := h5; omega
    | 1, _ => have : b * 1000000 < 1000000 := h5; omega
  have e := lcm_end (nb := false) (l := [a * 1000000, b * 1000000]) (g := a * (b / gcdI a b))
  rw [wr64 (x := a * (b / gcdI a b) * 1000000) (by omega) (by omega)] at e
  have ra : rd [a * 1000000, b * 1000000] ((0 : Nat) : Int) = a * 1000000 := rfl
  have rb : rd [a * 1000000, b * 1000000] ((1 : Nat) : Int) = b * 1000000 := rfl
  obtain ⟨a0, a1⟩ := ha
  obtain ⟨b0, b1⟩ := hb
  refine lcm_l0 hl 2 0 false false rfl ⟨fun q => (by cases q), fun q => (by rcases q with q | q; cases q; exact absurd q hn)⟩ (foldedLcm_good hl ?_ 2 0 rfl hf)
  refine lcm_l1 (l := [a * 1000000, b * 1000000]) (i := 0) (v := a) (by decide) (by decide) (by simp) hl (few_good ⟨a0, a1⟩) ?_ ?_ ?_ ?_
  · rw [ra, few_whole]; exact a0
  · rw [ra, few_whole, gcdI_one]; omega
  · exact (Int.le_ediv_iff_mul_le (by omega)).2 (by omega)
  rw [Int.one_mul]
  refine lcm_l1 (l := [a * 1000000, b * 1000000]) (i := 1) (v := b / gcdI a b) a0 (by omega) (by simp) hl (few_good ⟨b0, b1⟩) ?_ ?_ ?_ e
  · rw [rb, few_whole]; exact b0
  · rw [rb, few_whole]
  · exact (Int.le_ediv_iff_mul_le (by omega)).2 h2
theorem MathsDivides : foolscaplaw15_MathsDivides.Pure := by
  intro a b c _ _ _
  refine Ev.rounds (g := fun k => foolscaplaw15_MathsDivides.f k a b c) ?_
  have out : Ev (fun k => foolscaplaw15_MathsDivides.j0 k a b c true) true := Ev.step (fun k => by simp only [foolscaplaw15_MathsDivides.j0]; rw [if_pos trivial]) ends
  unfold foolscaplaw15_MathsDivides.f
  by_cases a0 : a < 1
  · exact Ev.congr (fun k => if_pos a0) out
  refine Ev.congr (fun k => if_neg a0) ?_
  by_cases b0 : b < 1
  · exact Ev.congr (fun k => if_pos b0) out
  refine Ev.congr (fun k => if_neg b0) ?_
  by_cases c0 : c < 1
  · exact Ev.congr (fun k => if_pos c0) out
  refine Ev.congr (fun k => if_neg c0) ?_
  by_cases a1 : a > 1000000
  · exact Ev.congr (fun k => if_pos a1) out
  refine Ev.congr (fun k => if_neg a1) ?_
  by_cases b1 : b > 1000000
  · exact Ev.congr (fun k => if_pos b1) out
  refine Ev.congr (fun k => if_neg b1) ?_
  by_cases c1 : c > 1000000
  · rw [decide_eq_true c1]; exact out
  rw [decide_eq_false c1]
  have ha : Few a := ⟨by omega, by omega⟩
  have hb : Few b := ⟨by omega, by omega⟩
  have hc : Few c := ⟨by omega, by omega⟩
  have d1 : gcdI a b ∣ a := gcdI_dvd_left (by omega)
  have d2 : gcdI a b ∣ b := gcdI_dvd_right (by omega)
  have p1 : 1 ≤ gcdI a b := gcdI_pos (by omega)
  have l1 : gcdI a b ≤ b := gcdI_le (by omega)
  have d3 : gcdI (gcdI a b) c ∣ gcdI a b := gcdI_dvd_left (by omega)
  have d4 : gcdI (gcdI a b) c ∣ c := gcdI_dvd_right (by omega)
  have p2 : 1 ≤ gcdI (gcdI a b) c := gcdI_pos (by omega)
  have l2 : gcdI (gcdI a b) c ≤ c := gcdI_le (by omega)
  have q0 : 1 ≤ b / gcdI a b := (Int.le_ediv_iff_mul_le (by omega)).2 (by omega)
  have q1 : b / gcdI a b ≤ b := Int.ediv_le_self _ (by omega)
  have m := mul_bound (a := a) (b := b / gcdI a b) (A := 1000000) (B := 1000000) (by omega) (by omega) (by omega) (by omega)
  have e1 := gcd_three ha hb hc
  have e2 := lcm_two ha hb q0 q1 (by omega) m.1
  have e3 := gcd_two ha hb
  have hbg : b / gcdI a b * gcdI a b = b := Int.ediv_mul_cancel d2
  have hmb : b ∣ a * (b / gcdI a b) := by
    obtain ⟨u, hu⟩ := d1
    refine ⟨u, ?_⟩
    calc a * (b / gcdI a b) = gcdI a b * u * (b / gcdI a b) := by rw [← hu]
      _ = (b / gcdI a b * gcdI a b) * u := by grind
      _ = b * u := by rw [hbg]
  have hma : a * (b / gcdI a b) * gcdI a b = a * b := by rw [Int.mul_assoc, hbg]
  have d5 := Int.dvd_trans d3 d1
  have d6 := Int.dvd_trans d3 d2
  generalize gcdI (gcdI a b) c = g at *
  have dA : a * 1000000 ∣ a * (b / gcdI a b) * 1000000 := Int.mul_dvd_mul (Int.dvd_mul_right _ _) (Int.dvd_refl _)
  have dB : b * 1000000 ∣ a * (b / gcdI a b) * 1000000 := Int.mul_dvd_mul hmb (Int.dvd_refl _)
  generalize a * (b / gcdI a b) = M at *
  generalize gcdI a b = h at *
  refine Ev.step (f := fun k => (maths_Gcd.f k [a * 1000000, b * 1000000, c * 1000000]).bind fun bt206 => ((maths_Lcm.f k [a * 1000000, b * 1000000]).bind fun bt211 => ((maths_Gcd.f k [a * 1000000, b * 1000000]).bind fun bt216 => (if bt206.2 = 0 then (if bt211.2 = 0 then (if bt216.2 = 0 then (if bt206.1 < 1000000 then (some false) else (if (Int.tmod bt206.1 1000000) = 0 then (if (wrap64 (Int.tdiv bt206.1 1000000)) = 0 then (none) else (if (Int.tmod a (wrap64 (Int.tdiv bt206.1 1000000))) = 0 then (if (Int.tmod b (wrap64 (Int.tdiv bt206.1 1000000))) = 0 then (if (Int.tmod c (wrap64 (Int.tdiv bt206.1 1000000))) = 0 then (if (a * 1000000) = 0 then (none) else (if (Int.tmod bt211.1 (a * 1000000)) = 0 then (if (b * 1000000) = 0 then (none) else (if (Int.tmod bt211.1 (b * 1000000)) = 0 then (if (wrap64 ((wrap64 (Int.tdiv bt211.1 1000000)) * (wrap64 (Int.tdiv bt216.1 1000000)))) = (wrap64 (a * b)) then ((foolscaplaw15_lives.f k).bind fun t218 => (some t218)) else (some false)) else (some false))) else (some false))) else (some false)) else (some false)) else (some false))) else (some false))) else (some false)) else (some false)) else (some false)))))
    (fun k => ?_) (Ev.bind e1 (Ev.bind e2 (Ev.bind e3 (Ev.congr (fun k => ?_) ends))))
  · simp only [foolscaplaw15_MathsDivides.j0]
    rw [if_neg (by decide), wr64 (x := a * 1000000) (by omega) (by omega), wr64 (x := b * 1000000) (by omega) (by omega), wr64 (x := c * 1000000) (by omega) (by omega)]
  · dsimp only
    rw [if_pos rfl, if_pos rfl, if_pos rfl, if_neg (by omega), if_pos (Int.mul_tmod_left _ _), Int.mul_tdiv_cancel g (by decide), Int.mul_tdiv_cancel M (by decide), Int.mul_tdiv_cancel h (by decide), wr64 (x := g) (by omega) (by omega),
      if_neg (by omega), if_pos (Int.tmod_eq_zero_of_dvd d5), if_pos (Int.tmod_eq_zero_of_dvd d6), if_pos (Int.tmod_eq_zero_of_dvd d4), if_neg (by omega), if_pos (Int.tmod_eq_zero_of_dvd dA), if_neg (by omega), if_pos (Int.tmod_eq_zero_of_dvd dB),
      wr64 (x := M) (by omega) (by omega), wr64 (x := h) (by omega) (by omega), hma, if_pos rfl]
end Go.Proofs.Ytklkanaabmehkaa.Pure
