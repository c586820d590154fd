/- Greatest divisors and least multiples: what the printed functions tell. -/
import Derived.Test.YtklkanaabmehkaaPLx6
import Derived.Test.YtklkanaabmehkaaPLx4
import Derived.Test.YtklkanaabmehkaaBase
set_option linter.unusedVariables false
set_option linter.unusedSimpArgs false
namespace Go.Proofs.Ytklkanaabmehkaa.Pure
open Go.RowKit Go.Proofs.Ytklkanaabmehkaa.PL Go.Proofs.YtklkanaabmehkaaW.PrintWords Go.Proofs.YtklkanaabmehkaaW.PrintLast Go.Proofs.YtklkanaabmehkaaW.PrintMore

def gcdI (a b : Int) : Int := (Nat.gcd a.toNat b.toNat : Nat)
theorem gcd_nat : ∀ n m : Nat, Ev (fun k => maths_gcd.l0 k m n) ((Nat.gcd m n : Nat) : Int) := by
  intro n
  induction n using Nat.strongRecOn with
  | ind n ih =>
    intro m
    by_cases c : n = 0
    · subst c
      refine Ev.step (f := fun _ => some (m : Int)) (fun k => by simp only [maths_gcd.l0]; rw [if_pos (show ((0 : Nat) : Int) = 0 from rfl)]) ?_
      rw [Nat.gcd_zero_right]; exact Ev.now _
    · have h := ih (m % n) (Nat.mod_lt _ (by omega)) n
      rw [Nat.gcd_comm n, ← Nat.gcd_rec, Nat.gcd_comm] at h
      exact Ev.step (fun k => by simp only [maths_gcd.l0]; rw [if_neg (by omega)]; rfl) h
theorem gcd_of {a b : Int} (a0 : 0 ≤ a) (b0 : 0 ≤ b) : Ev (fun k => maths_gcd.f k a b) (gcdI a b) := by
  have h := gcd_nat b.toNat a.toNat
  rw [Int.toNat_of_nonneg a0, Int.toNat_of_nonneg b0] at h
  exact h
theorem gcdI_nonneg (a b : Int) : 0 ≤ gcdI a b := Int.natCast_nonneg _
theorem gcdI_pos {a b : Int} (b0 : 1 ≤ b) : 1 ≤ gcdI a b := by
  have : 0 < Nat.gcd a.toNat b.toNat := Nat.gcd_pos_of_pos_right _ (by omega)
  unfold gcdI; omega
theorem gcdI_dvd_right {a b : Int} (b0 : 0 ≤ b) : gcdI a b ∣ b := by
  have h := Int.natCast_dvd_natCast.2 (Nat.gcd_dvd_right a.toNat b.toNat)
  rw [Int.toNat_of_nonneg b0] at h; exact h
theorem gcdI_dvd_left {a b : Int} (a0 : 0 ≤ a) : gcdI a b ∣ a := by
  have h := Int.natCast_dvd_natCast.2 (Nat.gcd_dvd_left a.toNat b.toNat)
  rw [Int.toNat_of_nonneg a0] at h; exact h
theorem gcdI_le {a b : Int} (b0 : 1 ≤ b) : gcdI a b ≤ b := Int.le_of_dvd (by omega) (gcdI_dvd_right (by omega))
theorem gcdI_zero {b : Int} (b0 : 0 ≤ b) : gcdI 0 b = b := by unfold gcdI; simp; omega
theorem gcdI_one {b : Int} : gcdI 1 b = 1 := by unfold gcdI; simp

/-- A number that is taken. -/
def Good (x : Int) : Prop := 0 ≤ x ∧ FitsI x
theorem whole_of {x : Int} (h : Good x) : wrap64 (Int.tdiv x 1000000) = x / 1000000 ∧ 0 ≤ x / 1000000 ∧ x / 1000000 ≤ 1000000000000 := by
  obtain ⟨h0, _, h1⟩ := h
  rw [Int.tdiv_eq_ediv_of_nonneg h0, wr64 (by omega) (by omega)]; omega
/-- All from i on are taken. -/
def From (l : List Int) (i : Nat) : Prop := ∀ j : Nat, i ≤ j → j < l.length → Good (rd l j)
theorem from_step {l : List Int} {i : Nat} (h : i < l.length) : From l i ↔ Good (rd l i) ∧ From l (i + 1) :=
  ⟨fun q => ⟨q i (Nat.le_refl _) h, fun j hj => q j (by omega)⟩, fun q j hj hl => by
    by_cases c : j = i
    · subst c; exact q.1
    · exact q.2 j (by omega) hl⟩
theorem folded_good {l : List Int} {b : Int} {r : Int × Int} (hl : (l.length : Int) < 17592186044416) (h : Ev (fun k => maths_folded.l1 k b l (l.length : Int) 0) r) :
    ∀ (d i : Nat), i + d = l.length → From l i → Ev (fun k => maths_folded.l0 k l b l (l.length : Int) i) r := by
  intro d
  induction d with
  | zero => intro i hi _; exact Ev.step (fun k => by simp only [maths_folded.l0]; rw [if_neg (by omega)]) h
  | succ d ih =>
    intro i hi hf
    obtain ⟨hg, hf'⟩ := (from_step (by omega)).1 hf
    refine Ev.step (fun k => ?_) (ih (i + 1) (by omega) hf')
    simp only [maths_folded.l0]
    rw [if_pos (by omega), if_pos (by omega), if_pos (by omega), if_neg (by have := hg.1; omega), fits_of, decide_eq_true hg.2]
    simp only [Option.bind_some]
    rw [if_pos trivial, wr64 (x := (i : Int) + 1) (by omega) (by omega)]; rfl
theorem folded_bad {l : List Int} {b : Int} (hl : (l.length : Int) < 17592186044416) :
    ∀ (d i : Nat), i + d = l.length → ¬ From l i → Ev (fun k => maths_folded.l0 k l b l (l.length : Int) i) (0, 5) := by
  intro d
  induction d with
  | zero => intro i hi h; exact absurd (fun j h1 h2 => absurd h2 (by omega)) h
  | succ d ih =>
    intro i hi hf
    by_cases hg : Good (rd l i)
    · refine Ev.step (fun k => ?_) (ih (i + 1) (by omega) (fun q => hf ((from_step (by omega)).2 ⟨hg, q⟩)))
      simp only [maths_folded.l0]
      rw [if_pos (by omega), if_pos (by omega), if_pos (by omega), if_neg (by have := hg.1; omega), fits_of, decide_eq_true hg.2]
      simp only [Option.bind_some]
      rw [if_pos trivial, wr64 (x := (i : Int) + 1) (by omega) (by omega)]; rfl
    · refine Ev.step (f := fun _ => some (0, 5)) (fun k => ?_) (Ev.now _)
      simp only [maths_folded.l0]
      rw [if_pos (by omega), if_pos (by omega), if_pos (by omega)]
      by_cases c : rd l i < 0
      · rw [if_pos c]
      · rw [if_neg c, fits_of, decide_eq_false (fun q => hg ⟨by omega, q⟩)]
        simp only [Option.bind_some]
        rw [if_neg (by decide)]
theorem foldedLcm_good {nb : Bool} {l : List Int} {b : Int} {r : Int × Int} (hl : (l.length : Int) < 17592186044416) (h : Ev (fun k => maths_foldedLcm.l1 nb k b l (l.length : Int) 0) r) :
    ∀ (d i : Nat), i + d = l.length → From l i → Ev (fun k => maths_foldedLcm.l0 nb k l b l (l.length : Int) i) r := by
  intro d
  induction d with
  | zero => intro i hi _; exact Ev.step (fun k => by simp only [maths_foldedLcm.l0]; rw [if_neg (by omega)]) h
  | succ d ih =>
    intro i hi hf
    obtain ⟨hg, hf'⟩ := (from_step (by omega)).1 hf
    refine Ev.step (fun k => ?_) (ih (i + 1) (by omega) hf')
    simp only [maths_foldedLcm.l0]
    rw [if_pos (by omega), if_pos (by omega), if_pos (by omega), if_neg (by have := hg.1; omega), fits_of, decide_eq_true hg.2]
    simp only [Option.bind_some]
    rw [if_pos trivial, wr64 (x := (i : Int) + 1) (by omega) (by omega)]; rfl
theorem foldedLcm_bad {nb : Bool} {l : List Int} {b : Int} (hl : (l.length : Int) < 17592186044416) :
    ∀ (d i : Nat), i + d = l.length → ¬ From l i → Ev (fun k => maths_foldedLcm.l0 nb k l b l (l.length : Int) i) (0, 5) := by
  intro d
  induction d with
  | zero => intro i hi h; exact absurd (fun j h1 h2 => absurd h2 (by omega)) h
  | succ d ih =>
    intro i hi hf
    by_cases hg : Good (rd l i)
    · refine Ev.step (fun k => ?_) (ih (i + 1) (by omega) (fun q => hf ((from_step (by omega)).2 ⟨hg, q⟩)))
      simp only [maths_foldedLcm.l0]
      rw [if_pos (by omega), if_pos (by omega), if_pos (by omega), if_neg (by have := hg.1; omega), fits_of, decide_eq_true hg.2]
      simp only [Option.bind_some]
      rw [if_pos trivial, wr64 (x := (i : Int) + 1) (by omega) (by omega)]; rfl
    · refine Ev.step (f := fun _ => some (0, 5)) (fun k => ?_) (Ev.now _)
      simp only [maths_foldedLcm.l0]
      rw [if_pos (by omega), if_pos (by omega), if_pos (by omega)]
      by_cases c : rd l i < 0
      · rw [if_pos c]
      · rw [if_neg c, fits_of, decide_eq_false (fun q => hg ⟨by omega, q⟩)]
        simp only [Option.bind_some]
        rw [if_neg (by decide)]
/-- One more number: the greatest divisor. -/
theorem gcd_l1 {l : List Int} {g : Int} (g0 : 0 ≤ g) {i : Nat} (hi : i < l.length) (hl : (l.length : Int) < 17592186044416) (hg : Good (rd l i)) {r : Int × Int}
    (h : Ev (fun k => maths_folded.l1 k (gcdI g (rd l i / 1000000)) l (l.length : Int) (i + 1 : Nat)) r) : Ev (fun k => maths_folded.l1 k g l (l.length : Int) i) r := by
  obtain ⟨w1, w2, w3⟩ := whole_of hg
  refine Ev.step (f := fun k => (maths_gcd.f k g (rd l i / 1000000)).bind fun t192 => (if t192 < 0 then (some (0, 5)) else (maths_folded.l1 k t192 l (l.length : Int) ((i + 1 : Nat) : Int)))) (fun k => ?_) (Ev.bind (gcd_of g0 w2) (Ev.congr (fun k => if_neg ?_) h))
  · simp only [maths_folded.l1]
    rw [if_pos (by omega), if_pos (by omega), if_pos (by omega), w1, wr64 (x := (i : Int) + 1) (by omega) (by omega)]; rfl
  · have := gcdI_nonneg g (rd l i / 1000000); omega
theorem gcd_end {l : List Int} {g : Int} : Ev (fun k => maths_folded.l1 k g l (l.length : Int) (l.length : Int)) (wrap64 (g * 1000000), 0) :=
  Ev.step (f := fun _ => some (wrap64 (g * 1000000), 0)) (fun k => by simp only [maths_folded.l1]; rw [if_neg (by omega)]) (Ev.now _)
theorem gcd_all {l : List Int} {r : Int × Int} (hl : (l.length : Int) < 17592186044416) (hf : From l 0) (h : Ev (fun k => maths_folded.l1 k 0 l (l.length : Int) 0) r) : Ev (fun k => maths_Gcd.f k l) r :=
  Ev.bind (folded_good (b := 0) hl h l.length 0 (by omega) hf) (Ev.now _)
theorem gcd_none {l : List Int} (hl : (l.length : Int) < 17592186044416) (hf : ¬ From l 0) : Ev (fun k => maths_Gcd.f k l) (0, 5) :=
  Ev.bind (folded_bad (b := 0) hl l.length 0 (by omega) hf) (Ev.now _)
/-- One more number: the least multiple. -/
theorem lcm_1 {m n : Int} (m0 : 1 ≤ m) (n0 : 1 ≤ n) (m1 : m ≤ 1000000000000) (n1 : n ≤ 1000000000000) :
    Ev (fun k => maths_Lcm_1.f false k m n) (if m > 1000000000000 / (n / gcdI m n) then -1 else m * (n / gcdI m n)) ∧ 1 ≤ n / gcdI m n ∧ n / gcdI m n ≤ n := by
  have g1 := gcdI_pos (a := m) n0
  have g2 := gcdI_le (a := m) n0
  have b1 : 1 ≤ n / gcdI m n := (Int.le_ediv_iff_mul_le (by omega)).2 (by omega)
  have b2 : n / gcdI m n ≤ n := Int.ediv_le_self _ (by omega)
  refine ⟨?_, b1, b2⟩
  refine Ev.congr (fun k => ?_) (Ev.bind (f := fun _ t => if t = 0 then none else if wrap64 (Int.tdiv n t) = 0 then none else
    if m > wrap64 (Int.tdiv 1000000000000 (wrap64 (Int.tdiv n t))) then some (-1) else some (wrap64 (m * (wrap64 (Int.tdiv n t))))) (gcd_of (a := m) (b := n) (by omega) (by omega)) (Ev.congr (f := fun _ => some _) (fun k => ?_) (Ev.now _)))
  · unfold maths_Lcm_1.f; rw [if_neg (by decide)]
  · generalize gcdI m n = g at *
    have q0 : 0 ≤ 1000000000000 / (n / g) := Int.ediv_nonneg (by decide) (by omega)
    have q1 : 1000000000000 / (n / g) ≤ 1000000000000 := Int.ediv_le_self _ (by decide)
    rw [if_neg (by omega), Int.tdiv_eq_ediv_of_nonneg (a := n) (by omega), wr64 (x := n / g) (by omega) (by omega), if_neg (by omega), Int.tdiv_eq_ediv_of_nonneg (a := 1000000000000) (by decide), wr64 (x := 1000000000000 / (n / g)) (by omega) (by omega)]
    by_cases c : m > 1000000000000 / (n / g)
    · rw [if_pos c, if_pos c]
    · have := (Int.le_ediv_iff_mul_le (show 0 < n / g by omega)).1 (show m ≤ 1000000000000 / (n / g) by omega)
      have := Int.mul_pos (show 0 < m by omega) (show 0 < n / g by omega)
      rw [if_neg c, if_neg c, wr64 (by omega) (by omega)]
theorem lcm_l1 {l : List Int} {m : Int} (m0 : 1 ≤ m) (m1 : m ≤ 1000000000000) {i : Nat} (hi : i < l.length) (hl : (l.length : Int) < 17592186044416) (hg : Good (rd l i)) (hn : 1 ≤ rd l i / 1000000) {v : Int} {r : Int × Int}
    (hv : v = rd l i / 1000000 / gcdI m (rd l i / 1000000)) (hm : m ≤ 1000000000000 / v)
    (h : Ev (fun k => maths_foldedLcm.l1 false k (m * v) l (l.length : Int) (i + 1 : Nat)) r) : Ev (fun k => maths_foldedLcm.l1 false k m l (l.length : Int) i) r := by
  obtain ⟨w1, w2, w3⟩ := whole_of hg
  obtain ⟨e, v1, v2⟩ := lcm_1 m0 hn m1 w3
  rw [← hv, if_neg (by omega)] at e
  rw [← hv] at v1
  refine Ev.step (f := fun k => (maths_Lcm_1.f false k m (rd l i / 1000000)).bind fun t192 => (if t192 < 0 then (some (0, 5)) else (maths_foldedLcm.l1 false k t192 l (l.length : Int) ((i + 1 : Nat) : Int)))) (fun k => ?_) (Ev.bind e (Ev.congr (fun k => if_neg ?_) h))
  · simp only [maths_foldedLcm.l1]
    rw [if_pos (by omega), if_pos (by omega), if_pos (by omega), w1, wr64 (x := (i : Int) + 1) (by omega) (by omega)]; rfl
  · have := Int.mul_pos (show 0 < m by omega) (show 0 < v by omega); omega
theorem lcm_l1_over {l : List Int} {m : Int} (m0 : 1 ≤ m) (m1 : m ≤ 1000000000000) {i : Nat} (hi : i < l.length) (hl : (l.length : Int) < 17592186044416) (hg : Good (rd l i)) (hn : 1 ≤ rd l i / 1000000) {v : Int}
    (hv : v = rd l i / 1000000 / gcdI m (rd l i / 1000000)) (hm : ¬ m ≤ 1000000000000 / v) : Ev (fun k => maths_foldedLcm.l1 false k m l (l.length : Int) i) (0, 5) := by
  obtain ⟨w1, w2, w3⟩ := whole_of hg
  obtain ⟨e, v1, v2⟩ := lcm_1 m0 hn m1 w3
  rw [← hv, if_pos (by omega)] at e
  refine Ev.step (f := fun k => (maths_Lcm_1.f false k m (rd l i / 1000000)).bind fun t192 => (if t192 < 0 then (some (0, 5)) else (maths_foldedLcm.l1 false k t192 l (l.length : Int) ((i + 1 : Nat) : Int)))) (fun k => ?_) (Ev.bind e (Ev.congr (f := fun _ => some (0, 5)) (fun k => if_pos (by decide)) (Ev.now _)))
  simp only [maths_foldedLcm.l1]
  rw [if_pos (by omega), if_pos (by omega), if_pos (by omega), w1, wr64 (x := (i : Int) + 1) (by omega) (by omega)]; rfl
theorem lcm_end {nb : Bool} {l : List Int} {g : Int} : Ev (fun k => maths_foldedLcm.l1 nb k g l (l.length : Int) (l.length : Int)) (wrap64 (g * 1000000), 0) :=
  Ev.step (f := fun _ => some (wrap64 (g * 1000000), 0)) (fun k => by simp only [maths_foldedLcm.l1]; rw [if_neg (by omega)]) (Ev.now _)
/-- Is a number among them whose whole part is 0? -/
def Nought (l : List Int) (i : Nat) : Prop := ∃ j : Nat, i ≤ j ∧ j < l.length ∧ 0 ≤ rd l j ∧ rd l j < 1000000
theorem lcm_l0 {l : List Int} {r : Int × Int} (hl : (l.length : Int) < 17592186044416) : ∀ (d i : Nat) (b c : Bool), i + d = l.length → (c = true ↔ (b = true ∨ Nought l i)) →
    Ev (fun k => maths_foldedLcm.f c k l 1) r → Ev (fun k => maths_Lcm.l0 k l i b) r := by
  intro d
  induction d with
  | zero =>
    intro i b c hi hc h
    have : c = b := by
      have hno : ¬ Nought l i := fun ⟨j, h1, h2, _⟩ => by omega
      cases b <;> cases c <;> simp_all
    subst this
    refine Ev.step (f := fun k => (maths_foldedLcm.f c k l 1).bind fun q => some (q.1, q.2)) (fun k => ?_) (Ev.bind h (Ev.now _))
    simp only [maths_Lcm.l0]; rw [if_neg (by omega)]
  | succ d ih =>
    intro i b c hi hc h
    refine Ev.step (fun k => ?_) (ih (i + 1) (b || (decide (rd l i ≥ 0) && decide (rd l i < 1000000))) c (by omega) ?_ h)
    · simp only [maths_Lcm.l0]
      rw [if_pos (by omega), if_pos (by omega), wr64 (x := (i : Int) + 1) (by omega) (by omega)]; rfl
    · rw [hc, Bool.or_eq_true, Bool.and_eq_true, decide_eq_true_eq, decide_eq_true_eq]
      constructor
      · rintro (q | ⟨j, h1, h2, h3, h4⟩)
        · exact .inl (.inl q)
        · by_cases e : j = i
          · subst e; exact .inl (.inr ⟨h3, h4⟩)
          · exact .inr ⟨j, by omega, h2, h3, h4⟩
      · rintro ((q | q) | ⟨j, h1, h2, h3, h4⟩)
        · exact .inl q
        · exact .inr ⟨i, Nat.le_refl _, by omega, q.1, q.2⟩
        · exact .inr ⟨j, by omega, h2, h3, h4⟩
end Go.Proofs.Ytklkanaabmehkaa.Pure
