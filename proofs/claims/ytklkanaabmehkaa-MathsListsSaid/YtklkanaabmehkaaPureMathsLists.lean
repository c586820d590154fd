/- Any numbers have the greatest divisor and the least multiple that the document says, or none: the statement over numbers. -/
import Derived.Test.YtklkanaabmehkaaPLx7
import Derived.Test.YtklkanaabmehkaaGcdV
import Derived.Test.YtklkanaabmehkaaLives15
set_option linter.unusedVariables false
set_option linter.unusedSimpArgs false
namespace Go.Proofs.Ytklkanaabmehkaa.Pure
open Go.RowKit Go.Proofs.Ytklkanaabmehkaa.PL Go.Proofs.YtklkanaabmehkaaW.PrintWords Go.Proofs.YtklkanaabmehkaaW.PrintLast Go.Proofs.YtklkanaabmehkaaW.PrintMore

theorem refFits_of (n : Int) : foolscapref01_Fits.f n = some (decide (FitsI n)) := by
  unfold foolscapref01_Fits.f
  by_cases c : n ≥ -1000000000000000000
  · rw [if_pos c]
    congr 1
    exact decide_eq_decide.2 ⟨fun h => ⟨c, h⟩, fun h => h.2⟩
  · rw [if_neg c, decide_eq_false (show ¬ FitsI n from fun q => c q.1)]
theorem refGcd_nat : ∀ n m : Nat, Ev (fun k => foolscapref15_gcd.l0 k m n) ((Nat.gcd m n : Nat) : Int) := by
  intro n
  induction n using Nat.strongRecOn with
  | ind n ih =>
    intro m
    by_cases c : n = 0
    · subst c
      refine Ev.step (f := fun _ => some (m : Int)) (fun k => by simp only [foolscapref15_gcd.l0]; rw [if_pos (show ((0 : Nat) : Int) = 0 from rfl)]) ?_
      rw [Nat.gcd_zero_right]; exact Ev.now _
    · have h := ih (m % n) (Nat.mod_lt _ (by omega)) n
      rw [Nat.gcd_comm n, ← Nat.gcd_rec, Nat.gcd_comm] at h
      exact Ev.step (fun k => by simp only [foolscapref15_gcd.l0]; rw [if_neg (by omega)]; rfl) h
theorem refGcd_of {a b : Int} (a0 : 0 ≤ a) (b0 : 0 ≤ b) : Ev (fun k => foolscapref15_gcd.f k a b) (gcdI a b) := by
  have h := refGcd_nat b.toNat a.toNat
  rw [Int.toNat_of_nonneg a0, Int.toNat_of_nonneg b0] at h
  exact h
theorem good_of {l : List Int} (hl : (l.length : Int) < 17592186044416) {b : Bool} : ∀ (d i : Nat), i + d = l.length → (b = true ↔ From l i) → Ev (fun k => foolscapref15_good.l0 k l i) b := by
  intro d
  induction d with
  | zero =>
    intro i hi hb
    have : b = true := hb.2 (fun j h1 h2 => absurd h2 (by omega))
    subst this
    exact Ev.step (f := fun _ => some true) (fun k => by simp only [foolscapref15_good.l0]; rw [if_neg (by omega)]) (Ev.now _)
  | succ d ih =>
    intro i hi hb
    rw [from_step (by omega)] at hb
    by_cases hg : Good (rd l i)
    · refine Ev.step (fun k => ?_) (ih (i + 1) (by omega) (by rw [hb]; exact ⟨fun q => q.2, fun q => ⟨hg, q⟩⟩))
      simp only [foolscapref15_good.l0]
      rw [if_pos (by omega), if_pos (by omega), refFits_of, decide_eq_true hg.2]
      simp only [Option.bind_some]
      rw [if_pos trivial, if_neg (by have := hg.1; omega), wr64 (x := (i : Int) + 1) (by omega) (by omega)]; rfl
    · have : b = false := by
        cases b
        · rfl
        · exact absurd (hb.1 rfl).1 hg
      subst this
      refine Ev.step (f := fun _ => some false) (fun k => ?_) (Ev.now _)
      simp only [foolscapref15_good.l0]
      rw [if_pos (by omega), if_pos (by omega), refFits_of]
      simp only [Option.bind_some]
      by_cases c : FitsI (rd l i)
      · rw [if_pos (decide_eq_true c), if_pos (show rd l i < 0 by have : ¬ 0 ≤ rd l i := fun q => hg ⟨q, c⟩; omega)]
      · rw [if_neg (by rw [decide_eq_false c]; decide)]
theorem gcd_both {l : List Int} (hl : (l.length : Int) < 17592186044416) : ∀ (d i : Nat) (g : Int), i + d = l.length → From l i → 0 ≤ g →
    ∃ r, Ev (fun k => maths_folded.l1 k g l (l.length : Int) i) r ∧ Ev (fun k => foolscapref15_Gcd.l0 k l g i) r := by
  intro d
  induction d with
  | zero =>
    intro i g hi hf g0
    obtain rfl : i = l.length := by omega
    exact ⟨_, gcd_end, Ev.step (f := fun _ => some (wrap64 (g * 1000000), 0)) (fun k => by simp only [foolscapref15_Gcd.l0]; rw [if_neg (by omega)]) (Ev.now _)⟩
  | succ d ih =>
    intro i g hi hf g0
    obtain ⟨hg, hf'⟩ := (from_step (by omega)).1 hf
    obtain ⟨w1, w2, w3⟩ := whole_of hg
    obtain ⟨r, e1, e2⟩ := ih (i + 1) (gcdI g (rd l i / 1000000)) (by omega) hf' (gcdI_nonneg _ _)
    refine ⟨r, gcd_l1 g0 (by omega) hl hg e1, Ev.step (f := fun k => (foolscapref15_gcd.f k g (rd l i / 1000000)).bind fun t176 => (foolscapref15_Gcd.l0 k l t176 ((i + 1 : Nat) : Int))) (fun k => ?_) (Ev.bind (refGcd_of g0 w2) e2)⟩
    simp only [foolscapref15_Gcd.l0]
    rw [if_pos (by omega), if_pos (by omega), w1, wr64 (x := (i : Int) + 1) (by omega) (by omega)]; rfl
theorem gcds_same {l : List Int} (hl : (l.length : Int) < 17592186044416) : ∃ r, Ev (fun k => maths_Gcd.f k l) r ∧ Ev (fun k => foolscapref15_Gcd.f k l) r := by
  by_cases c : From l 0
  · obtain ⟨r, e1, e2⟩ := gcd_both hl l.length 0 0 (by omega) c (by decide)
    exact ⟨r, gcd_all hl c e1, Ev.bind (good_of hl (b := true) l.length 0 (by omega) ⟨fun _ => c, fun _ => rfl⟩) (Ev.congr (fun k => if_pos rfl) e2)⟩
  · exact ⟨(0, 5), gcd_none hl c, Ev.bind (good_of hl (b := false) l.length 0 (by omega) ⟨fun q => (by cases q), fun q => absurd q c⟩) (Ev.congr (f := fun _ => some (0, 5)) (fun k => if_neg (by decide)) (Ev.now _))⟩
theorem refLcm_nought {l : List Int} (hl : (l.length : Int) < 17592186044416) : ∀ (d i : Nat), i + d = l.length → From l i → Nought l i → Ev (fun k => foolscapref15_Lcm.l0 k l i) (0, 0) := by
  intro d
  induction d with
  | zero => intro i hi _ ⟨j, h1, h2, _⟩; exact absurd h2 (by omega)
  | succ d ih =>
    intro i hi hf hn
    obtain ⟨hg, hf'⟩ := (from_step (by omega)).1 hf
    obtain ⟨w1, w2, w3⟩ := whole_of hg
    by_cases c : rd l i / 1000000 = 0
    · exact Ev.step (f := fun _ => some (0, 0)) (fun k => by simp only [foolscapref15_Lcm.l0]; rw [if_pos (by omega), if_pos (by omega), w1, if_pos c]) (Ev.now _)
    · refine Ev.step (fun k => ?_) (ih (i + 1) (by omega) hf' ?_)
      · simp only [foolscapref15_Lcm.l0]; rw [if_pos (by omega), if_pos (by omega), w1, if_neg c, wr64 (x := (i : Int) + 1) (by omega) (by omega)]; rfl
      · obtain ⟨j, h1, h2, h3, h4⟩ := hn
        have : j ≠ i := by rintro rfl; omega
        exact ⟨j, by omega, h2, h3, h4⟩
theorem refLcm_l0 {l : List Int} {r : Int × Int} (hl : (l.length : Int) < 17592186044416) (h : Ev (fun k => foolscapref15_Lcm.l1 k l 1 0) r) : ∀ (d i : Nat), i + d = l.length → From l i → ¬ Nought l i → Ev (fun k => foolscapref15_Lcm.l0 k l i) r := by
  intro d
  induction d with
  | zero => intro i hi _ _; exact Ev.step (fun k => by simp only [foolscapref15_Lcm.l0]; rw [if_neg (by omega)]) h
  | succ d ih =>
    intro i hi hf hn
    obtain ⟨hg, hf'⟩ := (from_step (by omega)).1 hf
    obtain ⟨w1, w2, w3⟩ := whole_of hg
    have c : rd l i / 1000000 ≠ 0 := fun q => hn ⟨i, Nat.le_refl _, by omega, hg.1, by omega⟩
    refine Ev.step (fun k => ?_) (ih (i + 1) (by omega) hf' (fun ⟨j, h1, h2⟩ => hn ⟨j, by omega, h2⟩))
    simp only [foolscapref15_Lcm.l0]; rw [if_pos (by omega), if_pos (by omega), w1, if_neg c, wr64 (x := (i : Int) + 1) (by omega) (by omega)]; rfl
theorem lcm_zero {l : List Int} (hl : (l.length : Int) < 17592186044416) : ∀ (d i : Nat) (m : Int), i + d = l.length → (m = 0 ∨ 0 < d) → Ev (fun k => maths_foldedLcm.l1 true k m l (l.length : Int) i) (0, 0) := by
  intro d
  induction d with
  | zero =>
    intro i m hi hm
    obtain rfl : i = l.length := by omega
    rcases hm with rfl | hm
    · have h := lcm_end (nb := true) (l := l) (g := 0)
      rw [wr64 (x := 0 * 1000000) (by decide) (by decide)] at h
      exact h
    · omega
  | succ d ih =>
    intro i m hi hm
    refine Ev.step (fun k => ?_) (ih (i + 1) 0 (by omega) (.inl rfl))
    simp only [maths_foldedLcm.l1]
    rw [if_pos (by omega), if_pos (by omega), if_pos (by omega), show ∀ n, maths_Lcm_1.f true k m n = some 0 from fun n => by unfold maths_Lcm_1.f; rw [if_pos rfl]]
    simp only [Option.bind_some]
    rw [if_neg (by decide), wr64 (x := (i : Int) + 1) (by omega) (by omega)]; rfl
theorem lcm_both {l : List Int} (hl : (l.length : Int) < 17592186044416) : ∀ (d i : Nat) (m : Int), i + d = l.length → From l i → ¬ Nought l i → 1 ≤ m → m ≤ 1000000000000 →
    ∃ r, Ev (fun k => maths_foldedLcm.l1 false k m l (l.length : Int) i) r ∧ Ev (fun k => foolscapref15_Lcm.l1 k l m i) r := by
  intro d
  induction d with
  | zero =>
    intro i m hi hf hn m0 m1
    obtain rfl : i = l.length := by omega
    exact ⟨_, lcm_end, Ev.step (f := fun _ => some (wrap64 (m * 1000000), 0)) (fun k => by simp only [foolscapref15_Lcm.l1]; rw [if_neg (by omega)]) (Ev.now _)⟩
  | succ d ih =>
    intro i m hi hf hn m0 m1
    obtain ⟨hg, hf'⟩ := (from_step (by omega)).1 hf
    obtain ⟨w1, w2, w3⟩ := whole_of hg
    have c : 1 ≤ rd l i / 1000000 := by
      have : rd l i / 1000000 ≠ 0 := fun q => hn ⟨i, Nat.le_refl _, by omega, hg.1, by omega⟩
      omega
    obtain ⟨_, v1, v2⟩ := lcm_1 m0 c m1 w3
    have g1 := gcdI_pos (a := m) c
    have st : ∀ k, foolscapref15_Lcm.l1 (k + 1) l m i = (foolscapref15_gcd.f k m (rd l i / 1000000)).bind fun t180 => (if t180 = 0 then (none) else (if (wrap64 (Int.tdiv (rd l i / 1000000) t180)) = 0 then (none) else (if m > (wrap64 (Int.tdiv (1000000000000 : Int) (wrap64 (Int.tdiv (rd l i / 1000000) t180)))) then (some (0, 5)) else (foolscapref15_Lcm.l1 k l (wrap64 (m * (wrap64 (Int.tdiv (rd l i / 1000000) t180)))) ((i + 1 : Nat) : Int))))) := fun k => by
      simp only [foolscapref15_Lcm.l1]
      rw [if_pos (by omega), if_pos (by omega), w1, wr64 (x := (i : Int) + 1) (by omega) (by omega)]; rfl
    have hd : wrap64 (Int.tdiv (rd l i / 1000000) (gcdI m (rd l i / 1000000))) = rd l i / 1000000 / gcdI m (rd l i / 1000000) := by
      rw [Int.tdiv_eq_ediv_of_nonneg w2, wr64 (by omega) (by omega)]
    generalize hv : rd l i / 1000000 / gcdI m (rd l i / 1000000) = v at *
    have q0 : 0 ≤ 1000000000000 / v := Int.ediv_nonneg (by decide) (by omega)
    have q1 : 1000000000000 / v ≤ 1000000000000 := Int.ediv_le_self _ (by decide)
    have he : wrap64 (Int.tdiv 1000000000000 v) = 1000000000000 / v := by
      rw [Int.tdiv_eq_ediv_of_nonneg (by decide), wr64 (by omega) (by omega)]
    by_cases o : m ≤ 1000000000000 / v
    · have b1 := (Int.le_ediv_iff_mul_le (show 0 < v by omega)).1 o
      have b2 := Int.mul_pos (show 0 < m by omega) (show 0 < v by omega)
      obtain ⟨r, e1, e2⟩ := ih (i + 1) (m * v) (by omega) hf' (fun ⟨j, h1, h2⟩ => hn ⟨j, by omega, h2⟩) (by omega) b1
      refine ⟨r, lcm_l1 m0 m1 (by omega) hl hg c hv.symm o e1, Ev.step st (Ev.bind (refGcd_of (by omega) w2) (Ev.congr (fun k => ?_) e2))⟩
      rw [if_neg (by omega), hd, if_neg (by omega), he, if_neg (by omega), wr64 (x := m * v) (by omega) (by omega)]
    · refine ⟨(0, 5), lcm_l1_over m0 m1 (by omega) hl hg c hv.symm o, Ev.step st (Ev.bind (refGcd_of (by omega) w2) (Ev.congr (f := fun _ => some (0, 5)) (fun k => ?_) (Ev.now _)))⟩
      rw [if_neg (by omega), hd, if_neg (by omega), he, if_pos (by omega)]
theorem lcms_same {l : List Int} (hl : (l.length : Int) < 17592186044416) : ∃ r, Ev (fun k => maths_Lcm.f k l) r ∧ Ev (fun k => foolscapref15_Lcm.f k l) r := by
  by_cases c : From l 0
  · have hg := good_of hl (b := true) l.length 0 (by omega) ⟨fun _ => c, fun _ => rfl⟩
    by_cases n : Nought l 0
    · have hp : 0 < l.length := by obtain ⟨j, _, h2, _⟩ := n; omega
      exact ⟨(0, 0), lcm_l0 hl l.length 0 false true (by omega) ⟨fun _ => .inr n, fun _ => rfl⟩ (foldedLcm_good hl (lcm_zero hl l.length 0 1 (by omega) (.inr hp)) l.length 0 (by omega) c),
        Ev.bind hg (Ev.congr (fun k => if_pos rfl) (refLcm_nought hl l.length 0 (by omega) c n))⟩
    · obtain ⟨r, e1, e2⟩ := lcm_both hl l.length 0 1 (by omega) c n (by decide) (by decide)
      exact ⟨r, lcm_l0 hl l.length 0 false false (by omega) ⟨fun q => (by cases q), fun q => (by rcases q with q | q; cases q; exact absurd q n)⟩ (foldedLcm_good hl e1 l.length 0 (by omega) c),
        Ev.bind hg (Ev.congr (fun k => if_pos rfl) (refLcm_l0 hl e2 l.length 0 (by omega) c n))⟩
  · have hg := good_of hl (b := false) l.length 0 (by omega) ⟨fun q => (by cases q), fun q => absurd q c⟩
    have hr : Ev (fun k => foolscapref15_Lcm.f k l) (0, 5) := Ev.bind hg (Ev.congr (f := fun _ => some (0, 5)) (fun k => if_neg (by decide)) (Ev.now _))
    by_cases n : Nought l 0
    · exact ⟨(0, 5), lcm_l0 hl l.length 0 false true (by omega) ⟨fun _ => .inr n, fun _ => rfl⟩ (foldedLcm_bad hl l.length 0 (by omega) c), hr⟩
    · exact ⟨(0, 5), lcm_l0 hl l.length 0 false false (by omega) ⟨fun q => (by cases q), fun q => (by rcases q with q | q; cases q; exact absurd q n)⟩ (foldedLcm_bad hl l.length 0 (by omega) c), hr⟩
theorem MathsLists : foolscaplaw15_MathsLists.Pure := by
  intro l h1 h2 _
  refine Ev.rounds (g := fun k => foolscaplaw15_MathsLists.f k l) ?_
  have hl : (l.length : Int) < 17592186044416 := by omega
  obtain ⟨g, g1, g2⟩ := gcds_same hl
  obtain ⟨m, m1, m2⟩ := lcms_same hl
  refine Ev.congr (f := fun k => (maths_Gcd.f k l).bind fun bt187 => ((foolscapref15_Gcd.f k l).bind fun bt189 => ((maths_Lcm.f k l).bind fun bt197 => ((foolscapref15_Lcm.f k l).bind fun bt199 => (if bt187.1 = bt189.1 then (if bt187.2 = bt189.2 then (if bt197.1 = bt199.1 then (if bt197.2 = bt199.2 then ((foolscaplaw15_lives.f k).bind fun t201 => (some t201)) else (some false)) else (some false)) else (some false)) else (some false)))))) (fun k => ?_) (Ev.bind g1 (Ev.bind g2 (Ev.bind m1 (Ev.bind m2 (Ev.congr (fun k => ?_) ends)))))
  · unfold foolscaplaw15_MathsLists.f
    simp only [Option.bind_some, List.nil_append, List.length_nil]
    rw [if_pos (by omega)]
    simp only [if_pos (show 0 + l.length < 17592186044416 by omega)]
  · rw [if_pos rfl, if_pos rfl, if_pos rfl, if_pos rfl]
end Go.Proofs.Ytklkanaabmehkaa.Pure
