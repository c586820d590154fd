/- The reference's wide numbers: what its printed functions tell; the mean by long division. -/
import Derived.Test.YtagohdalabhheaaPBx11
import Derived.Test.YtagohdalabhheaaPBx11
import Derived.Test.YtagohdalabhheaaSumV16
import Derived.Test.YtagohdalabhheaaGoodR16
set_option linter.unusedVariables false
set_option linter.unusedSimpArgs false
namespace Go.Proofs.Ytagohdalabhheaa.Pure
open Go.RowKit Go.Proofs.Ytagohdalabhheaa.PB Go.Proofs.YtagohdalabhheaaW.PrintWords Go.Proofs.YtagohdalabhheaaW.PrintLast Go.Proofs.YtagohdalabhheaaW.PrintMore

theorem refRight_of (h l : Int) : foolscapref03_Right.f h l = some (decide (WV h l)) := by
  unfold foolscapref03_Right.f
  by_cases c1 : l ≥ 0
  · rw [if_pos c1]
    by_cases c2 : l < 1000000000000000000
    · rw [if_pos c2]
      by_cases c3 : h ≥ -2147483648
      · rw [if_pos c3]
        congr 1
        exact decide_eq_decide.2 ⟨fun q => ⟨c1, c2, c3, q⟩, fun q => q.2.2.2⟩
      · rw [if_neg c3, decide_eq_false (show ¬ WV h l from fun q => c3 q.2.2.1)]
    · rw [if_neg c2, decide_eq_false (show ¬ WV h l from fun q => c2 q.2.1)]
  · rw [if_neg c1, decide_eq_false (show ¬ WV h l from fun q => c1 q.1)]
theorem refFits_of (n : Int) : foolscapref01_Fits.f n = some (decide (FitsI n)) := by
  unfold foolscapref01_Fits.f
  by_cases c : n ≥ -1000000000000000000
  · rw [if_pos c]
    congr 1
    exact decide_eq_decide.2 ⟨fun h => ⟨c, h⟩, fun h => h.2⟩
  · rw [if_neg c, decide_eq_false (show ¬ FitsI n from fun q => c q.1)]
theorem carry_up (h l : Int) : carry (h - 1) (l + 1000000000000000000) = carry h l := by
  unfold carry
  rw [show h - 1 + (l + 1000000000000000000) / 1000000000000000000 = h + l / 1000000000000000000 by omega, show (l + 1000000000000000000) % 1000000000000000000 = l % 1000000000000000000 by omega]
theorem carry_down (h l : Int) : carry (h + 1) (l - 1000000000000000000) = carry h l := by
  unfold carry
  rw [show h + 1 + (l - 1000000000000000000) / 1000000000000000000 = h + l / 1000000000000000000 by omega, show (l - 1000000000000000000) % 1000000000000000000 = l % 1000000000000000000 by omega]
theorem made_l1 (d : Nat) : ∀ h l : Int, -4294967300 ≤ h → h + d ≤ 4294967300 → 0 ≤ l → l < 1000000000000000000 * (d + 1) → l ≤ 4000000000000000000 →
    Ev (fun k => foolscapref03_made.l1 k h l) (carry h l) := by
  have stop : ∀ h l : Int, 0 ≤ l → l < 1000000000000000000 → Ev (fun k => foolscapref03_made.l1 k h l) (carry h l) := by
    intro h l l0 l1
    refine Ev.step (f := fun _ => some (carry h l)) (fun k => ?_) (Ev.now _)
    simp only [foolscapref03_made.l1]
    rw [if_neg (by omega), refRight_of]
    simp only [Option.bind_some]
    unfold carry
    rw [show h + l / 1000000000000000000 = h by omega, show l % 1000000000000000000 = l by omega]
    by_cases c : -2147483648 ≤ h ∧ h < 2147483648
    · rw [decide_eq_true (show WV h l from ⟨l0, l1, c.1, c.2⟩), if_pos rfl, if_pos c]
    · rw [decide_eq_false (show ¬ WV h l from fun q => c ⟨q.2.2.1, q.2.2.2⟩), if_neg (by decide), if_neg c]
  induction d with
  | zero => intro h l _ _ l0 l1 _; exact stop h l l0 (by omega)
  | succ d ih =>
    intro h l h0 h1 l0 l1 l2
    by_cases c : l ≥ 1000000000000000000
    · have := ih (h + 1) (l - 1000000000000000000) (by omega) (by omega) (by omega) (by omega) (by omega)
      rw [carry_down] at this
      refine Ev.step (fun k => ?_) this
      simp only [foolscapref03_made.l1]
      rw [if_pos c, wr64 (x := h + 1) (by omega) (by omega), wr64 (x := l - 1000000000000000000) (by omega) (by omega)]
    · exact stop h l l0 (by omega)
theorem made_l0 (d : Nat) : ∀ h l : Int, -4294967296 - 1 ≤ h - d → h ≤ 4294967296 → -1000000000000000000 * d ≤ l → -4000000000000000000 ≤ l → l ≤ 2000000000000000000 →
    Ev (fun k => foolscapref03_made.l0 k h l) (carry h l) := by
  have stop : ∀ h l : Int, -4294967300 ≤ h → h ≤ 4294967296 → 0 ≤ l → l ≤ 2000000000000000000 → Ev (fun k => foolscapref03_made.l0 k h l) (carry h l) := by
    intro h l h0 h1 l0 l1
    refine Ev.step (fun k => ?_) (made_l1 2 h l (by omega) (by omega) l0 (by omega) (by omega))
    simp only [foolscapref03_made.l0]
    rw [if_neg (by omega)]
  induction d with
  | zero => intro h l h0 h1 l0 _ l1; exact stop h l (by omega) h1 (by omega) l1
  | succ d ih =>
    intro h l h0 h1 l0 l2 l1
    by_cases c : l < 0
    · have := ih (h - 1) (l + 1000000000000000000) (by omega) (by omega) (by omega) (by omega) (by omega)
      rw [carry_up] at this
      refine Ev.step (fun k => ?_) this
      simp only [foolscapref03_made.l0]
      rw [if_pos c, wr64 (x := h - 1) (by omega) (by omega), wr64 (x := l + 1000000000000000000) (by omega) (by omega)]
    · exact stop h l (by omega) h1 (by omega) l1
theorem made_of (h l : Int) (h0 : -4294967295 ≤ h) (h1 : h ≤ 4294967296) (l0 : -2000000000000000000 ≤ l) (l1 : l ≤ 2000000000000000000) :
    Ev (fun k => foolscapref03_made.f k h l) (carry h l) := made_l0 2 h l (by omega) h1 (by omega) (by omega) l1

theorem refAdd_of (h l n : Int) : Ev (fun k => foolscapref03_Add.f k h l n) (if WV h l ∧ FitsI n then carry h (l + n) else (0, 0, 2)) := by
  by_cases c : WV h l
  · by_cases d : FitsI n
    · rw [if_pos ⟨c, d⟩]
      refine Ev.congr (fun k => ?_) (Ev.bind (f := fun _ bt => some (bt.1, bt.2.1, bt.2.2)) (made_of h (l + n) (by obtain ⟨_, _, _, _⟩ := c; omega) (by obtain ⟨_, _, _, _⟩ := c; omega) (by obtain ⟨_, _, _, _⟩ := c; obtain ⟨_, _⟩ := d; omega) (by obtain ⟨_, _, _, _⟩ := c; obtain ⟨_, _⟩ := d; omega)) (Ev.now _))
      unfold foolscapref03_Add.f
      rw [refRight_of, refFits_of, decide_eq_true c, decide_eq_true d, wr64 (by obtain ⟨_, _, _, _⟩ := c; obtain ⟨_, _⟩ := d; omega) (by obtain ⟨_, _, _, _⟩ := c; obtain ⟨_, _⟩ := d; omega)]
      rfl
    · rw [if_neg (fun q => d q.2)]
      refine Ev.congr (fun k => ?_) (Ev.now _)
      unfold foolscapref03_Add.f
      rw [refRight_of, refFits_of, decide_eq_true c, decide_eq_false d]; rfl
  · rw [if_neg (fun q => c q.1)]
    refine Ev.congr (fun k => ?_) (Ev.now _)
    unfold foolscapref03_Add.f
    rw [refRight_of, decide_eq_false c]; rfl

theorem refAdd_in {v n : Int} (r : inR v) (f : FitsI n) (s : inR (v + n)) : Ev (fun k => foolscapref03_Add.f k (v / 1000000000000000000) (v % 1000000000000000000) n)
    ((v + n) / 1000000000000000000, (v + n) % 1000000000000000000, 0) := by
  have h := refAdd_of (v / 1000000000000000000) (v % 1000000000000000000) n
  have e : val (v / 1000000000000000000) (v % 1000000000000000000 + n) = v + n := by unfold val; omega
  rw [if_pos ⟨WV_of r, f⟩, carry_in (by rw [e]; exact s), e] at h
  exact h
theorem refTotal_l0 {l : List Int} (g : GoodL l) : ∀ (d i : Nat), i + d = l.length → Ev (fun k => foolscapref16_total.l0 k l i (sumI (l.take i) / 1000000000000000000) (sumI (l.take i) % 1000000000000000000)) (sumI l / 1000000000000000000, sumI l % 1000000000000000000) := by
  intro d
  have hin : ∀ i, inR (sumI (l.take i)) := fun i => by
    have h := sumI_bd (l := l.take i) (fun x hx => g.2 x (List.mem_of_mem_take hx))
    have h2 : (l.take i).length ≤ 4096 := by rw [List.length_take]; have := g.1; omega
    unfold inR; omega
  induction d with
  | zero =>
    intro i hi
    rw [List.take_of_length_le (by omega)]
    exact Ev.step (f := fun _ => some _) (fun k => by simp only [foolscapref16_total.l0]; rw [if_neg (by omega)]) (Ev.now _)
  | succ d ih =>
    intro i hi
    have w1 : wrap64 ((i : Int) + 1) = ((i + 1 : Nat) : Int) := by have := g.1; rw [wr64 (by omega) (by omega)]; omega
    have ht : sumI (l.take (i + 1)) = sumI (l.take i) + rd l i := by
      rw [List.take_add_one, List.getElem?_eq_getElem (by omega), sumI_app, rd_get l i (by omega)]
      simp [sumI]
    have ha := refAdd_in (hin i) (n := rd l i) (g.2 _ (rd_mem (by omega) (by omega))) (by rw [← ht]; exact hin (i + 1))
    have hn := ih (i + 1) (by omega)
    rw [ht] at hn
    refine Ev.step (fun k => ?_) (Ev.bind (f := fun k bt => foolscapref16_total.l0 k l ((i + 1 : Nat) : Int) bt.1 bt.2.1) ha hn)
    simp only [foolscapref16_total.l0]
    rw [if_pos (by omega), if_pos (by omega), w1]
theorem refTotal_of {l : List Int} (g : GoodL l) : Ev (fun k => foolscapref16_total.f k l) (sumI l / 1000000000000000000, sumI l % 1000000000000000000) := by
  have h := refTotal_l0 g l.length 0 (by omega)
  rw [List.take_zero] at h
  exact h
def P10 : Nat → Int
  | 0 => 1
  | n + 1 => P10 n * 10
def pj : Nat → Int
  | 0 => 0
  | n + 1 => P10 n
theorem P10_pos : ∀ n, 1 ≤ P10 n
  | 0 => by decide
  | n + 1 => by have := P10_pos n; simp only [P10]; omega
theorem P10_le : ∀ {n m}, n ≤ m → P10 n ≤ P10 m := fun {n m} h => by
  induction m with
  | zero => rw [Nat.le_zero.1 h]; exact Int.le_refl _
  | succ m ih =>
    by_cases e : n = m + 1
    · rw [e]; exact Int.le_refl _
    · have := ih (by omega)
      have := P10_pos m
      simp only [P10]; omega
theorem P10_add (a b : Nat) : P10 (a + b) = P10 a * P10 b := by
  induction b with
  | zero => simp [P10]
  | succ b ih => rw [Nat.add_succ]; simp only [P10]; rw [ih, Int.mul_assoc]
theorem P10_split {j : Nat} (h : j < 18) : 1000000000000000000 = P10 j * (10 * P10 (17 - j)) := by
  have := P10_add j (17 - j + 1)
  rw [show j + (17 - j + 1) = 18 by omega] at this
  rw [show (1000000000000000000 : Int) = P10 18 by decide, this]
  simp only [P10]
  rw [Int.mul_comm (P10 (17 - j)) 10]
theorem digit_of {S hs ls : Int} (hS : S = hs * 1000000000000000000 + ls) {j : Nat} (h : j < 18) : S / P10 j = 10 * (S / P10 (j + 1)) + ls / P10 j % 10 := by
  have p := P10_pos j
  have e := P10_split h
  have h1 : S / P10 j = ls / P10 j + hs * (10 * P10 (17 - j)) := by
    rw [hS, e, show hs * (P10 j * (10 * P10 (17 - j))) + ls = ls + P10 j * (hs * (10 * P10 (17 - j))) by rw [Int.add_comm, Int.mul_left_comm], Int.add_mul_ediv_left _ _ (by omega)]
  have h2 : S / P10 (j + 1) = S / P10 j / 10 := by
    have q := @Int.ediv_ediv S (P10 j) 10
    rw [if_neg (by omega)] at q
    simp only [P10]; omega
  have h3 : hs * (10 * P10 (17 - j)) = 10 * (hs * P10 (17 - j)) := Int.mul_left_comm _ _ _
  rw [h2, h1, h3]
  generalize hs * P10 (17 - j) = t
  omega
theorem refMean_l0 {S hs ls c h l : Int} {r : Int × Int} (c0 : 1 ≤ c) (c1 : c ≤ 2147483648) (hS : S = hs * 1000000000000000000 + ls) (h0 : 0 ≤ hs) (l0 : 0 ≤ ls) (l1 : ls < 1000000000000000000) (hq : S / c ≤ 2000000000000000000)
    (base : Ev (fun k => foolscapref03_Mean.l0 k c ls (S / c) (S % c) 0 h l) r) : ∀ j, j ≤ 18 → Ev (fun k => foolscapref03_Mean.l0 k c ls (S / P10 j / c) (S / P10 j % c) (pj j) h l) r := by
  intro j
  induction j with
  | zero => intro _; simp only [P10, Int.ediv_one, pj]; exact base
  | succ j ih =>
    intro hj
    have p := P10_pos j
    have p2 : P10 j ≤ 100000000000000000 := P10_le (m := 17) (by omega)
    have d := digit_of hS (j := j) (by omega)
    have s0 : 0 ≤ S := by omega
    have a0 : 0 ≤ S / P10 (j + 1) := Int.ediv_nonneg s0 (by have := P10_pos (j + 1); omega)
    have b1 : S / P10 j ≤ S := Int.ediv_le_self _ s0
    have b2 : S / P10 j / c ≤ 2000000000000000000 := Int.le_trans (Int.ediv_le_ediv (by omega) b1) hq
    have g0 : 0 ≤ ls / P10 j := Int.ediv_nonneg l0 (by omega)
    have g1 : ls / P10 j ≤ ls := Int.ediv_le_self _ l0
    have ih := ih (by omega)
    generalize S / P10 (j + 1) = A at *
    generalize S / P10 j = B at *
    have r0 := Int.emod_nonneg A (b := c) (by omega)
    have r1 := Int.emod_lt_of_pos A (b := c) (by omega)
    have dm := Int.mul_ediv_add_emod A c
    have q0 : 0 ≤ A / c := Int.ediv_nonneg a0 (by omega)
    have eB : B = (10 * (A % c) + ls / P10 j % 10) + c * (10 * (A / c)) := by
      have : c * (10 * (A / c)) = 10 * (c * (A / c)) := Int.mul_left_comm _ _ _
      omega
    have e1 : B / c = (10 * (A % c) + ls / P10 j % 10) / c + 10 * (A / c) := by rw [eB, Int.add_mul_ediv_left _ _ (by omega)]
    have e2 : B % c = (10 * (A % c) + ls / P10 j % 10) % c := by rw [eB, Int.add_mul_emod_self_left]
    have t0 : 0 ≤ (10 * (A % c) + ls / P10 j % 10) / c := Int.ediv_nonneg (by omega) (by omega)
    have w1 : wrap64 (10 * (A % c)) = 10 * (A % c) := wr64 (by omega) (by omega)
    have w2 : wrap64 (Int.tdiv ls (P10 j)) = ls / P10 j := by rw [Int.tdiv_eq_ediv_of_nonneg l0]; exact wr64 (by omega) (by omega)
    have w3 : Int.tmod (ls / P10 j) 10 = ls / P10 j % 10 := Int.tmod_eq_emod_of_nonneg g0
    have w4 : wrap64 (10 * (A % c) + ls / P10 j % 10) = 10 * (A % c) + ls / P10 j % 10 := wr64 (by omega) (by omega)
    have w5 : wrap64 (Int.tdiv (10 * (A % c) + ls / P10 j % 10) c) = (10 * (A % c) + ls / P10 j % 10) / c := by
      rw [Int.tdiv_eq_ediv_of_nonneg (by omega)]; exact wr64 (by omega) (by omega)
    have w6 : wrap64 (10 * (A / c)) = 10 * (A / c) := wr64 (by omega) (by omega)
    have w7 : wrap64 (10 * (A / c) + (10 * (A % c) + ls / P10 j % 10) / c) = B / c := by rw [e1, Int.add_comm]; exact wr64 (by omega) (by omega)
    have w8 : Int.tmod (10 * (A % c) + ls / P10 j % 10) c = B % c := by rw [e2]; exact Int.tmod_eq_emod_of_nonneg (by omega)
    have w9 : wrap64 (Int.tdiv (P10 j) 10) = pj j := by
      rw [Int.tdiv_eq_ediv_of_nonneg (by omega)]
      cases j with
      | zero => exact wr64 (x := 0) (by decide) (by decide)
      | succ j =>
        have := P10_pos j
        simp only [P10] at p2 ⊢
        rw [Int.mul_ediv_cancel _ (by decide)]
        exact wr64 (by omega) (by omega)
    refine Ev.step (fun k => ?_) ih
    show foolscapref03_Mean.l0 (k + 1) c ls (A / c) (A % c) (P10 j) h l = _
    simp only [foolscapref03_Mean.l0]
    rw [if_pos (by omega), if_neg (by omega), if_neg (by omega), w1, w2, w3, w4, w5, w6, w7, w8, w9]
theorem refSize_of {v : Int} (r : inR v) : ∃ hs ls, foolscapref03_size.f (v / 1000000000000000000) (v % 1000000000000000000) = some (hs, ls) ∧ absI v = hs * 1000000000000000000 + ls ∧ 0 ≤ hs ∧ hs ≤ 2147483648 ∧ 0 ≤ ls ∧ ls < 1000000000000000000 := by
  obtain ⟨r0, r1⟩ := r
  unfold foolscapref03_size.f absI
  by_cases a : v / 1000000000000000000 ≥ 0
  · exact ⟨_, _, if_pos a, by rw [if_neg (by omega)]; omega, by omega, by omega, by omega, by omega⟩
  · by_cases b : v % 1000000000000000000 = 0
    · refine ⟨_, _, (if_neg a).trans (if_pos b), ?_⟩
      rw [if_pos (by omega), wr64 (by omega) (by omega)]
      exact ⟨by omega, by omega, by omega, by omega, by omega⟩
    · refine ⟨_, _, (if_neg a).trans (if_neg b), ?_⟩
      rw [if_pos (by omega), wr64 (x := -(v / 1000000000000000000)) (by omega) (by omega), wr64 (x := -(v / 1000000000000000000) - 1) (by omega) (by omega), wr64 (x := 1000000000000000000 - v % 1000000000000000000) (by omega) (by omega)]
      exact ⟨by omega, by omega, by omega, by omega, by omega⟩
theorem refMean_v {v c : Int} (r : inR v) (c0 : 1 ≤ c) (c1 : c ≤ 2147483648) (f : rhe (absI v) c ≤ 1000000000000000000) : Ev (fun k => foolscapref03_Mean.f k (v / 1000000000000000000) (v % 1000000000000000000) c) (meanV v c, 0) := by
  obtain ⟨hs, ls, es, ev, hs0, hs1, ls0, ls1⟩ := refSize_of r
  have hS0 : 0 ≤ absI v := by omega
  have n0 := rhe_nonneg (S := absI v) c0 hS0
  generalize hSS : absI v = S at ev f hS0 n0
  have qle : S / c ≤ rhe S c := by unfold rhe; split <;> omega
  have q0 : 0 ≤ S / c := Int.ediv_nonneg hS0 (by omega)
  have dm := Int.mul_ediv_add_emod S c
  have r0 := Int.emod_nonneg S (b := c) (by omega)
  have r1 := Int.emod_lt_of_pos S (b := c) (by omega)
  have hc : hs ≤ c := by
    have h1 : c * (S / c) ≤ c * 1000000000000000000 := Int.mul_le_mul_of_nonneg_left (by omega) (by omega)
    omega
  have hd : hs / c ≤ 1 := by
    have := Int.ediv_le_ediv (c := c) (by omega) hc
    rw [Int.ediv_self (by omega)] at this
    exact this
  have hd0 : 0 ≤ hs / c := Int.ediv_nonneg hs0 (by omega)
  have sgn : (v / 1000000000000000000 < 0) ↔ v < 0 := by omega
  have fin : Ev (fun k => foolscapref03_Mean.j3 k (rhe S c) (v / 1000000000000000000) (v % 1000000000000000000)) (meanV v c, 0) := by
    refine Ev.step (f := fun _ => some (meanV v c, 0)) (fun k => ?_) (Ev.now _)
    simp only [foolscapref03_Mean.j3]
    rw [if_neg (by omega)]
    unfold meanV
    rw [hSS]
    by_cases d : v < 0
    · rw [if_pos (sgn.2 d), if_pos d, wr64 (by omega) (by omega)]
    · rw [if_neg (fun q => d (sgn.1 q)), if_neg d]
  have rnd : ∀ b : Bool, (b = true ↔ (S % c > c - S % c ∨ (S % c = c - S % c ∧ S / c % 2 = 1))) → Ev (fun k => foolscapref03_Mean.j2 k (S / c) b (v / 1000000000000000000) (v % 1000000000000000000)) (meanV v c, 0) := fun b hb => by
    refine Ev.step (fun k => ?_) fin
    simp only [foolscapref03_Mean.j2]
    unfold rhe
    by_cases e : b = true
    · rw [if_pos e, if_pos (hb.1 e), wr64 (by omega) (by omega)]
    · rw [if_neg e, if_neg (fun q => e (hb.2 q))]
  have base : Ev (fun k => foolscapref03_Mean.l0 k c ls (S / c) (S % c) 0 (v / 1000000000000000000) (v % 1000000000000000000)) (meanV v c, 0) := by
    have wc : wrap64 (c - S % c) = c - S % c := wr64 (by omega) (by omega)
    by_cases a : S % c > c - S % c
    · exact Ev.step (fun k => by simp only [foolscapref03_Mean.l0]; rw [if_neg (by decide), wc, if_pos a]) (rnd true ⟨fun _ => Or.inl a, fun _ => rfl⟩)
    · by_cases b : S % c = c - S % c
      · refine Ev.step (fun k => by simp only [foolscapref03_Mean.l0]; rw [if_neg (by decide), wc, if_neg a, if_pos b]) (rnd (Int.tmod (S / c) 2 == 1) ?_)
        rw [Int.tmod_eq_emod_of_nonneg q0, beq_iff_eq]
        exact ⟨fun q => .inr ⟨b, q⟩, fun q => q.elim (fun q => absurd q a) (fun q => q.2)⟩
      · exact Ev.step (fun k => by simp only [foolscapref03_Mean.l0]; rw [if_neg (by decide), wc, if_neg a, if_neg b]) (rnd false ⟨fun q => absurd q (by decide), fun q => q.elim (fun q => absurd q a) (fun q => absurd q.1 b)⟩)
  have loop := refMean_l0 c0 c1 ev hs0 ls0 ls1 (by omega) base 18 (Nat.le_refl _)
  have e18 : S / P10 18 = hs := by
    rw [show P10 18 = 1000000000000000000 by decide]; omega
  rw [e18, show pj 18 = 100000000000000000 by decide] at loop
  have start : Ev (fun k => foolscapref03_Mean.j0 k c false (v / 1000000000000000000) (v % 1000000000000000000)) (meanV v c, 0) := by
    refine Ev.step (fun k => ?_) loop
    simp only [foolscapref03_Mean.j0]
    rw [if_neg (by decide), es]
    simp only [Option.bind_some]
    rw [if_neg (by omega), Int.tdiv_eq_ediv_of_nonneg hs0, Int.tmod_eq_emod_of_nonneg hs0, wr64 (by omega) (by omega), if_neg (by omega)]
  refine Ev.congr (fun k => ?_) start
  unfold foolscapref03_Mean.f
  rw [refRight_of, decide_eq_true (WV_of r)]
  simp only [Option.bind_some]
  rw [if_pos trivial, if_neg (by omega), decide_eq_false (by omega)]
theorem refMeanL_of {l : List Int} (g : GoodL l) (p : 0 < l.length) : Ev (fun k => foolscapref16_Mean.f k l) (meanV (sumI l) l.length, 0) := by
  have hb := sumI_bd g.2
  have hg := g.1
  have mf := mean_fits (v := sumI l) (c := l.length) (lo := -1000000000000000000) (hi := 1000000000000000000) (by omega) (by omega) (by omega) (by decide) (by decide)
  have hm := refMean_v (v := sumI l) (c := (l.length : Int)) (sumI_in g) (by omega) (by omega) mf.1
  refine Ev.bind (refGood_of l) (Ev.congr (f := fun k => (foolscapref16_total.f k l).bind fun bt287 => ((foolscapref03_Mean.f k bt287.1 bt287.2 (l.length : Int)).bind fun bt289 => (some (bt289.1, 0)))) (fun k => ?_) (Ev.bind (refTotal_of g) (Ev.bind hm (Ev.now _))))
  rw [if_pos (decide_eq_true g), if_neg (by omega)]
end Go.Proofs.Ytagohdalabhheaa.Pure
