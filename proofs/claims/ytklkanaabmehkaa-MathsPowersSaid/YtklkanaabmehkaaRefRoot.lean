/- What the reference's printed root and factorial tell. -/
import Derived.Test.YtklkanaabmehkaaPQx6
import Derived.Test.YtklkanaabmehkaaPQx7
import Derived.Test.YtklkanaabmehkaaPQx7
import Derived.Test.YtklkanaabmehkaaRootV
set_option linter.unusedVariables false
set_option linter.unusedSimpArgs false
namespace Go.Proofs.Ytklkanaabmehkaa.Pure
open Go.RowKit Go.Proofs.Ytklkanaabmehkaa.PQ Go.Proofs.YtklkanaabmehkaaW.PrintWords Go.Proofs.YtklkanaabmehkaaW.PrintLast Go.Proofs.YtklkanaabmehkaaW.PrintMore

theorem rFits_of (n : Int) : foolscapref01_Fits.f n = some (decide (FitsI n)) := by
  unfold foolscapref01_Fits.f
  by_cases c : n ≥ -1000000000000000000
  · rw [if_pos c]
    congr 1
    exact decide_eq_decide.2 ⟨fun h => ⟨c, h⟩, fun h => h.2⟩
  · rw [if_neg c, decide_eq_false (show ¬ FitsI n from fun q => c q.1)]
theorem rootFits_of {x n : Int} (h0 : 0 ≤ x) (h1 : x ≤ 1000000000000) (n0 : 0 ≤ n) (n1 : n ≤ 1000000000000000000) : foolscapref15_fits.f x n = some (decide (x * x ≤ n * 1000000)) := by
  unfold foolscapref15_fits.f
  rw [Int.tdiv_eq_ediv_of_nonneg h0, Int.tmod_eq_emod_of_nonneg h0]
  have e : x = 1000000 * (x / 1000000) + x % 1000000 := by omega
  generalize hp : x / 1000000 = p at *
  generalize hq : x % 1000000 = q at *
  have p0 : 0 ≤ p := by omega
  have p1 : p ≤ 1000000 := by omega
  have q0 : 0 ≤ q := by omega
  have q1 : q < 1000000 := by omega
  have ex : x * x = 1000000000000 * (p * p) + 2000000 * (p * q) + q * q := by rw [e]; grind
  have b1 := mul_bound p0 p0 p1 p1
  have b2 := mul_bound p0 q0 p1 (Int.le_of_lt q1)
  have b3 := mul_bound q0 q0 (Int.le_of_lt q1) (Int.le_of_lt q1)
  rw [ex, wr64 (x := p) (by omega) (by omega), wr64 (x := 2 * p) (by omega) (by omega), Int.mul_assoc 2 p q]
  generalize p * p = A at *
  generalize p * q = B at *
  generalize q * q = C at *
  rw [wr64 (x := A) (by omega) (by omega), wr64 (x := A * 1000000) (by omega) (by omega), wr64 (x := 2 * B) (by omega) (by omega), wr64 (x := A * 1000000 + 2 * B) (by omega) (by omega),
    wr64 (x := C) (by omega) (by omega), wr64 (x := C + 1000000) (by omega) (by omega), wr64 (x := C + 1000000 - 1) (by omega) (by omega),
    Int.tdiv_eq_ediv_of_nonneg (a := C + 1000000 - 1) (by omega), wr64 (x := (C + 1000000 - 1) / 1000000) (by omega) (by omega), wr64 (by omega) (by omega)]
  congr 1
  exact decide_eq_decide.2 (by omega)
theorem refRoot_end {n r : Int} (n0 : 0 ≤ n) (n1 : n ≤ 1000000000000000000) (hs : IsRt (n * 1000000) r) : ∀ k, foolscapref15_Root.l0 (k + 1) n r (r + 1) = some (rootR (n * 1000000) r, 0) := by
  intro k
  have hb := rt_bd (b := 1000000000000) (by decide) (by omega) hs
  obtain ⟨r0, r1, r2⟩ := hs
  have e : (r + 1) * (r + 1) = r * r + 2 * r + 1 := by grind
  simp only [foolscapref15_Root.l0]
  rw [wr64 (x := r + 1 - r) (by omega) (by omega), if_neg (by omega), w64 (x := n) (by omega) (by omega), w64 (x := r) (by omega) (by omega)]
  have hu : ∀ z : Int, IntKind.u64.wrap z = z % 18446744073709551616 := fun z => rfl
  unfold rootR
  generalize r * r = p at *
  have hw : IntKind.u64.wrap (IntKind.u64.wrap (n * 1000000) - IntKind.u64.wrap p) = n * 1000000 - p := by
    rw [hu, hu, hu]; omega
  rw [hw]
  by_cases c : n * 1000000 - p > r
  · rw [if_pos c, if_pos c, wr64 (by omega) (by omega)]
  · rw [if_neg c, if_neg c]
theorem refRoot_l0 {n : Int} (n0 : 0 ≤ n) (n1 : n ≤ 1000000000000000000) : ∀ (d : Nat) (low high : Int), high - low ≤ d → 0 ≤ low → low < high → high ≤ 1000000000001 →
    low * low ≤ n * 1000000 → n * 1000000 < high * high → ∃ r, IsRt (n * 1000000) r ∧ Ev (fun k => foolscapref15_Root.l0 k n low high) (rootR (n * 1000000) r, 0)
  | 0, low, high, hd, h0, h1, h2, hl, hh => absurd hd (by omega)
  | d + 1, low, high, hd, h0, h1, h2, hl, hh => by
    by_cases c : high - low > 1
    · have e : wrap64 (Int.tdiv (wrap64 (low + high)) 2) = (low + high) / 2 := by
        rw [wr64 (x := low + high) (by omega) (by omega), Int.tdiv_eq_ediv_of_nonneg (by omega), wr64 (by omega) (by omega)]
      have st : ∀ k, foolscapref15_Root.l0 (k + 1) n low high = if (low + high) / 2 * ((low + high) / 2) ≤ n * 1000000 then foolscapref15_Root.l0 k n ((low + high) / 2) high else foolscapref15_Root.l0 k n low ((low + high) / 2) := fun k => by
        simp only [foolscapref15_Root.l0]
        rw [wr64 (x := high - low) (by omega) (by omega), if_pos c, e, rootFits_of (by omega) (by omega) n0 n1]
        simp only [Option.bind_some]
        by_cases g : (low + high) / 2 * ((low + high) / 2) ≤ n * 1000000
        · rw [if_pos g, if_pos (decide_eq_true g)]
        · rw [if_neg g, if_neg (by rw [decide_eq_false g]; decide)]
      by_cases g : (low + high) / 2 * ((low + high) / 2) ≤ n * 1000000
      · obtain ⟨r, hr, hev⟩ := refRoot_l0 n0 n1 d ((low + high) / 2) high (by omega) (by omega) (by omega) h2 g hh
        exact ⟨r, hr, Ev.step (fun k => by rw [st, if_pos g]) hev⟩
      · obtain ⟨r, hr, hev⟩ := refRoot_l0 n0 n1 d low ((low + high) / 2) (by omega) h0 (by omega) (by omega) hl (by omega)
        exact ⟨r, hr, Ev.step (fun k => by rw [st, if_neg g]) hev⟩
    · obtain rfl : high = low + 1 := by omega
      have hs : IsRt (n * 1000000) low := ⟨h0, hl, hh⟩
      exact ⟨low, hs, Ev.step (f := fun _ => some (rootR (n * 1000000) low, 0)) (fun k => refRoot_end n0 n1 hs k) (Ev.now _)⟩
/-- Both roots are one. -/
theorem roots_same (n : Int) : ∃ r, Ev (fun k => maths_Root.f k n) r ∧ Ev (fun k => foolscapref15_Root.f k n) r := by
  by_cases c : FitsI n ∧ 0 ≤ n
  · obtain ⟨s, hs, hev⟩ := root_ok c.1 c.2
    obtain ⟨⟨c0, c1⟩, c2⟩ := c
    obtain ⟨r, hr, hev2⟩ := refRoot_l0 (n := n) c2 c1 1000000000001 0 1000000000001 (by decide) (by decide) (by decide) (by decide) (by omega) (by omega)
    rw [rt_one hr hs] at hev2
    refine ⟨_, hev, Ev.congr (f := fun k => foolscapref15_Root.j0 k n false) (fun k => ?_) (Ev.step (fun k => ?_) hev2)⟩
    · unfold foolscapref15_Root.f
      rw [rFits_of, decide_eq_true (show FitsI n from ⟨c0, c1⟩)]
      simp only [Option.bind_some]
      rw [if_pos trivial, decide_eq_false (by omega)]
    · simp only [foolscapref15_Root.j0]
      rw [if_neg (by decide)]
  · refine ⟨_, root_no c, Ev.congr (f := fun k => foolscapref15_Root.j0 k n true) (fun k => ?_) (Ev.step (f := fun _ => some (0, 5)) (fun k => by simp only [foolscapref15_Root.j0]; rw [if_pos trivial]) (Ev.now _))⟩
    unfold foolscapref15_Root.f
    rw [rFits_of]
    simp only [Option.bind_some]
    by_cases d : FitsI n
    · rw [decide_eq_true d, if_pos rfl, decide_eq_true (show n < 0 by have : ¬ 0 ≤ n := fun q => c ⟨d, q⟩; omega)]
    · rw [decide_eq_false d, if_neg (by decide)]

theorem fact_both {n : Int} (n0 : 0 ≤ n) (n1 : n < 20000000) : ∀ (d : Nat) (p j : Int), j + d = 20 → 2 ≤ j → 0 < p → p ≤ 1000000000000 →
    ∃ r, Ev (fun k => maths_Fact.l0 k n p j) r ∧ Ev (fun k => foolscapref15_Fact.l0 k n p j) r
  | d, p, j, hd, h0, p0, p1 => by
    have hq : wrap64 (Int.tdiv n 1000000) = n / 1000000 := by rw [Int.tdiv_eq_ediv_of_nonneg n0, wr64 (by omega) (by omega)]
    have hb := mul_bound (a := p) (b := j) (A := 1000000000000) (B := 20) (by omega) (by omega) p1 (by omega)
    by_cases c : j ≤ n / 1000000
    · have hw : wrap64 (p * j) = p * j := wr64 (by omega) (by omega)
      by_cases g : p * j > 1000000000000
      · refine ⟨(0, 5), Ev.step (f := fun _ => some (0, 5)) (fun k => ?_) (Ev.now _), Ev.step (f := fun _ => some (0, 5)) (fun k => ?_) (Ev.now _)⟩
        · simp only [maths_Fact.l0]; rw [hq, if_pos c, hw, if_pos g]
        · simp only [foolscapref15_Fact.l0]; rw [hq, if_pos c, hw, if_pos g]
      · match d, hd with
        | 0, hd => exact absurd hd (by omega)
        | d + 1, hd =>
          obtain ⟨r, e1, e2⟩ := fact_both n0 n1 d (p * j) (j + 1) (by omega) (by omega) (Int.mul_pos p0 (by omega)) (by omega)
          have hj : wrap64 (j + 1) = j + 1 := wr64 (by omega) (by omega)
          exact ⟨r, Ev.step (fun k => by simp only [maths_Fact.l0]; rw [hq, if_pos c, hw, if_neg g, hj]) e1, Ev.step (fun k => by simp only [foolscapref15_Fact.l0]; rw [hq, if_pos c, hw, if_neg g, hj]) e2⟩
    · refine ⟨(wrap64 (p * 1000000), 0), Ev.step (f := fun _ => some (wrap64 (p * 1000000), 0)) (fun k => ?_) (Ev.now _), Ev.step (f := fun _ => some (wrap64 (p * 1000000), 0)) (fun k => ?_) (Ev.now _)⟩
      · simp only [maths_Fact.l0]; rw [hq, if_neg c]
      · simp only [foolscapref15_Fact.l0]; rw [hq, if_neg c]
theorem fact_far {n : Int} (n0 : 20000000 ≤ n) (n1 : n ≤ 1000000000000000000) : Ev (fun k => maths_Fact.l0 k n 1 2) (0, 5) := by
  have hq : wrap64 (Int.tdiv n 1000000) = n / 1000000 := by rw [Int.tdiv_eq_ediv_of_nonneg (by omega), wr64 (by omega) (by omega)]
  have st : ∀ p j q j' : Int, j ≤ 20 → q = p * j → j' = j + 1 → 0 ≤ q → q ≤ 1000000000000 → 0 ≤ j → Ev (fun k => maths_Fact.l0 k n q j') (0, 5) → Ev (fun k => maths_Fact.l0 k n p j) (0, 5) := by
    intro p j q j' j1 e1 e2 q0 q1 j0 h
    refine Ev.step (fun k => ?_) h
    simp only [maths_Fact.l0]
    rw [hq, if_pos (by omega), ← e1, wr64 (x := q) (by omega) (by omega), if_neg (by omega), wr64 (x := j + 1) (by omega) (by omega), e2]
  refine st 1 2 2 3 (by decide) (by decide) (by decide) (by decide) (by decide) (by decide) ?_
  refine st 2 3 6 4 (by decide) (by decide) (by decide) (by decide) (by decide) (by decide) ?_
  refine st 6 4 24 5 (by decide) (by decide) (by decide) (by decide) (by decide) (by decide) ?_
  refine st 24 5 120 6 (by decide) (by decide) (by decide) (by decide) (by decide) (by decide) ?_
  refine st 120 6 720 7 (by decide) (by decide) (by decide) (by decide) (by decide) (by decide) ?_
  refine st 720 7 5040 8 (by decide) (by decide) (by decide) (by decide) (by decide) (by decide) ?_
  refine st 5040 8 40320 9 (by decide) (by decide) (by decide) (by decide) (by decide) (by decide) ?_
  refine st 40320 9 362880 10 (by decide) (by decide) (by decide) (by decide) (by decide) (by decide) ?_
  refine st 362880 10 3628800 11 (by decide) (by decide) (by decide) (by decide) (by decide) (by decide) ?_
  refine st 3628800 11 39916800 12 (by decide) (by decide) (by decide) (by decide) (by decide) (by decide) ?_
  refine st 39916800 12 479001600 13 (by decide) (by decide) (by decide) (by decide) (by decide) (by decide) ?_
  refine st 479001600 13 6227020800 14 (by decide) (by decide) (by decide) (by decide) (by decide) (by decide) ?_
  refine st 6227020800 14 87178291200 15 (by decide) (by decide) (by decide) (by decide) (by decide) (by decide) ?_
  refine Ev.step (f := fun _ => some (0, 5)) (fun k => ?_) (Ev.now _)
  simp only [maths_Fact.l0]
  rw [hq, if_pos (by omega), if_pos (by rw [wr64 (by omega) (by omega)]; omega)]
/-- Both factorials are one. -/
theorem facts_same (n : Int) : ∃ r, Ev (fun k => maths_Fact.f k n) r ∧ Ev (fun k => foolscapref15_Fact.f k n) r := by
  have m0 : ∀ b, b = true → Ev (fun k => maths_Fact.j0 k n b) (0, 5) := fun b h => Ev.step (f := fun _ => some (0, 5)) (fun k => by simp only [maths_Fact.j0]; rw [if_pos h]) (Ev.now _)
  have r0 : ∀ b, b = true → Ev (fun k => foolscapref15_Fact.j0 k n b) (0, 5) := fun b h => Ev.step (f := fun _ => some (0, 5)) (fun k => by simp only [foolscapref15_Fact.j0]; rw [if_pos h]) (Ev.now _)
  by_cases c : FitsI n
  · have em : ∀ k, maths_Fact.f k n = maths_Fact.j0 k n (decide (n < 0)) := fun k => by unfold maths_Fact.f; rw [fits_of, decide_eq_true c]; rfl
    have er : ∀ k, foolscapref15_Fact.f k n = if n < 0 then foolscapref15_Fact.j0 k n true else foolscapref15_Fact.j0 k n (decide (n ≥ 20000000)) := fun k => by unfold foolscapref15_Fact.f; rw [rFits_of, decide_eq_true c]; rfl
    obtain ⟨c0, c1⟩ := c
    by_cases d : n < 0
    · exact ⟨(0, 5), Ev.congr em (m0 _ (decide_eq_true d)), Ev.congr er (Ev.congr (fun k => if_pos d) (r0 _ rfl))⟩
    rw [decide_eq_false d] at em
    by_cases g : n ≥ 20000000
    · refine ⟨(0, 5), Ev.congr em (Ev.step (fun k => ?_) (fact_far g c1)), Ev.congr er (Ev.congr (fun k => if_neg d) (r0 _ (decide_eq_true g)))⟩
      simp only [maths_Fact.j0]; rw [if_neg (by decide)]
    · obtain ⟨r, e1, e2⟩ := fact_both (n := n) (by omega) (by omega) 18 1 2 (by decide) (by decide) (by decide) (by decide)
      refine ⟨r, Ev.congr em (Ev.step (fun k => ?_) e1), Ev.congr er (Ev.congr (fun k => if_neg d) (Ev.step (fun k => ?_) e2))⟩
      · simp only [maths_Fact.j0]; rw [if_neg (by decide)]
      · simp only [foolscapref15_Fact.j0]; rw [if_neg (by simpa using g)]
  · refine ⟨(0, 5), Ev.congr (fun k => ?_) (m0 true rfl), Ev.congr (fun k => ?_) (r0 true rfl)⟩
    · unfold maths_Fact.f; rw [fits_of, decide_eq_false c]; rfl
    · unfold foolscapref15_Fact.f; rw [rFits_of, decide_eq_false c]; rfl
end Go.Proofs.Ytklkanaabmehkaa.Pure
