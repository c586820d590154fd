/- Sum, mean, midst and places do not hang on the order of the numbers: the statement over numbers. -/
import Derived.Test.YtagohdalabhheaaPCx8
import Derived.Test.YtagohdalabhheaaMed16
import Derived.Test.YtagohdalabhheaaLives16
set_option linter.unusedVariables false
set_option linter.unusedSimpArgs false
namespace Go.Proofs.Ytagohdalabhheaa.Pure
open Go.RowKit Go.Proofs.Ytagohdalabhheaa.PC Go.Proofs.YtagohdalabhheaaW.PrintWords Go.Proofs.YtagohdalabhheaaW.PrintLast Go.Proofs.YtagohdalabhheaaW.PrintMore

theorem place_of (x : Int) {n : Nat} (h : 0 < n) (h2 : n ≤ 2000) : ∃ p : Int, wrap64 (Int.tmod (IntKind.u64.wrap x) (IntKind.u64.wrap (n : Int))) = p ∧ 0 ≤ p ∧ p < n := by
  have hu : IntKind.u64.wrap x = x % 18446744073709551616 := rfl
  have h0 : 0 ≤ x % 18446744073709551616 := Int.emod_nonneg _ (by decide)
  have r0 := Int.emod_nonneg (x % 18446744073709551616) (b := (n : Int)) (by omega)
  have r1 := Int.emod_lt_of_pos (x % 18446744073709551616) (b := (n : Int)) (by omega)
  refine ⟨_, rfl, ?_⟩
  rw [hu, w64 (x := (n : Int)) (by omega) (by omega), Int.tmod_eq_emod_of_nonneg h0, wr64 (by omega) (by omega)]
  exact ⟨r0, r1⟩
theorem turned_l0 {l : List Int} (hl : l.length ≤ 2000) (a b : Int) : ∀ (d : Nat), d ≤ l.length → ∃ m, m.Perm l ∧ Ev (fun k => foolscaplaw16_turned.l0 k l a b (l.drop d).reverse ((d : Int) - 1)) m := by
  intro d
  induction d with
  | zero =>
    intro _
    rw [List.drop_zero]
    have hp : l.reverse.Perm l := List.reverse_perm l
    by_cases z : l.length = 0
    · refine ⟨l.reverse, hp, Ev.step (f := fun _ => some l.reverse) (fun k => ?_) (Ev.now _)⟩
      simp only [foolscaplaw16_turned.l0]
      rw [if_neg (by omega), if_neg (by omega)]
    · obtain ⟨p, e1, p0, p1⟩ := place_of a (n := l.length) (by omega) hl
      obtain ⟨q, e2, q0, q1⟩ := place_of b (n := l.length) (by omega) hl
      have hr : (l.reverse.length : Int) = l.length := by rw [List.length_reverse]
      refine ⟨_, (swap_perm' l.reverse (i := p) (j := q) p0 (by omega) q0 (by omega)).trans hp, Ev.step (f := fun _ => some _) (fun k => ?_) (Ev.now _)⟩
      simp only [foolscaplaw16_turned.l0]
      rw [if_neg (by omega), if_pos (by omega), if_neg (by rw [w64 (by omega) (by omega)]; omega), e1, e2, if_pos q0, if_pos (by omega), if_pos p0, if_pos (by omega)]
  | succ d ih =>
    intro hd
    obtain ⟨m, hm, e⟩ := ih (by omega)
    refine ⟨m, hm, Ev.step (fun k => ?_) e⟩
    have hlen : (l.drop (d + 1)).reverse.length ≤ 2000 := by rw [List.length_reverse, List.length_drop]; omega
    have hr : (l.drop d).reverse = (l.drop (d + 1)).reverse ++ [rd l d] := by
      rw [List.drop_eq_getElem_cons (by omega), List.reverse_cons, rd_get l d (by omega)]
    simp only [foolscaplaw16_turned.l0]
    rw [show ((d + 1 : Nat) : Int) - 1 = (d : Int) by omega, if_pos (by omega), if_pos (by omega), if_pos (by omega), if_pos (by omega), hr, wr64 (x := (d : Int) - 1) (by omega) (by omega)]
theorem turned_of {l : List Int} (hl : l.length ≤ 2000) (a b : Int) : ∃ m, m.Perm l ∧ Ev (fun k => foolscaplaw16_turned.f k l a b) m := by
  obtain ⟨m, hm, e⟩ := turned_l0 hl a b l.length (Nat.le_refl _)
  refine ⟨m, hm, Ev.congr (fun k => ?_) e⟩
  unfold foolscaplaw16_turned.f
  rw [List.drop_length, wr64 (by omega) (by omega)]; rfl
theorem SmallIs.perm {l m : List Int} {q : Int} {r : Int × Int} (h : l.Perm m) (hr : SmallIs l q r) : SmallIs m q r := by
  unfold SmallIs at hr ⊢
  rw [← good_perm h, ← h.length_eq]
  rcases hr with ⟨a, b, c, d, e⟩ | q
  · exact .inl ⟨a, b, c, d, e.perm h⟩
  · exact .inr q
theorem sumV_perm {l m : List Int} (h : l.Perm m) : sumV m = sumV l := by
  have hd : (GoodL m ∧ FitsI (sumI m)) ↔ (GoodL l ∧ FitsI (sumI l)) := by rw [good_perm h, sumI_perm h]
  unfold sumV
  by_cases c : GoodL l ∧ FitsI (sumI l)
  · rw [if_pos c, if_pos (hd.2 c), sumI_perm h]
  · rw [if_neg c, if_neg (fun q => c (hd.1 q))]
theorem meanL_perm {l m : List Int} (h : l.Perm m) : meanL m = meanL l := by
  have hz : m = [] ↔ l = [] := by rw [← List.length_eq_zero_iff, ← List.length_eq_zero_iff, h.length_eq]
  unfold meanL
  by_cases g : GoodL l
  · rw [if_pos g, if_pos ((good_perm h).1 g)]
    by_cases z : l = []
    · rw [if_pos z, if_pos (hz.2 z)]
    · rw [if_neg z, if_neg (fun q => z (hz.1 q)), sumI_perm h, h.length_eq]
  · rw [if_neg g, if_neg (fun q => g ((good_perm h).2 q))]
theorem StatsOrder : foolscaplaw16_StatsOrder.Pure := by
  intro l a b q _ _ _ _ _ _
  refine Ev.rounds (g := fun k => foolscaplaw16_StatsOrder.f k l a b q) ?_
  unfold foolscaplaw16_StatsOrder.f
  by_cases g : (l.length : Int) > 2000
  · exact Ev.congr (fun k => if_pos g) ends
  refine Ev.congr (fun k => if_neg g) ?_
  obtain ⟨m, hp, em⟩ := turned_of (l := l) (by omega) a b
  obtain ⟨d, hd, ed⟩ := median_of l
  obtain ⟨d', hd', ed'⟩ := median_of m
  obtain ⟨s, hs, es⟩ := small_of l q
  obtain ⟨s', hs', es'⟩ := small_of m q
  rw [(hd'.perm hp).one hd] at ed'
  rw [(hs'.perm hp).one hs] at es'
  have e1 := sum_of m
  rw [sumV_perm hp.symm] at e1
  have e2 := mean_ofL m
  rw [meanL_perm hp.symm] at e2
  refine Ev.bind em (Ev.bind (sum_of l) (Ev.bind e1 (Ev.bind (mean_ofL l) (Ev.bind e2 (Ev.bind ed (Ev.bind ed' (Ev.bind es (Ev.bind es' (Ev.congr (fun k => ?_) ends)))))))))
  rw [if_pos rfl, if_pos rfl, if_pos rfl, if_pos rfl, if_pos rfl, if_pos rfl, if_pos rfl, if_pos rfl]
end Go.Proofs.Ytagohdalabhheaa.Pure
