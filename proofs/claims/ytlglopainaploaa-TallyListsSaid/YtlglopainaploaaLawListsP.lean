/- What is told of a list, and of a tally of it: plain words. -/
import Derived.Test.YtlglopainaploaaLawTallP
import Derived.Test.YtlglopainaploaaTotV16
import Derived.Test.YtlglopainaploaaMed16
import Derived.Test.YtlglopainaploaaEnds16
namespace Go.Proofs.Ytlglopainaploaa.Tal
open Go.RowKit Go.Proofs.YtlglopainaploaaW.PrintWords Go.Proofs.YtlglopainaploaaW.PrintLast Go.Proofs.YtlglopainaploaaW.PrintMore
open Go.Proofs.Ytlglopainaploaa.PL Go.Proofs.Ytlglopainaploaa.Pure
set_option linter.unusedVariables false
set_option linter.unusedSimpArgs false

theorem sumI_sumL : ∀ l : List Int, sumI l = sumL l
  | [] => rfl
  | x :: xs => by simp only [sumI, sumL, sumI_sumL xs]
theorem cLe_split (l : List Int) (r : Int) : cLe l r = l.countP (fun y => decide (y < r)) + l.countP (fun y => decide (y = r)) := by
  unfold cLe
  induction l with
  | nil => rfl
  | cons a t ih =>
    rw [List.countP_cons, List.countP_cons, List.countP_cons, ih]
    by_cases h1 : a < r
    · rw [if_pos (by simpa using Int.le_of_lt h1), if_pos (by simpa using h1), if_neg (by simp; omega)]; omega
    · by_cases h2 : a = r
      · rw [if_pos (by simp; omega), if_neg (by simpa using h1), if_pos (by simpa using h2)]; omega
      · rw [if_neg (by simp; omega), if_neg (by simpa using h1), if_neg (by simpa using h2)]; omega
theorem kth_at {l : List Int} {k : Nat} (h : k < l.length) : KthIs l k (atA l k) := by
  have c := at_counts h
  refine ⟨at_mem h, c.1, ?_⟩
  rw [cLe_split]
  exact c.2
theorem endA_perm {l m : List Int} (p : l.Perm m) (i : Nat) : endA l i = endA m i := by unfold endA; rw [p.length_eq, atA_perm p]
theorem meanA_perm {l m : List Int} (p : l.Perm m) : meanA l = meanA m := by unfold meanA; rw [p.length_eq, sumL_perm p]
theorem sum_l {l : List Int} (g : GoodL l) : Ev (fun k => stats_Sum.f k l) (sumA l) := by
  have h := sum_of l
  unfold sumV at h
  unfold sumA
  rw [← sumI_sumL]
  by_cases c : FitsI (sumI l)
  · rw [if_pos ⟨g, c⟩] at h
    rw [if_pos (show -1000000000000000000 ≤ sumI l ∧ sumI l ≤ 1000000000000000000 from c)]
    exact h
  · rw [if_neg (fun q => c q.2)] at h
    rw [if_neg (show ¬ (-1000000000000000000 ≤ sumI l ∧ sumI l ≤ 1000000000000000000) from c)]
    exact h
theorem mean_l {l : List Int} (g : GoodL l) : Ev (fun k => stats_Mean.f k l) (meanA l) := by
  have h := mean_ofL l
  unfold meanL at h
  rw [if_pos g] at h
  unfold meanA
  rw [← sumI_sumL]
  by_cases c : l = []
  · rw [if_pos c] at h
    rw [if_pos (by rw [c]; rfl)]
    exact h
  · rw [if_neg c] at h
    rw [if_neg (fun q => c (List.length_eq_zero_iff.1 q))]
    exact h
theorem meanV_twice (x : Int) : meanV (x + x) 2 = x := by
  have h1 := meanV_le (v := x + x) (c := 2) (b := x) (by decide) (by omega)
  have h2 := meanV_ge (v := x + x) (c := 2) (b := x) (by decide) (by omega)
  omega
theorem median_l {l : List Int} (g : GoodL l) : Ev (fun k => stats_Median.f k l) (medA l) := by
  obtain ⟨r, hr, e⟩ := median_of l
  have hm : MedIs l (medA l) := by
    unfold medA
    by_cases c : l.length = 0
    · rw [if_pos c]
      exact .inl ⟨fun q => by omega, rfl⟩
    · rw [if_neg c]
      refine .inr ⟨g, by omega, atA l (l.length / 2), kth_at (by omega), ?_⟩
      unfold medI
      by_cases o : l.length % 2 = 1
      · left
        refine ⟨o, ?_⟩
        rw [show (l.length - 1) / 2 = l.length / 2 by omega, meanV_twice]
      · right
        refine ⟨by omega, atA l (l.length / 2 - 1), kth_at (by omega), ?_⟩
        rw [show (l.length - 1) / 2 = l.length / 2 - 1 by omega]
  rw [hm.one hr]
  exact e
theorem small_l {l : List Int} (g : GoodL l) (q : Int) : Ev (fun k => stats_Small.f k l q) (smallA l q) := by
  obtain ⟨r, hr, e⟩ := small_of l q
  have hm : SmallIs l q (smallA l q) := by
    unfold smallA
    by_cases c : q < 1 ∨ (l.length : Int) < q
    · rw [if_pos c]
      exact .inr ⟨fun z => by omega, rfl⟩
    · rw [if_neg c]
      exact .inl ⟨g, by omega, by omega, rfl, kth_at (by omega)⟩
  rw [hm.one hr]
  exact e
theorem least_nil : Ev (fun k => stats_Least.f k []) (0, 0) := Ev.of (fun k => stats_Least.mono _ k) (k := 20) (by decide +kernel)
theorem greatest_nil : Ev (fun k => stats_Greatest.f k []) (0, 0) := Ev.of (fun k => stats_Greatest.mono _ k) (k := 20) (by decide +kernel)
theorem least_l {l : List Int} (g : GoodL l) : Ev (fun k => stats_Least.f k l) (endA l 0) := by
  by_cases c : l = []
  · subst c
    exact least_nil
  · have hp : 0 < l.length := List.length_pos_iff.2 c
    obtain ⟨r, hr, e⟩ := least_of hp
    have hm : SmallIs l 1 (endA l 0) := by
      unfold endA
      rw [if_neg (by omega)]
      exact .inl ⟨g, by omega, by omega, rfl, kth_at hp⟩
    rw [hm.one hr]
    exact e
theorem greatest_l {l : List Int} (g : GoodL l) : Ev (fun k => stats_Greatest.f k l) (endA l (l.length - 1)) := by
  by_cases c : l = []
  · subst c
    exact greatest_nil
  · have hp : 0 < l.length := List.length_pos_iff.2 c
    obtain ⟨r, hr, e⟩ := greatest_of hp
    have hm : SmallIs l l.length (endA l (l.length - 1)) := by
      unfold endA
      rw [if_neg (by omega)]
      refine .inl ⟨g, by omega, by omega, rfl, ?_⟩
      rw [show ((l.length : Int) - 1).toNat = l.length - 1 by omega]
      exact kth_at (by omega)
    rw [hm.one hr]
    exact e
/-- A tally of numbers alone. -/
theorem nums_map : ∀ l : List Int, numsOf (l.map vNum) = l
  | [] => rfl
  | x :: xs => by
    simp only [List.map_cons, numsOf, nums_map xs]
    rw [if_pos trivial]
theorem nums_rev (l : List Int) : (numsOf (l.map vNum).reverse).Perm l := by
  have h := numsOf_perm (List.reverse_perm (l.map vNum))
  rw [nums_map] at h
  exact h
theorem fault_rev (l : List Int) : faultOf (l.map vNum).reverse = 0 := by
  have z : ∀ c, cnt (l.map vNum).reverse (vFault c) = 0 := fun c => by
    have := cnt_bd (l.map vNum).reverse (vFault c)
    by_cases q : 0 < cnt (l.map vNum).reverse (vFault c)
    · have m := cnt_pos.1 q
      rw [List.mem_reverse] at m
      obtain ⟨n, _, e⟩ := List.mem_map.1 m
      injection e with e _
      exact absurd e (by decide)
    · omega
  unfold faultOf
  rw [faultL_congr (g := fun _ => 0) 8 0 (fun c _ => z c)]
  rfl
theorem ask_rev (l : List Int) (r : Int × Int) : ask (l.map vNum).reverse r = r := if_pos (fault_rev l)
end Go.Proofs.Ytlglopainaploaa.Tal
