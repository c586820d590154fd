/- Sums and means of lists: what the printed functions tell. -/
import Derived.Test.YtlglopainaploaaPLx4
import Derived.Test.YtlglopainaploaaWideV16
import Derived.Test.YtlglopainaploaaGoodS16
set_option linter.unusedVariables false
set_option linter.unusedSimpArgs false
namespace Go.Proofs.Ytlglopainaploaa.Pure
open Go.RowKit Go.Proofs.Ytlglopainaploaa.PL Go.Proofs.YtlglopainaploaaW.PrintWords Go.Proofs.YtlglopainaploaaW.PrintLast Go.Proofs.YtlglopainaploaaW.PrintMore

def sumI : List Int → Int
  | [] => 0
  | x :: xs => x + sumI xs
theorem sumI_app (a b : List Int) : sumI (a ++ b) = sumI a + sumI b := by
  induction a with
  | nil => simp [sumI]
  | cons x xs ih => simp only [List.cons_append, sumI, ih]; omega
theorem sumI_perm {a b : List Int} (h : a.Perm b) : sumI a = sumI b := by
  induction h with
  | nil => rfl
  | cons x _ ih => simp only [sumI, ih]
  | swap x y l => simp only [sumI]; omega
  | trans _ _ h1 h2 => exact h1.trans h2
theorem sumI_bd {l : List Int} (h : ∀ x ∈ l, FitsI x) : -(1000000000000000000 * (l.length : Int)) ≤ sumI l ∧ sumI l ≤ 1000000000000000000 * (l.length : Int) := by
  induction l with
  | nil => simp [sumI]
  | cons x xs ih =>
    obtain ⟨h1, h2⟩ := ih (fun y hy => h y (List.mem_cons_of_mem _ hy))
    obtain ⟨f1, f2⟩ := h x List.mem_cons_self
    simp only [sumI, List.length_cons]
    omega
theorem total_l0 {l : List Int} (g : GoodL l) : ∀ (d i : Nat), i + d = l.length → Ev (fun k => stats_total.l0 k l (l.length : Int) i (sumI (l.take i) / 1000000000000000000) (sumI (l.take i) % 1000000000000000000)) (sumI l / 1000000000000000000, sumI l % 1000000000000000000) := by
  intro d
  have hin : ∀ i, inR (sumI (l.take i)) := fun i => by
    have h := sumI_bd (l := l.take i) (fun x hx => g.2 x (List.mem_of_mem_take hx))
    have h2 : (l.take i).length ≤ 4096 := by rw [List.length_take]; have := g.1; omega
    unfold inR; omega
  induction d with
  | zero =>
    intro i hi
    rw [List.take_of_length_le (by omega)]
    exact Ev.step (f := fun _ => some _) (fun k => by simp only [stats_total.l0]; rw [if_neg (by omega)]) (Ev.now _)
  | succ d ih =>
    intro i hi
    have w1 : wrap64 ((i : Int) + 1) = ((i + 1 : Nat) : Int) := by have := g.1; rw [wr64 (by omega) (by omega)]; omega
    have ht : sumI (l.take (i + 1)) = sumI (l.take i) + rd l i := by
      rw [List.take_add_one, List.getElem?_eq_getElem (by omega), sumI_app, rd_get l i (by omega)]
      simp [sumI]
    have ha := add_in (hin i) (n := rd l i) (g.2 _ (rd_mem (by omega) (by omega))) (by rw [← ht]; exact hin (i + 1))
    refine Ev.step (fun k => ?_) (ih (i + 1) (by omega))
    simp only [stats_total.l0]
    rw [if_pos (by omega), if_pos (by omega), if_pos (by omega), ha, w1, ht]
    rfl
theorem total_of_good {l : List Int} (g : GoodL l) : Ev (fun k => stats_total.f k l) (sumI l / 1000000000000000000, sumI l % 1000000000000000000) := by
  have h := total_l0 g l.length 0 (by omega)
  rw [List.take_zero] at h
  exact h
theorem sumI_in {l : List Int} (g : GoodL l) : inR (sumI l) := by
  have h := sumI_bd g.2
  have := g.1
  unfold inR; omega
def meanL (l : List Int) : Int × Int := if GoodL l then (if l = [] then (0, 1) else (meanV (sumI l) l.length, 0)) else (0, 5)
theorem mean_ofL (l : List Int) : Ev (fun k => stats_Mean.f k l) (meanL l) := by
  unfold meanL
  by_cases g : GoodL l
  · rw [if_pos g]
    refine Ev.bind (good_of l) (Ev.congr (fun k => if_pos (decide_eq_true g)) ?_)
    by_cases z : l = []
    · rw [if_pos z]
      exact Ev.congr (f := fun _ => some (0, 1)) (fun k => by rw [if_pos (by rw [z]; rfl)]) (Ev.now _)
    · rw [if_neg z]
      have hp : 0 < l.length := List.length_pos_iff.2 z
      have hm := mean_v (sumI_in g) (c := l.length) (by omega) (by have := g.1; omega)
      have hb := sumI_bd g.2
      have hr : rhe (absI (sumI l)) l.length ≤ 1000000000000000000 := rhe_le (by omega) (by unfold absI; split <;> omega) (absI_nonneg _)
      rw [if_neg (by omega)] at hm
      refine Ev.congr (fun k => if_neg (by omega)) (Ev.bind (total_of_good g) (Ev.bind (f := fun _ bt163 => some (bt163.1, (0 : Int))) hm (Ev.now _)))
  · rw [if_neg g]
    exact Ev.bind (good_of l) (Ev.congr (f := fun _ => some (0, 5)) (fun k => if_neg (by rw [decide_eq_false g]; decide)) (Ev.now _))
end Go.Proofs.Ytlglopainaploaa.Pure
