/- The least and the greatest of numbers: what the printed functions tell. -/
import Derived.Test.YtlglopainaploaaPLx6
import Derived.Test.YtlglopainaploaaPLx6
import Derived.Test.YtlglopainaploaaGoodS16
set_option linter.unusedVariables false
set_option linter.unusedSimpArgs false
namespace Go.Proofs.Ytlglopainaploaa.Pure
open Go.RowKit Go.Proofs.Ytlglopainaploaa.PL Go.Proofs.YtlglopainaploaaW.PrintWords Go.Proofs.YtlglopainaploaaW.PrintLast Go.Proofs.YtlglopainaploaaW.PrintMore

theorem mn_cases (a b : Int) : (mn a b = a ∨ mn a b = b) ∧ mn a b ≤ a ∧ mn a b ≤ b := by unfold mn; split <;> omega
theorem mx_cases (a b : Int) : (mx a b = a ∨ mx a b = b) ∧ a ≤ mx a b ∧ b ≤ mx a b := by unfold mx; split <;> omega
theorem min_l0 {l : List Int} (hl : (l.length : Int) < 17592186044416) : ∀ (d i : Nat) (m : Int), i + d = l.length → m ∈ l → (∀ j : Nat, j < i → m ≤ rd l j) →
    ∃ r, Ev (fun k => slices_Min_int_int.l0 k l m i) r ∧ r ∈ l ∧ ∀ j : Nat, j < l.length → r ≤ rd l j := by
  intro d
  induction d with
  | zero =>
    intro i m hi h1 h2
    exact ⟨m, Ev.step (f := fun _ => some m) (fun k => by simp only [slices_Min_int_int.l0]; rw [if_neg (by omega)]) (Ev.now _), h1, fun j hj => h2 j (by omega)⟩
  | succ d ih =>
    intro i m hi h1 h2
    have w1 : wrap64 ((i : Int) + 1) = ((i + 1 : Nat) : Int) := by rw [wr64 (by omega) (by omega)]; omega
    obtain ⟨hc, ha, hb⟩ := mn_cases m (rd l i)
    obtain ⟨r, e, hr⟩ := ih (i + 1) (mn m (rd l i)) (by omega) (by
      rcases hc with hc | hc
      · rw [hc]; exact h1
      · rw [hc]; exact rd_mem (by omega) (by omega)) (fun j hj => by
      by_cases e : j = i
      · subst e; exact hb
      · have := h2 j (by omega); omega)
    exact ⟨r, Ev.step (fun k => by simp only [slices_Min_int_int.l0]; rw [if_pos (by omega), if_pos (by omega), w1]) e, hr⟩
theorem max_l0 {l : List Int} (hl : (l.length : Int) < 17592186044416) : ∀ (d i : Nat) (m : Int), i + d = l.length → m ∈ l → (∀ j : Nat, j < i → rd l j ≤ m) →
    ∃ r, Ev (fun k => slices_Max_int_int.l0 k l m i) r ∧ r ∈ l ∧ ∀ j : Nat, j < l.length → rd l j ≤ r := by
  intro d
  induction d with
  | zero =>
    intro i m hi h1 h2
    exact ⟨m, Ev.step (f := fun _ => some m) (fun k => by simp only [slices_Max_int_int.l0]; rw [if_neg (by omega)]) (Ev.now _), h1, fun j hj => h2 j (by omega)⟩
  | succ d ih =>
    intro i m hi h1 h2
    have w1 : wrap64 ((i : Int) + 1) = ((i + 1 : Nat) : Int) := by rw [wr64 (by omega) (by omega)]; omega
    obtain ⟨hc, ha, hb⟩ := mx_cases m (rd l i)
    obtain ⟨r, e, hr⟩ := ih (i + 1) (mx m (rd l i)) (by omega) (by
      rcases hc with hc | hc
      · rw [hc]; exact h1
      · rw [hc]; exact rd_mem (by omega) (by omega)) (fun j hj => by
      by_cases e : j = i
      · subst e; exact hb
      · have := h2 j (by omega); omega)
    exact ⟨r, Ev.step (fun k => by simp only [slices_Max_int_int.l0]; rw [if_pos (by omega), if_pos (by omega), w1]) e, hr⟩
theorem all_of_rd {l : List Int} {p : Int → Prop} (h : ∀ j : Nat, j < l.length → p (rd l j)) : ∀ x ∈ l, p x := fun x hx => by
  obtain ⟨j, hj, rfl⟩ := List.mem_iff_getElem.1 hx
  have := h j hj
  rwa [rd_get l j hj] at this
theorem least_of {l : List Int} (h0 : 0 < l.length) : ∃ r, SmallIs l 1 r ∧ Ev (fun k => stats_Least.f k l) r := by
  by_cases g : GoodL l
  · have hl : (l.length : Int) < 17592186044416 := by have := g.1; omega
    have hfirst : rd l ((0 : Nat) : Int) = rd l 0 := rfl
    obtain ⟨r, e, h1, h2⟩ := min_l0 hl (l.length - 1) 1 (rd l 0) (by omega) (rd_mem (by omega) (by omega)) (fun j hj => by rw [show j = 0 by omega]; exact Int.le_refl _)
    have h3 := all_of_rd (p := fun x => r ≤ x) h2
    refine ⟨(r, 0), .inl ⟨g, by omega, by omega, rfl, h1, ?_, ?_⟩, ?_⟩
    · rw [cLt_none h3]; omega
    · exact List.countP_pos_iff.2 ⟨r, h1, by simp⟩
    · refine Ev.bind (good_of l) (Ev.congr (f := fun k => (slices_Min_int_int.f k l).bind fun t283 => some (t283, (0 : Int))) (fun k => ?_) (Ev.bind (f := fun _ t283 => some (t283, (0 : Int))) (Ev.congr (fun k => ?_) e) (Ev.now _)))
      · rw [if_pos (decide_eq_true g), if_neg (by omega)]
      · unfold slices_Min_int_int.f; rw [if_neg (by omega), if_pos (by omega)]; rfl
  · exact ⟨(0, 5), .inr ⟨fun h => g h.1, rfl⟩, Ev.bind (good_of l) (Ev.congr (f := fun _ => some (0, 5)) (fun k => if_neg (by rw [decide_eq_false g]; decide)) (Ev.now _))⟩
theorem greatest_of {l : List Int} (h0 : 0 < l.length) : ∃ r, SmallIs l l.length r ∧ Ev (fun k => stats_Greatest.f k l) r := by
  by_cases g : GoodL l
  · have hl : (l.length : Int) < 17592186044416 := by have := g.1; omega
    have hfirst : rd l ((0 : Nat) : Int) = rd l 0 := rfl
    obtain ⟨r, e, h1, h2⟩ := max_l0 hl (l.length - 1) 1 (rd l 0) (by omega) (rd_mem (by omega) (by omega)) (fun j hj => by rw [show j = 0 by omega]; exact Int.le_refl _)
    have h3 := all_of_rd (p := fun x => x ≤ r) h2
    refine ⟨(r, 0), .inl ⟨g, by omega, by omega, rfl, h1, ?_, ?_⟩, ?_⟩
    · have h4 : cLt l r ≤ l.length := List.countP_le_length
      have h5 : cLt l r ≠ l.length := fun q => by
        have := List.countP_eq_length.1 q r h1
        simp at this
      show cLt l r ≤ _
      omega
    · rw [cLe_all h3]; omega
    · refine Ev.bind (good_of l) (Ev.congr (f := fun k => (slices_Max_int_int.f k l).bind fun t283 => some (t283, (0 : Int))) (fun k => ?_) (Ev.bind (f := fun _ t283 => some (t283, (0 : Int))) (Ev.congr (fun k => ?_) e) (Ev.now _)))
      · rw [if_pos (decide_eq_true g), if_neg (by omega)]
      · unfold slices_Max_int_int.f; rw [if_neg (by omega), if_pos (by omega)]; rfl
  · exact ⟨(0, 5), .inr ⟨fun h => g h.1, rfl⟩, Ev.bind (good_of l) (Ev.congr (f := fun _ => some (0, 5)) (fun k => if_neg (by rw [decide_eq_false g]; decide)) (Ev.now _))⟩
end Go.Proofs.Ytlglopainaploaa.Pure
