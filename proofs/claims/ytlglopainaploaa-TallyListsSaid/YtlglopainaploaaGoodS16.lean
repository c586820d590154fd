/- Which lists are taken; the k-th smallest: what the printed functions tell. -/
import Derived.Test.YtlglopainaploaaPLx6
import Derived.Test.YtlglopainaploaaPLx3
import Derived.Test.YtlglopainaploaaBase
import Derived.Test.YtlglopainaploaaKth
set_option linter.unusedVariables false
set_option linter.unusedSimpArgs false
namespace Go.Proofs.Ytlglopainaploaa.Pure
open Go.RowKit Go.Proofs.Ytlglopainaploaa.PL Go.Proofs.YtlglopainaploaaW.PrintWords Go.Proofs.YtlglopainaploaaW.PrintLast Go.Proofs.YtlglopainaploaaW.PrintMore

def GoodL (l : List Int) : Prop := l.length ≤ 4096 ∧ ∀ x ∈ l, FitsI x
instance (l : List Int) : Decidable (GoodL l) := inferInstanceAs (Decidable (_ ∧ _))
theorem all_rd {l : List Int} : (∀ x ∈ l, FitsI x) ↔ ∀ j : Nat, j < l.length → FitsI (rd l j) :=
  ⟨fun h j hj => h _ (rd_mem (by omega) (by omega)), fun h x hx => by
    obtain ⟨j, hj, rfl⟩ := List.mem_iff_getElem.1 hx
    have := h j hj
    rwa [rd_get l j hj] at this⟩
theorem index_of {l : List Int} (hl : (l.length : Int) < 17592186044416) : ∀ (d i : Nat), i + d = l.length → ∃ v : Int, Ev (fun k => slices_IndexFunc_int_int.l0 k l (l.length : Int) i) v ∧ (v ≥ 0 ↔ ∃ j : Nat, i ≤ j ∧ j < l.length ∧ ¬ FitsI (rd l j)) := by
  intro d
  induction d with
  | zero =>
    intro i hi
    refine ⟨-1, Ev.step (f := fun _ => some (-1)) (fun k => by simp only [slices_IndexFunc_int_int.l0]; rw [if_neg (by omega)]) (Ev.now _), ⟨fun h => absurd h (by decide), ?_⟩⟩
    rintro ⟨j, h1, h2, _⟩; omega
  | succ d ih =>
    intro i hi
    have hg : stats_good_1.f (rd l i) = some (!decide (FitsI (rd l i))) := by unfold stats_good_1.f; rw [fits_of]; rfl
    by_cases c : FitsI (rd l i)
    · obtain ⟨v, e, hv⟩ := ih (i + 1) (by omega)
      refine ⟨v, Ev.step (fun k => ?_) e, ?_⟩
      · simp only [slices_IndexFunc_int_int.l0]
        rw [if_pos (by omega), if_pos (by omega), if_pos (by omega), hg, decide_eq_true c]
        simp only [Option.bind_some]
        rw [if_neg (by decide), wr64 (x := (i : Int) + 1) (by omega) (by omega)]; rfl
      · rw [hv]
        constructor
        · rintro ⟨j, h1, h2, h3⟩; exact ⟨j, by omega, h2, h3⟩
        · rintro ⟨j, h1, h2, h3⟩
          have : j ≠ i := by rintro rfl; exact h3 c
          exact ⟨j, by omega, h2, h3⟩
    · refine ⟨i, Ev.step (f := fun _ => some (i : Int)) (fun k => ?_) (Ev.now _), ⟨fun _ => ⟨i, Nat.le_refl _, by omega, c⟩, fun _ => by omega⟩⟩
      simp only [slices_IndexFunc_int_int.l0]
      rw [if_pos (by omega), if_pos (by omega), if_pos (by omega), hg, decide_eq_false c]
      simp only [Option.bind_some]
      rw [if_pos (by decide)]
theorem good_of (l : List Int) : Ev (fun k => stats_good.f k l) (decide (GoodL l)) := by
  unfold stats_good.f
  by_cases c : l.length ≤ 4096
  · obtain ⟨v, e, hv⟩ := index_of (l := l) (by omega) l.length 0 (by omega)
    refine Ev.congr (fun k => if_pos (by omega)) ?_
    have e1 : Ev (fun k => slices_ContainsFunc_int_int.f k l) (decide (v ≥ 0)) := Ev.bind (f := fun _ t => some (decide (t ≥ 0))) e (Ev.now _)
    refine Ev.bind (f := fun _ t => some (!t)) e1 (Ev.congr (f := fun _ => some (decide (GoodL l))) (fun k => ?_) (Ev.now _))
    congr 1
    have : (v ≥ 0) ↔ ¬ GoodL l := by
      rw [hv]
      unfold GoodL
      rw [all_rd]
      constructor
      · rintro ⟨j, _, h2, h3⟩ h; exact h3 (h.2 j h2)
      · intro h
        exact Classical.byContradiction fun q => h ⟨c, fun j hj => Classical.byContradiction fun q2 => q ⟨j, Nat.zero_le _, hj, q2⟩⟩
    by_cases g : GoodL l
    · rw [decide_eq_true g, decide_eq_false (fun q => this.1 q g)]; rfl
    · rw [decide_eq_false g, decide_eq_true (this.2 g)]; rfl
  · rw [decide_eq_false (show ¬ GoodL l from fun q => c q.1)]
    exact Ev.congr (f := fun _ => some false) (fun k => if_neg (by omega)) (Ev.now _)
/-- What the k-th smallest is. -/
def SmallIs (l : List Int) (q : Int) (r : Int × Int) : Prop := (GoodL l ∧ 1 ≤ q ∧ q ≤ l.length ∧ r.2 = 0 ∧ KthIs l (q - 1).toNat r.1) ∨ (¬ (GoodL l ∧ 1 ≤ q ∧ q ≤ l.length) ∧ r = (0, 5))
theorem SmallIs.one {l : List Int} {q : Int} {r s : Int × Int} (hr : SmallIs l q r) (hs : SmallIs l q s) : r = s := by
  rcases hr with ⟨a, b, c, d, e⟩ | ⟨a, b⟩
  · rcases hs with ⟨_, _, _, d', e'⟩ | ⟨a', _⟩
    · exact Prod.ext (e.one e') (d.trans d'.symm)
    · exact absurd ⟨a, b, c⟩ a'
  · rcases hs with ⟨a', b', c', _, _⟩ | ⟨_, b'⟩
    · exact absurd ⟨a', b', c'⟩ a
    · rw [b, b']
theorem small_of (l : List Int) (q : Int) : ∃ r, SmallIs l q r ∧ Ev (fun k => stats_Small.f k l q) r := by
  have bad : Ev (fun k => stats_Small.j0 k l q true) (0, 5) := Ev.step (f := fun _ => some (0, 5)) (fun k => by simp only [stats_Small.j0]; rw [if_pos trivial]) (Ev.now _)
  by_cases c : GoodL l ∧ 1 ≤ q ∧ q ≤ l.length
  · have hl : (l.length : Int) < 17592186044416 := by have := c.1.1; omega
    obtain ⟨r, z, e, hk, _⟩ := kth_of l.length l (q - 1).toNat (Nat.le_refl _) (by omega) hl
    refine ⟨(r, 0), .inl ⟨c.1, c.2.1, c.2.2, rfl, hk⟩, ?_⟩
    refine Ev.bind (good_of l) (Ev.congr (f := fun k => stats_Small.j0 k l q false) (fun k => ?_) ?_)
    · rw [decide_eq_true c.1, if_pos rfl, if_neg (by omega), decide_eq_false (by omega)]
    · refine Ev.step (f := fun k => (stats_kth_int.f k l (q - 1)).bind fun bt120 => some (bt120.1, 0)) (fun k => ?_) ?_
      · simp only [stats_Small.j0]
        rw [if_neg (by decide)]
        unfold slices_Clone_int_int.f
        rw [if_pos (by omega)]
        simp only [Option.bind_some]
        rw [wr64 (x := q - 1) (by omega) (by omega)]
      · rw [show (((q - 1).toNat : Nat) : Int) = q - 1 by omega] at e
        exact Ev.bind (f := fun _ bt120 => some (bt120.1, (0 : Int))) e (Ev.now (r, (0 : Int)))
  · refine ⟨(0, 5), .inr ⟨c, rfl⟩, Ev.bind (good_of l) ?_⟩
    by_cases g : GoodL l
    · refine Ev.congr (fun k => if_pos (decide_eq_true g)) ?_
      by_cases c1 : q < 1
      · exact Ev.congr (fun k => if_pos c1) bad
      · refine Ev.congr (fun k => if_neg c1) ?_
        rw [decide_eq_true (show q > (l.length : Int) by have : ¬ q ≤ l.length := fun b => c ⟨g, by omega, b⟩; omega)]
        exact bad
    · exact Ev.congr (fun k => if_neg (by rw [decide_eq_false g]; decide)) bad
end Go.Proofs.Ytlglopainaploaa.Pure
