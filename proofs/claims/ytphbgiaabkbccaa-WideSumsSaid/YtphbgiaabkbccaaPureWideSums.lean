/- Any sum and any number, and any two sums, are added as the document says: the statement over numbers. -/
import Derived.Test.YtphbgiaabkbccaaPAllx8
import Derived.Test.YtphbgiaabkbccaaLives03
set_option linter.unusedVariables false
set_option linter.unusedSimpArgs false
namespace Go.Proofs.Ytphbgiaabkbccaa.Pure
open Go.RowKit Go.Proofs.Ytphbgiaabkbccaa.PAll Go.Proofs.YtphbgiaabkbccaaW.PrintWords Go.Proofs.YtphbgiaabkbccaaW.PrintLast Go.Proofs.YtphbgiaabkbccaaW.PrintMore

theorem refRight_of (h l : Int) : foolscapref03_Right.f h l = some (decide (WV h l)) := by
  unfold foolscapref03_Right.f
  by_cases c1 : l ≥ 0
  · rw [if_pos c1]
    by_cases c2 : l < 1000000000000000000
    · rw [if_pos c2]
      by_cases c3 : h ≥ -2147483648
      · rw [if_pos c3]
        congr 1
        exact decide_eq_decide.2 ⟨fun q => ⟨c1, c2, c3, q⟩, fun q => q.2.2.2⟩
      · rw [if_neg c3, decide_eq_false (show ¬ WV h l from fun q => c3 q.2.2.1)]
    · rw [if_neg c2, decide_eq_false (show ¬ WV h l from fun q => c2 q.2.1)]
  · rw [if_neg c1, decide_eq_false (show ¬ WV h l from fun q => c1 q.1)]
theorem refFits_of (n : Int) : foolscapref01_Fits.f n = some (decide (FitsI n)) := by
  unfold foolscapref01_Fits.f
  by_cases c : n ≥ -1000000000000000000
  · rw [if_pos c]
    congr 1
    exact decide_eq_decide.2 ⟨fun h => ⟨c, h⟩, fun h => h.2⟩
  · rw [if_neg c, decide_eq_false (show ¬ FitsI n from fun q => c q.1)]
theorem carry_up (h l : Int) : carry (h - 1) (l + 1000000000000000000) = carry h l := by
  unfold carry
  rw [show h - 1 + (l + 1000000000000000000) / 1000000000000000000 = h + l / 1000000000000000000 by omega, show (l + 1000000000000000000) % 1000000000000000000 = l % 1000000000000000000 by omega]
theorem carry_down (h l : Int) : carry (h + 1) (l - 1000000000000000000) = carry h l := by
  unfold carry
  rw [show h + 1 + (l - 1000000000000000000) / 1000000000000000000 = h + l / 1000000000000000000 by omega, show (l - 1000000000000000000) % 1000000000000000000 = l % 1000000000000000000 by omega]
theorem made_l1 (d : Nat) : ∀ h l : Int, -4294967300 ≤ h → h + d ≤ 4294967300 → 0 ≤ l → l < 1000000000000000000 * (d + 1) → l ≤ 4000000000000000000 →
    Ev (fun k => foolscapref03_made.l1 k h l) (carry h l) := by
  have stop : ∀ h l : Int, 0 ≤ l → l < 1000000000000000000 → Ev (fun k => foolscapref03_made.l1 k h l) (carry h l) := by
    intro h l l0 l1
    refine Ev.step (f := fun _ => some (carry h l)) (fun k => ?_) (Ev.now _)
    simp only [foolscapref03_made.l1]
    rw [if_neg (by omega), refRight_of]
    simp only [Option.bind_some]
    unfold carry
    rw [show h + l / 1000000000000000000 = h by omega, show l % 1000000000000000000 = l by omega]
    by_cases c : -2147483648 ≤ h ∧ h < 2147483648
    · rw [decide_eq_true (show WV h l from ⟨l0, l1, c.1, c.2⟩), if_pos rfl, if_pos c]
    · rw [decide_eq_false (show ¬ WV h l from fun q => c ⟨q.2.2.1, q.2.2.2⟩), if_neg (by decide), if_neg c]
  induction d with
  | zero => intro h l _ _ l0 l1 _; exact stop h l l0 (by omega)
  | succ d ih =>
    intro h l h0 h1 l0 l1 l2
    by_cases c : l ≥ 1000000000000000000
    · have := ih (h + 1) (l - 1000000000000000000) (by omega) (by omega) (by omega) (by omega) (by omega)
      rw [carry_down] at this
      refine Ev.step (fun k => ?_) this
      simp only [foolscapref03_made.l1]
      rw [if_pos c, wr64 (x := h + 1) (by omega) (by omega), wr64 (x := l - 1000000000000000000) (by omega) (by omega)]
    · exact stop h l l0 (by omega)
theorem made_l0 (d : Nat) : ∀ h l : Int, -4294967296 - 1 ≤ h - d → h ≤ 4294967296 → -1000000000000000000 * d ≤ l → -4000000000000000000 ≤ l → l ≤ 2000000000000000000 →
    Ev (fun k => foolscapref03_made.l0 k h l) (carry h l) := by
  have stop : ∀ h l : Int, -4294967300 ≤ h → h ≤ 4294967296 → 0 ≤ l → l ≤ 2000000000000000000 → Ev (fun k => foolscapref03_made.l0 k h l) (carry h l) := by
    intro h l h0 h1 l0 l1
    refine Ev.step (fun k => ?_) (made_l1 2 h l (by omega) (by omega) l0 (by omega) (by omega))
    simp only [foolscapref03_made.l0]
    rw [if_neg (by omega)]
  induction d with
  | zero => intro h l h0 h1 l0 _ l1; exact stop h l (by omega) h1 (by omega) l1
  | succ d ih =>
    intro h l h0 h1 l0 l2 l1
    by_cases c : l < 0
    · have := ih (h - 1) (l + 1000000000000000000) (by omega) (by omega) (by omega) (by omega) (by omega)
      rw [carry_up] at this
      refine Ev.step (fun k => ?_) this
      simp only [foolscapref03_made.l0]
      rw [if_pos c, wr64 (x := h - 1) (by omega) (by omega), wr64 (x := l + 1000000000000000000) (by omega) (by omega)]
    · exact stop h l (by omega) h1 (by omega) l1
theorem made_of (h l : Int) (h0 : -4294967295 ≤ h) (h1 : h ≤ 4294967296) (l0 : -2000000000000000000 ≤ l) (l1 : l ≤ 2000000000000000000) :
    Ev (fun k => foolscapref03_made.f k h l) (carry h l) := made_l0 2 h l (by omega) h1 (by omega) (by omega) l1

theorem refAdd_of (h l n : Int) : Ev (fun k => foolscapref03_Add.f k h l n) (if WV h l ∧ FitsI n then carry h (l + n) else (0, 0, 2)) := by
  by_cases c : WV h l
  · by_cases d : FitsI n
    · rw [if_pos ⟨c, d⟩]
      refine Ev.congr (fun k => ?_) (Ev.bind (f := fun _ bt => some (bt.1, bt.2.1, bt.2.2)) (made_of h (l + n) (by obtain ⟨_, _, _, _⟩ := c; omega) (by obtain ⟨_, _, _, _⟩ := c; omega) (by obtain ⟨_, _, _, _⟩ := c; obtain ⟨_, _⟩ := d; omega) (by obtain ⟨_, _, _, _⟩ := c; obtain ⟨_, _⟩ := d; omega)) (Ev.now _))
      unfold foolscapref03_Add.f
      rw [refRight_of, refFits_of, decide_eq_true c, decide_eq_true d, wr64 (by obtain ⟨_, _, _, _⟩ := c; obtain ⟨_, _⟩ := d; omega) (by obtain ⟨_, _, _, _⟩ := c; obtain ⟨_, _⟩ := d; omega)]
      rfl
    · rw [if_neg (fun q => d q.2)]
      refine Ev.congr (fun k => ?_) (Ev.now _)
      unfold foolscapref03_Add.f
      rw [refRight_of, refFits_of, decide_eq_true c, decide_eq_false d]; rfl
  · rw [if_neg (fun q => c q.1)]
    refine Ev.congr (fun k => ?_) (Ev.now _)
    unfold foolscapref03_Add.f
    rw [refRight_of, decide_eq_false c]; rfl
theorem refSub_of (h l n : Int) : Ev (fun k => foolscapref03_Sub.f k h l n) (if WV h l ∧ FitsI n then carry h (l - n) else (0, 0, 2)) := by
  by_cases c : WV h l
  · by_cases d : FitsI n
    · rw [if_pos ⟨c, d⟩]
      refine Ev.congr (fun k => ?_) (Ev.bind (f := fun _ bt => some (bt.1, bt.2.1, bt.2.2)) (made_of h (l - n) (by obtain ⟨_, _, _, _⟩ := c; omega) (by obtain ⟨_, _, _, _⟩ := c; omega) (by obtain ⟨_, _, _, _⟩ := c; obtain ⟨_, _⟩ := d; omega) (by obtain ⟨_, _, _, _⟩ := c; obtain ⟨_, _⟩ := d; omega)) (Ev.now _))
      unfold foolscapref03_Sub.f
      rw [refRight_of, refFits_of, decide_eq_true c, decide_eq_true d, wr64 (by obtain ⟨_, _, _, _⟩ := c; obtain ⟨_, _⟩ := d; omega) (by obtain ⟨_, _, _, _⟩ := c; obtain ⟨_, _⟩ := d; omega)]
      rfl
    · rw [if_neg (fun q => d q.2)]
      refine Ev.congr (fun k => ?_) (Ev.now _)
      unfold foolscapref03_Sub.f
      rw [refRight_of, refFits_of, decide_eq_true c, decide_eq_false d]; rfl
  · rw [if_neg (fun q => c q.1)]
    refine Ev.congr (fun k => ?_) (Ev.now _)
    unfold foolscapref03_Sub.f
    rw [refRight_of, decide_eq_false c]; rfl
theorem join_of (h l h' l' : Int) : wide_Join.f h l h' l' = some (if WV h l ∧ WV h' l' then carry (h + h') (l + l') else (0, 0, 2)) := by
  unfold wide_Join.f
  rw [check_of, check_of]
  simp only [Option.bind_some]
  by_cases c : WV h l
  · by_cases d : WV h' l'
    · rw [if_pos c, if_pos rfl, if_pos d, if_pos rfl, if_pos (show WV h l ∧ WV h' l' from ⟨c, d⟩)]
      obtain ⟨_, _, _, _⟩ := c; obtain ⟨_, _, _, _⟩ := d
      rw [wr64 (x := h + h') (by omega) (by omega), wr64 (x := l + l') (by omega) (by omega), carried_of _ _ (by omega) (by omega) (by omega) (by omega)]
      rfl
    · rw [if_pos c, if_pos rfl, if_neg d, if_neg (by decide), if_neg (fun q => d q.2)]
  · rw [if_neg c, if_neg (by decide), if_neg (fun q => c q.1)]
theorem refJoin_of (h l h' l' : Int) : Ev (fun k => foolscapref03_Join.f k h l h' l') (if WV h l ∧ WV h' l' then carry (h + h') (l + l') else (0, 0, 2)) := by
  by_cases c : WV h l
  · by_cases d : WV h' l'
    · rw [if_pos ⟨c, d⟩]
      have hb : -4294967295 - 1 ≤ h + h' ∧ h + h' ≤ 4294967296 ∧ 0 ≤ l + l' ∧ l + l' ≤ 2000000000000000000 := by
        obtain ⟨_, _, _, _⟩ := c; obtain ⟨_, _, _, _⟩ := d; omega
      refine Ev.congr (fun k => ?_) (Ev.bind (f := fun _ bt => some (bt.1, bt.2.1, bt.2.2)) (made_l0 0 (h + h') (l + l') (by omega) (by omega) (by omega) (by omega) (by omega)) (Ev.now _))
      unfold foolscapref03_Join.f
      rw [refRight_of, refRight_of, decide_eq_true c, decide_eq_true d, wr64 (x := h + h') (by omega) (by omega), wr64 (x := l + l') (by omega) (by omega)]
      rfl
    · rw [if_neg (fun q => d q.2)]
      refine Ev.congr (fun k => ?_) (Ev.now _)
      unfold foolscapref03_Join.f
      rw [refRight_of, refRight_of, decide_eq_true c, decide_eq_false d]; rfl
  · rw [if_neg (fun q => c q.1)]
    refine Ev.congr (fun k => ?_) (Ev.now _)
    unfold foolscapref03_Join.f
    rw [refRight_of, decide_eq_false c]; rfl
theorem refCheck_of (h l : Int) : foolscapref03_Check.f h l = some (if WV h l then 0 else 2) := by
  unfold foolscapref03_Check.f
  rw [refRight_of]
  simp only [Option.bind_some]
  by_cases c : WV h l
  · rw [decide_eq_true c, if_pos rfl, if_pos c]
  · rw [decide_eq_false c, if_neg (by decide), if_neg c]

theorem WideSums : foolscaplaw03_WideSums.Pure := by
  intro h l n h' l' _ _ _ _ _
  refine Ev.rounds (g := fun k => foolscaplaw03_WideSums.f k h l n h' l') ?_
  unfold foolscaplaw03_WideSums.f
  rw [add_of, sub_of, join_of, check_of, refCheck_of]
  simp only [Option.bind_some]
  refine Ev.bind (refAdd_of h l n) (Ev.bind (refSub_of h l n) (Ev.bind (refJoin_of h l h' l') (Ev.congr (fun k => ?_) ends)))
  simp
end Go.Proofs.Ytphbgiaabkbccaa.Pure
