/- The k-th from either end, and a number's place: the statement over numbers. -/
import Derived.Test.YtagohdalabhheaaPAx9
import Derived.Test.YtagohdalabhheaaGood16
import Derived.Test.YtagohdalabhheaaLives16
set_option linter.unusedVariables false
set_option linter.unusedSimpArgs false
namespace Go.Proofs.Ytagohdalabhheaa.Pure
open Go.RowKit Go.Proofs.Ytagohdalabhheaa.PA Go.Proofs.YtagohdalabhheaaW.PrintWords Go.Proofs.YtagohdalabhheaaW.PrintLast Go.Proofs.YtagohdalabhheaaW.PrintMore

theorem smalls_same (l : List Int) (q : Int) : ∃ r, Ev (fun k => stats_Small.f k l q) r ∧ Ev (fun k => foolscapref16_Small.f k l q) r := by
  obtain ⟨r, h1, e1⟩ := small_of l q
  obtain ⟨s, h2, e2⟩ := refSmall_of l q
  rw [h2.one h1] at e2
  exact ⟨r, e1, e2⟩
theorem larges_same (l : List Int) (q : Int) (hl : (l.length : Int) < 17592186044416) : ∃ r, Ev (fun k => stats_Large.f k l q) r ∧ Ev (fun k => foolscapref16_Large.f k l q) r := by
  unfold stats_Large.f foolscapref16_Large.f
  by_cases c1 : q < 1
  · refine ⟨(0, 5), Ev.congr (f := fun _ => some (0, 5)) (fun k => if_pos c1) (Ev.now _), Ev.bind (refGood_of l) ?_⟩
    by_cases g : GoodL l
    · exact Ev.congr (f := fun _ => some (0, 5)) (fun k => by rw [if_pos (decide_eq_true g), if_pos c1]) (Ev.now _)
    · exact Ev.congr (f := fun _ => some (0, 5)) (fun k => if_neg (by rw [decide_eq_false g]; decide)) (Ev.now _)
  by_cases c2 : q > l.length
  · refine ⟨(0, 5), Ev.congr (f := fun _ => some (0, 5)) (fun k => by rw [if_neg c1, if_pos c2]) (Ev.now _), Ev.bind (refGood_of l) ?_⟩
    by_cases g : GoodL l
    · exact Ev.congr (f := fun _ => some (0, 5)) (fun k => by rw [if_pos (decide_eq_true g), if_neg c1, if_pos c2]) (Ev.now _)
    · exact Ev.congr (f := fun _ => some (0, 5)) (fun k => if_neg (by rw [decide_eq_false g]; decide)) (Ev.now _)
  obtain ⟨r, h1, e1⟩ := small_of l (l.length + 1 - q)
  refine ⟨r, Ev.congr (f := fun k => (stats_Small.f k l (l.length + 1 - q)).bind fun bt122 => some (bt122.1, bt122.2)) (fun k => ?_) (Ev.bind e1 (Ev.now _)), ?_⟩
  · rw [if_neg c1, if_neg c2, wr64 (x := (l.length : Int) + 1) (by omega) (by omega), wr64 (x := (l.length : Int) + 1 - q) (by omega) (by omega)]
  · by_cases g : GoodL l
    · obtain ⟨s, e, hp, hs⟩ := rising_of hl
      have hlen := hp.length_eq
      have hk := (sorted_kth hs (j := ((l.length : Int) - q).toNat) (by omega)).perm hp
      rw [← rd_get s ((l.length : Int) - q).toNat (by omega), show ((((l.length : Int) - q).toNat : Nat) : Int) = l.length - q by omega] at hk
      have hr : r = (rd s (l.length - q), 0) := h1.one (.inl ⟨g, by omega, by omega, rfl, by rw [show ((l.length : Int) + 1 - q - 1) = l.length - q by omega]; exact hk⟩)
      rw [hr]
      refine Ev.bind (refGood_of l) (Ev.congr (f := fun k => (foolscapref16_Rising.f k l).bind fun t245 => (if 0 ≤ (wrap64 ((l.length : Int) - q)) then (if (wrap64 ((l.length : Int) - q)) < (t245.length : Int) then (some (rd t245 (wrap64 ((l.length : Int) - q)), 0)) else (none)) else (none))) (fun k => ?_) (Ev.bind e (Ev.congr (f := fun _ => some (rd s (l.length - q), 0)) (fun k => ?_) (Ev.now _))))
      · rw [if_pos (decide_eq_true g), if_neg c1, if_neg c2]
      · rw [wr64 (x := (l.length : Int) - q) (by omega) (by omega), if_pos (by omega), if_pos (by omega)]
    · have hr : r = (0, 5) := h1.one (.inr ⟨fun h => g h.1, rfl⟩)
      rw [hr]
      exact Ev.bind (refGood_of l) (Ev.congr (f := fun _ => some (0, 5)) (fun k => if_neg (by rw [decide_eq_false g]; decide)) (Ev.now _))
/-- How many stand ahead. -/
def Ahead (n : Int) (up : Bool) (x : Int) : Bool := decide (x ≠ n) && (decide (x < n) == up)
theorem drop_rd (l : List Int) (i : Nat) (h : i < l.length) : l.drop i = rd l i :: l.drop (i + 1) := by
  rw [List.drop_eq_getElem_cons h, rd_get l i h]
theorem rank_l0 {l : List Int} {n : Int} {up : Bool} (hl : l.length ≤ 4096) : ∀ (d i : Nat) (c : Int), i + d = l.length → 0 ≤ c → c ≤ i →
    Ev (fun k => stats_Rank.l0 k n up c l (l.length : Int) i) ((c + ((l.drop i).countP (Ahead n up) : Nat) + 1) * 1000000, 0) := by
  intro d
  induction d with
  | zero =>
    intro i c hi c0 c1
    refine Ev.step (f := fun _ => some _) (fun k => ?_) (Ev.now _)
    simp only [stats_Rank.l0]
    rw [if_neg (by omega), List.drop_of_length_le (by omega), wr64 (x := c + 1) (by omega) (by omega), wr64 (x := (c + 1) * 1000000) (by omega) (by omega)]
    simp
  | succ d ih =>
    intro i c hi c0 c1
    have w1 : wrap64 ((i : Int) + 1) = ((i + 1 : Nat) : Int) := by rw [wr64 (by omega) (by omega)]; omega
    have w2 : wrap64 (c + 1) = c + 1 := wr64 (by omega) (by omega)
    rw [drop_rd l i (by omega), List.countP_cons]
    have st : ∀ k, stats_Rank.l0 (k + 1) n up c l (l.length : Int) i = if Ahead n up (rd l i) = true then stats_Rank.l0 k n up (c + 1) l (l.length : Int) ((i + 1 : Nat) : Int) else stats_Rank.l0 k n up c l (l.length : Int) ((i + 1 : Nat) : Int) := fun k => by
      simp only [stats_Rank.l0]
      rw [if_pos (by omega), if_pos (by omega), if_pos (by omega), w1, w2]
      unfold Ahead
      by_cases e : rd l i = n
      · rw [if_pos e]; simp [e]
      · rw [if_neg e]; simp [e]
    by_cases a : Ahead n up (rd l i) = true
    · have h := ih (i + 1) (c + 1) (by omega) (by omega) (by omega)
      rw [if_pos a]
      refine Ev.step (fun k => by rw [st, if_pos a]) ?_
      rw [show c + (((l.drop (i + 1)).countP (Ahead n up) + 1 : Nat) : Int) + 1 = c + 1 + ((l.drop (i + 1)).countP (Ahead n up) : Nat) + 1 by omega]
      exact h
    · have h := ih (i + 1) c (by omega) (by omega) (by omega)
      rw [if_neg a]
      exact Ev.step (fun k => by rw [st, if_neg a]) h
theorem refRank_l0 {l : List Int} {n : Int} {up : Bool} (hl : l.length ≤ 4096) : ∀ (d i : Nat) (c : Int), i + d = l.length → 0 ≤ c → c ≤ i →
    Ev (fun k => foolscapref16_Rank.l0 k n l up (c + 1) i) ((c + ((l.drop i).countP (Ahead n up) : Nat) + 1) * 1000000, 0) := by
  intro d
  induction d with
  | zero =>
    intro i c hi c0 c1
    refine Ev.step (f := fun _ => some _) (fun k => ?_) (Ev.now _)
    simp only [foolscapref16_Rank.l0]
    rw [if_neg (by omega), List.drop_of_length_le (by omega), wr64 (x := (c + 1) * 1000000) (by omega) (by omega)]
    simp
  | succ d ih =>
    intro i c hi c0 c1
    have w1 : wrap64 ((i : Int) + 1) = ((i + 1 : Nat) : Int) := by rw [wr64 (by omega) (by omega)]; omega
    have w2 : wrap64 (c + 1 + 1) = c + 1 + 1 := wr64 (by omega) (by omega)
    rw [drop_rd l i (by omega), List.countP_cons]
    have st : ∀ k, foolscapref16_Rank.l0 (k + 1) n l up (c + 1) i = if Ahead n up (rd l i) = true then foolscapref16_Rank.l0 k n l up (c + 1 + 1) ((i + 1 : Nat) : Int) else foolscapref16_Rank.l0 k n l up (c + 1) ((i + 1 : Nat) : Int) := fun k => by
      simp only [foolscapref16_Rank.l0]
      rw [if_pos (by omega), w1, w2]
      unfold Ahead
      cases up
      · rw [if_neg (by decide), if_pos (by omega)]
        by_cases e : rd l i > n
        · rw [if_pos e, if_pos]
          have h1 : rd l i ≠ n := by omega
          have h2 : ¬ rd l i < n := by omega
          simp [h1, h2]
        · rw [if_neg e, if_neg]
          by_cases h1 : rd l i = n
          · simp [h1]
          · have h2 : rd l i < n := by omega
            simp [h1, h2]
      · rw [if_pos rfl, if_pos (by omega)]
        by_cases e : rd l i < n
        · rw [if_pos e, if_pos]
          have h1 : rd l i ≠ n := by omega
          simp [h1, e]
        · rw [if_neg e, if_neg]
          simp [e]
    by_cases a : Ahead n up (rd l i) = true
    · have h := ih (i + 1) (c + 1) (by omega) (by omega) (by omega)
      rw [if_pos a]
      refine Ev.step (fun k => by rw [st, if_pos a]) ?_
      rw [show c + (((l.drop (i + 1)).countP (Ahead n up) + 1 : Nat) : Int) + 1 = c + 1 + ((l.drop (i + 1)).countP (Ahead n up) : Nat) + 1 by omega]
      exact h
    · have h := ih (i + 1) c (by omega) (by omega) (by omega)
      rw [if_neg a]
      exact Ev.step (fun k => by rw [st, if_neg a]) h
theorem contains_l0 {l : List Int} {n : Int} (hl : l.length ≤ 4096) : ∀ (d i : Nat), i + d = l.length → ∃ v : Int, Ev (fun k => slices_Index_int_int.l0 k l n (l.length : Int) i) v ∧ (v ≥ 0 ↔ n ∈ l.drop i) := by
  intro d
  induction d with
  | zero =>
    intro i hi
    refine ⟨-1, Ev.step (f := fun _ => some (-1)) (fun k => by simp only [slices_Index_int_int.l0]; rw [if_neg (by omega)]) (Ev.now _), ?_⟩
    rw [List.drop_of_length_le (by omega)]; simp
  | succ d ih =>
    intro i hi
    have w1 : wrap64 ((i : Int) + 1) = ((i + 1 : Nat) : Int) := by rw [wr64 (by omega) (by omega)]; omega
    rw [drop_rd l i (by omega)]
    by_cases e : n = rd l i
    · refine ⟨i, Ev.step (f := fun _ => some (i : Int)) (fun k => by simp only [slices_Index_int_int.l0]; rw [if_pos (by omega), if_pos (by omega), if_pos (by omega), if_pos e]) (Ev.now _), ⟨fun _ => by rw [e]; exact List.mem_cons_self, fun _ => by omega⟩⟩
    · obtain ⟨v, ev, hv⟩ := ih (i + 1) (by omega)
      refine ⟨v, Ev.step (fun k => by simp only [slices_Index_int_int.l0]; rw [if_pos (by omega), if_pos (by omega), if_pos (by omega), if_neg e, w1]) ev, ?_⟩
      rw [hv, List.mem_cons]
      exact ⟨.inr, fun h => h.resolve_left e⟩
theorem often_l0 {l : List Int} {n : Int} (hl : l.length ≤ 4096) : ∀ (d i : Nat) (c : Int), i + d = l.length → 0 ≤ c → c ≤ i → Ev (fun k => foolscapref16_often.l0 k l n c i) (c + ((l.drop i).count n : Nat)) := by
  intro d
  induction d with
  | zero =>
    intro i c hi c0 c1
    refine Ev.step (f := fun _ => some c) (fun k => by simp only [foolscapref16_often.l0]; rw [if_neg (by omega)]) ?_
    rw [List.drop_of_length_le (by omega)]; simp; exact Ev.now _
  | succ d ih =>
    intro i c hi c0 c1
    have w1 : wrap64 ((i : Int) + 1) = ((i + 1 : Nat) : Int) := by rw [wr64 (by omega) (by omega)]; omega
    have w2 : wrap64 (c + 1) = c + 1 := wr64 (by omega) (by omega)
    rw [drop_rd l i (by omega), List.count_cons]
    by_cases e : rd l i = n
    · have h := ih (i + 1) (c + 1) (by omega) (by omega) (by omega)
      refine Ev.step (fun k => by simp only [foolscapref16_often.l0]; rw [if_pos (by omega), if_pos (by omega), if_pos e, w1, w2]) ?_
      rw [if_pos (by simpa using e), show c + (((l.drop (i + 1)).count n + 1 : Nat) : Int) = c + 1 + ((l.drop (i + 1)).count n : Nat) by omega]
      exact h
    · have h := ih (i + 1) c (by omega) (by omega) (by omega)
      refine Ev.step (fun k => by simp only [foolscapref16_often.l0]; rw [if_pos (by omega), if_pos (by omega), if_neg e, w1]) ?_
      rw [if_neg (by simpa using e)]
      exact h
theorem ranks_same (n : Int) (l : List Int) (up : Bool) : ∃ r, Ev (fun k => stats_Rank.f k n l up) r ∧ Ev (fun k => foolscapref16_Rank.f k n l up) r := by
  have bad : Ev (fun k => stats_Rank.j0 k n l up true) (0, 5) := Ev.step (f := fun _ => some (0, 5)) (fun k => by simp only [stats_Rank.j0]; rw [if_pos trivial]) (Ev.now _)
  have rbad : Ev (fun k => foolscapref16_Rank.j0 k n l up true) (0, 5) := Ev.step (f := fun _ => some (0, 5)) (fun k => by simp only [foolscapref16_Rank.j0]; rw [if_pos trivial]) (Ev.now _)
  by_cases g : GoodL l
  · have hl := g.1
    by_cases f : FitsI n
    · obtain ⟨v, ev, hv⟩ := contains_l0 (l := l) (n := n) hl l.length 0 (by omega)
      have ec : Ev (fun k => slices_Contains_int_int.f k l n) (decide (v ≥ 0)) := Ev.bind (f := fun _ t => some (decide (t ≥ 0))) ev (Ev.now _)
      have eo : Ev (fun k => foolscapref16_often.f k l n) ((l.count n : Nat) : Int) := by
        have := often_l0 (l := l) (n := n) hl l.length 0 0 (by omega) (by omega) (by omega)
        rw [List.drop_zero, Int.zero_add] at this
        exact this
      rw [List.drop_zero] at hv
      have er := rank_l0 (l := l) (n := n) (up := up) hl l.length 0 0 (by omega) (by omega) (by omega)
      have er2 := refRank_l0 (l := l) (n := n) (up := up) hl l.length 0 0 (by omega) (by omega) (by omega)
      have s1 : ∀ r, Ev (fun k => (slices_Contains_int_int.f k l n).bind fun t128 => (if t128 = true then (stats_Rank.l0 k n up 0 l (l.length : Int) 0) else (some (0, 6)))) r → Ev (fun k => stats_Rank.f k n l up) r := fun r h => by
        refine Ev.bind (good_of l) (Ev.congr (f := fun k => stats_Rank.j0 k n l up false) (fun k => ?_) (Ev.step (fun k => ?_) h))
        · rw [if_pos (decide_eq_true g), fits_of, decide_eq_true f]; rfl
        · simp only [stats_Rank.j0]; rw [if_neg (by decide)]
      have s2 : ∀ r, Ev (fun k => (foolscapref16_often.f k l n).bind fun t257 => (if t257 = 0 then (some (0, 6)) else (foolscapref16_Rank.l0 k n l up 1 0))) r → Ev (fun k => foolscapref16_Rank.f k n l up) r := fun r h => by
        refine Ev.bind (refGood_of l) (Ev.congr (f := fun k => foolscapref16_Rank.j0 k n l up false) (fun k => ?_) (Ev.step (fun k => ?_) h))
        · rw [if_pos (decide_eq_true g), r16Fits_of, decide_eq_true f]; rfl
        · simp only [foolscapref16_Rank.j0]; rw [if_neg (by decide)]
      by_cases m : n ∈ l
      · refine ⟨_, s1 _ (Ev.bind ec (Ev.congr (fun k => if_pos (decide_eq_true (hv.2 m))) er)), s2 _ (Ev.bind eo (Ev.congr (fun k => if_neg ?_) er2))⟩
        have := List.count_pos_iff.2 m
        omega
      · refine ⟨(0, 6), s1 _ (Ev.bind ec (Ev.congr (f := fun _ => some (0, 6)) (fun k => if_neg (by rw [decide_eq_false (fun q => m (hv.1 q))]; decide)) (Ev.now _))), s2 _ (Ev.bind eo (Ev.congr (f := fun _ => some (0, 6)) (fun k => if_pos ?_) (Ev.now _)))⟩
        rw [List.count_eq_zero.2 m]; rfl
    · exact ⟨(0, 5), Ev.bind (good_of l) (Ev.congr (fun k => by rw [if_pos (decide_eq_true g), fits_of, decide_eq_false f]; rfl) bad), Ev.bind (refGood_of l) (Ev.congr (fun k => by rw [if_pos (decide_eq_true g), r16Fits_of, decide_eq_false f]; rfl) rbad)⟩
  · exact ⟨(0, 5), Ev.bind (good_of l) (Ev.congr (fun k => if_neg (by rw [decide_eq_false g]; decide)) bad), Ev.bind (refGood_of l) (Ev.congr (fun k => if_neg (by rw [decide_eq_false g]; decide)) rbad)⟩
theorem same_l0 {l : List Int} (hl : (l.length : Int) < 17592186044416) : ∀ (d i : Nat), i + d = l.length → Ev (fun k => foolscaplaw16_same.l0 k l l i) true := by
  intro d
  induction d with
  | zero => intro i hi; exact Ev.step (f := fun _ => some true) (fun k => by simp only [foolscaplaw16_same.l0]; rw [if_neg (by omega)]) (Ev.now _)
  | succ d ih =>
    intro i hi
    have w1 : wrap64 ((i : Int) + 1) = ((i + 1 : Nat) : Int) := by rw [wr64 (by omega) (by omega)]; omega
    exact Ev.step (fun k => by simp only [foolscaplaw16_same.l0]; rw [if_pos (by omega), if_pos (by omega), if_pos (by omega), if_pos trivial, w1]) (ih (i + 1) (by omega))
theorem same_of {l : List Int} (hl : (l.length : Int) < 17592186044416) : Ev (fun k => foolscaplaw16_same.f k l l) true :=
  Ev.congr (fun k => by unfold foolscaplaw16_same.f; rw [if_pos rfl]; rfl) (same_l0 hl l.length 0 (by omega))
theorem own_of {l : List Int} (hl : (l.length : Int) < 17592186044416) : foolscaplaw16_own.f l = some l := by
  unfold foolscaplaw16_own.f
  simp only [Option.bind_some, List.length_nil, List.nil_append]
  rw [if_pos (by omega)]
theorem StatsPlaces : foolscaplaw16_StatsPlaces.Pure := by
  intro l q n up h1 h2 _ _ _
  refine Ev.rounds (g := fun k => foolscaplaw16_StatsPlaces.f k l q n up) ?_
  have hl : (l.length : Int) < 17592186044416 := by omega
  have out : Ev (fun k => foolscaplaw16_StatsPlaces.j0 k l q n up true) true := Ev.step (fun k => by simp only [foolscaplaw16_StatsPlaces.j0]; rw [if_pos trivial]) ends
  obtain ⟨a, a1, a2⟩ := larges_same l q hl
  obtain ⟨b, b1, b2⟩ := smalls_same l q
  obtain ⟨c, c1, c2⟩ := ranks_same n l up
  have main : Ev (fun k => foolscaplaw16_StatsPlaces.j0 k l q n up false) true := by
    refine Ev.step (f := fun k => (stats_Large.f k l q).bind fun bt266 => ((foolscapref16_Large.f k l q).bind fun bt268 => ((stats_Small.f k l q).bind fun bt270 => ((foolscapref16_Small.f k l q).bind fun bt272 => ((stats_Rank.f k n l up).bind fun bt274 => ((foolscapref16_Rank.f k n l up).bind fun bt276 => (if bt266.1 = bt268.1 then (if bt266.2 = bt268.2 then (if bt270.1 = bt272.1 then (if bt270.2 = bt272.2 then (if bt274.1 = bt276.1 then (if bt274.2 = bt276.2 then ((foolscaplaw16_same.f k l l).bind fun t278 => (if t278 = true then ((foolscaplaw16_lives.f k).bind fun t279 => (some t279)) else (some false))) else (some false)) else (some false)) else (some false)) else (some false)) else (some false)) else (some false))))))))
      (fun k => ?_) (Ev.bind a1 (Ev.bind a2 (Ev.bind b1 (Ev.bind b2 (Ev.bind c1 (Ev.bind c2 (Ev.congr (f := fun k => (foolscaplaw16_same.f k l l).bind fun t278 => (if t278 = true then ((foolscaplaw16_lives.f k).bind fun t279 => (some t279)) else (some false))) (fun k => ?_) (Ev.bind (same_of hl) (Ev.congr (fun k => if_pos rfl) ends)))))))))
    · simp only [foolscaplaw16_StatsPlaces.j0]
      rw [if_neg (by decide), own_of hl]
      simp only [Option.bind_some]
    · rw [if_pos rfl, if_pos rfl, if_pos rfl, if_pos rfl, if_pos rfl, if_pos rfl]
  unfold foolscaplaw16_StatsPlaces.f
  by_cases g : (l.length : Int) > 300
  · refine Ev.congr (fun k => if_pos g) ?_
    by_cases g2 : (l.length : Int) ≤ 4096
    · rw [decide_eq_true g2]; exact out
    · rw [decide_eq_false g2]; exact main
  · exact Ev.congr (fun k => if_neg g) main
end Go.Proofs.Ytagohdalabhheaa.Pure
