/- Least, greatest, midst and the most frequent of numbers are what the document says: the statement over numbers. -/
import Derived.Test.YtagohdalabhheaaPBx12
import Derived.Test.YtagohdalabhheaaRefWide16
import Derived.Test.YtagohdalabhheaaMed16
import Derived.Test.YtagohdalabhheaaEnds16
import Derived.Test.YtagohdalabhheaaLives16
set_option linter.unusedVariables false
set_option linter.unusedSimpArgs false
namespace Go.Proofs.Ytagohdalabhheaa.Pure
open Go.RowKit Go.Proofs.Ytagohdalabhheaa.PB Go.Proofs.YtagohdalabhheaaW.PrintWords Go.Proofs.YtagohdalabhheaaW.PrintLast Go.Proofs.YtagohdalabhheaaW.PrintMore

theorem same_l0 {l : List Int} (hl : (l.length : Int) < 17592186044416) : ∀ (d i : Nat), i + d = l.length → Ev (fun k => foolscaplaw16_same.l0 k l l i) true := by
  intro d
  induction d with
  | zero => intro i hi; exact Ev.step (f := fun _ => some true) (fun k => by simp only [foolscaplaw16_same.l0]; rw [if_neg (by omega)]) (Ev.now _)
  | succ d ih =>
    intro i hi
    have w1 : wrap64 ((i : Int) + 1) = ((i + 1 : Nat) : Int) := by rw [wr64 (by omega) (by omega)]; omega
    exact Ev.step (fun k => by simp only [foolscaplaw16_same.l0]; rw [if_pos (by omega), if_pos (by omega), if_pos (by omega), if_pos trivial, w1]) (ih (i + 1) (by omega))
theorem same_of {l : List Int} (hl : (l.length : Int) < 17592186044416) : Ev (fun k => foolscaplaw16_same.f k l l) true :=
  Ev.congr (fun k => by unfold foolscaplaw16_same.f; rw [if_pos rfl]; rfl) (same_l0 hl l.length 0 (by omega))
theorem own_of {l : List Int} (hl : (l.length : Int) < 17592186044416) : foolscaplaw16_own.f l = some l := by
  unfold foolscaplaw16_own.f
  simp only [Option.bind_some, List.length_nil, List.nil_append]
  rw [if_pos (by omega)]
theorem sorted_ends {l s : List Int} (hp : s.Perm l) (hs : s.Pairwise (· ≤ ·)) {j : Nat} (hj : j < l.length) : KthIs l j (rd s j) := by
  have hlen := hp.length_eq
  have hk := (sorted_kth hs (j := j) (by omega)).perm hp
  rw [← rd_get s j (by omega)] at hk
  exact hk
theorem leasts_same {l : List Int} (hl : (l.length : Int) < 17592186044416) : ∃ r, Ev (fun k => stats_Least.f k l) r ∧ Ev (fun k => foolscapref16_Least.f k l) r := by
  by_cases p : 0 < l.length
  · obtain ⟨r, hr, e⟩ := least_of p
    refine ⟨r, e, ?_⟩
    rcases hr with ⟨g, q0, q1, r2, hk⟩ | ⟨n, rfl⟩
    · obtain ⟨s, es, hp, hs⟩ := rising_of hl
      have hlen := hp.length_eq
      have hk2 := sorted_ends hp hs (j := 0) p
      have er : r = (rd s 0, 0) := Prod.ext (KthIs.one hk hk2) r2
      rw [er]
      refine Ev.bind (refGood_of l) (Ev.congr (f := fun k => (foolscapref16_Rising.f k l).bind fun t251 => (if 0 < (t251.length : Int) then (some (rd t251 0, 0)) else (none))) (fun k => ?_) (Ev.bind es (Ev.congr (f := fun _ => some (rd s 0, 0)) (fun k => if_pos (by omega)) (Ev.now _))))
      rw [if_pos (decide_eq_true g), if_neg (by omega)]
    · have g : ¬ GoodL l := fun g => n ⟨g, by omega, by omega⟩
      exact Ev.bind (refGood_of l) (Ev.congr (f := fun _ => some (0, 5)) (fun k => if_neg (by rw [decide_eq_false g]; decide)) (Ev.now _))
  · have z : l = [] := List.length_eq_zero_iff.1 (by omega)
    subst z
    have g : GoodL [] := ⟨by decide, fun x hx => by cases hx⟩
    exact ⟨(0, 0), Ev.bind (good_of []) (Ev.congr (f := fun _ => some (0, 0)) (fun k => by rw [if_pos (decide_eq_true g)]; exact if_pos rfl) (Ev.now _)), Ev.bind (refGood_of []) (Ev.congr (f := fun _ => some (0, 0)) (fun k => by rw [if_pos (decide_eq_true g)]; exact if_pos rfl) (Ev.now _))⟩
theorem greatests_same {l : List Int} (hl : (l.length : Int) < 17592186044416) : ∃ r, Ev (fun k => stats_Greatest.f k l) r ∧ Ev (fun k => foolscapref16_Greatest.f k l) r := by
  by_cases p : 0 < l.length
  · obtain ⟨r, hr, e⟩ := greatest_of p
    refine ⟨r, e, ?_⟩
    rcases hr with ⟨g, q0, q1, r2, hk⟩ | ⟨n, rfl⟩
    · obtain ⟨s, es, hp, hs⟩ := rising_of hl
      have hlen := hp.length_eq
      have hk2 := sorted_ends hp hs (j := l.length - 1) (by omega)
      rw [show ((l.length : Int) - 1).toNat = l.length - 1 by omega] at hk
      have er : r = (rd s ((l.length - 1 : Nat) : Int), 0) := Prod.ext (KthIs.one hk hk2) r2
      rw [er]
      refine Ev.bind (refGood_of l) (Ev.congr (f := fun k => (foolscapref16_Rising.f k l).bind fun t260 => (if 0 ≤ (wrap64 ((l.length : Int) - 1)) then (if (wrap64 ((l.length : Int) - 1)) < (t260.length : Int) then (some (rd t260 (wrap64 ((l.length : Int) - 1)), 0)) else (none)) else (none))) (fun k => ?_) (Ev.bind es (Ev.congr (f := fun _ => some (rd s ((l.length - 1 : Nat) : Int), 0)) (fun k => ?_) (Ev.now _))))
      · rw [if_pos (decide_eq_true g), if_neg (by omega)]
      · rw [wr64 (x := (l.length : Int) - 1) (by omega) (by omega), if_pos (by omega), if_pos (by omega), show (l.length : Int) - 1 = ((l.length - 1 : Nat) : Int) by omega]
    · have g : ¬ GoodL l := fun g => n ⟨g, by omega, by omega⟩
      exact Ev.bind (refGood_of l) (Ev.congr (f := fun _ => some (0, 5)) (fun k => if_neg (by rw [decide_eq_false g]; decide)) (Ev.now _))
  · have z : l = [] := List.length_eq_zero_iff.1 (by omega)
    subst z
    have g : GoodL [] := ⟨by decide, fun x hx => by cases hx⟩
    exact ⟨(0, 0), Ev.bind (good_of []) (Ev.congr (f := fun _ => some (0, 0)) (fun k => by rw [if_pos (decide_eq_true g)]; exact if_pos rfl) (Ev.now _)), Ev.bind (refGood_of []) (Ev.congr (f := fun _ => some (0, 0)) (fun k => by rw [if_pos (decide_eq_true g)]; exact if_pos rfl) (Ev.now _))⟩
theorem refMedian_of {l : List Int} (hl : (l.length : Int) < 17592186044416) : ∃ r, MedIs l r ∧ Ev (fun k => foolscapref16_Median.f k l) r := by
  have bad : ∀ x, Ev (fun k => foolscapref16_Median.j0 k x true) (0, 5) := fun x => Ev.step (f := fun _ => some (0, 5)) (fun k => by simp only [foolscapref16_Median.j0]; rw [if_pos trivial]) (Ev.now _)
  by_cases g : GoodL l
  · by_cases p : 0 < l.length
    · obtain ⟨s, es, hp, hs⟩ := rising_of hl
      have hlen := hp.length_eq
      have wd : wrap64 ((l.length : Int) / 2) = ((l.length / 2 : Nat) : Int) := by rw [wr64 (by omega) (by omega)]; omega
      have hb := sorted_ends hp hs (j := l.length / 2) (by omega)
      have start : ∀ r, Ev (fun k => if ((l.length : Int) % 2) = 1 then (some (rd s ((l.length / 2 : Nat) : Int), 0)) else ((foolscapref16_Mean.f k (([rd s ((l.length / 2 - 1 : Nat) : Int), rd s ((l.length / 2 : Nat) : Int)] : List Int))).bind fun bt301 => (some (bt301.1, bt301.2)))) r → Ev (fun k => foolscapref16_Median.f k l) r := fun r h => by
        refine Ev.bind (refGood_of l) (Ev.congr (f := fun k => foolscapref16_Median.j0 k l false) (fun k => ?_) (Ev.step (fun k => ?_) (Ev.bind (f := fun k t292 => (if ((l.length : Int) % 2) = 1 then (if 0 ≤ (wrap64 ((l.length : Int) / 2)) then (if (wrap64 ((l.length : Int) / 2)) < (t292.length : Int) then (some (rd t292 (wrap64 ((l.length : Int) / 2)), 0)) else (none)) else (none)) else (if 0 ≤ (wrap64 ((wrap64 ((l.length : Int) / 2)) - 1)) then (if (wrap64 ((wrap64 ((l.length : Int) / 2)) - 1)) < (t292.length : Int) then (if 0 ≤ (wrap64 ((l.length : Int) / 2)) then (if (wrap64 ((l.length : Int) / 2)) < (t292.length : Int) then ((foolscapref16_Mean.f k (([rd t292 (wrap64 ((wrap64 ((l.length : Int) / 2)) - 1)), rd t292 (wrap64 ((l.length : Int) / 2))] : List Int))).bind fun bt301 => (some (bt301.1, bt301.2))) else (none)) else (none)) else (none)) else (none)))) es (Ev.congr (fun k => ?_) h))))
        · rw [if_pos (decide_eq_true g), beq_eq_false_iff_ne.2 (by omega)]
        · simp only [foolscapref16_Median.j0]
          rw [if_neg (by decide)]
        · rw [wd]
          by_cases o : ((l.length : Int) % 2) = 1
          · rw [if_pos o, if_pos o, if_pos (by omega), if_pos (by omega)]
          · rw [if_neg o, if_neg o, wr64 (x := ((l.length / 2 : Nat) : Int) - 1) (by omega) (by omega), if_pos (by omega), if_pos (by omega), if_pos (by omega), if_pos (by omega), show ((l.length / 2 : Nat) : Int) - 1 = ((l.length / 2 - 1 : Nat) : Int) by omega]
      by_cases o : l.length % 2 = 1
      · exact ⟨(rd s ((l.length / 2 : Nat) : Int), 0), .inr ⟨g, p, _, hb, .inl ⟨o, rfl⟩⟩, start _ (Ev.congr (f := fun _ => some (rd s ((l.length / 2 : Nat) : Int), 0)) (fun k => if_pos (by omega)) (Ev.now _))⟩
      · have ha := sorted_ends hp hs (j := l.length / 2 - 1) (by omega)
        have gab : GoodL [rd s ((l.length / 2 - 1 : Nat) : Int), rd s ((l.length / 2 : Nat) : Int)] := ⟨by simp, fun x hx => by
          rcases List.mem_cons.1 hx with rfl | hx
          · exact g.2 _ ha.1
          · have : x = rd s ((l.length / 2 : Nat) : Int) := by simpa using hx
            subst this; exact g.2 _ hb.1⟩
        have hm := refMeanL_of gab (by simp)
        have hv : sumI [rd s ((l.length / 2 - 1 : Nat) : Int), rd s ((l.length / 2 : Nat) : Int)] = rd s ((l.length / 2 - 1 : Nat) : Int) + rd s ((l.length / 2 : Nat) : Int) := by simp [sumI]
        rw [hv] at hm
        refine ⟨(meanV (rd s ((l.length / 2 - 1 : Nat) : Int) + rd s ((l.length / 2 : Nat) : Int)) 2, 0), .inr ⟨g, p, _, hb, .inr ⟨by omega, _, ha, rfl⟩⟩, start _ (Ev.congr (fun k => if_neg (by omega)) ?_)⟩
        exact Ev.bind (f := fun _ (bt301 : Int × Int) => some (bt301.1, bt301.2)) hm (Ev.now (meanV (rd s ((l.length / 2 - 1 : Nat) : Int) + rd s ((l.length / 2 : Nat) : Int)) 2, (0 : Int)))
    · refine ⟨(0, 5), .inl ⟨fun q => p q.2, rfl⟩, Ev.bind (refGood_of l) (Ev.congr (fun k => if_pos (decide_eq_true g)) ?_)⟩
      rw [show ((l.length : Int) == 0) = true from beq_iff_eq.2 (by omega)]
      exact bad _
  · exact ⟨(0, 5), .inl ⟨fun q => g q.1, rfl⟩, Ev.bind (refGood_of l) (Ev.congr (fun k => if_neg (by rw [decide_eq_false g]; decide)) (bad _))⟩
theorem refOften_l0 {l : List Int} {x : Int} (hl : (l.length : Int) < 17592186044416) : ∀ (d i : Nat), i + d = l.length → Ev (fun k => foolscapref16_often.l0 k l x ((l.take i).count x : Nat) i) (l.count x : Nat) := by
  intro d
  induction d with
  | zero =>
    intro i hi
    rw [List.take_of_length_le (by omega)]
    exact Ev.step (f := fun _ => some _) (fun k => by simp only [foolscapref16_often.l0]; rw [if_neg (by omega)]) (Ev.now _)
  | succ d ih =>
    intro i hi
    have w1 : wrap64 ((i : Int) + 1) = ((i + 1 : Nat) : Int) := by rw [wr64 (x := (i : Int) + 1) (by omega) (by omega)]; omega
    have hc := List.count_le_length (a := x) (l := l.take i)
    have hc2 : (l.take i).length ≤ l.length := by rw [List.length_take]; omega
    have ht : l.take (i + 1) = l.take i ++ [rd l i] := by
      rw [List.take_add_one, List.getElem?_eq_getElem (by omega), rd_get l i (by omega)]; rfl
    have h := ih (i + 1) (by omega)
    rw [ht, List.count_append, List.count_singleton] at h
    by_cases e : rd l i = x
    · rw [if_pos (by simpa using e)] at h
      refine Ev.step (fun k => ?_) h
      simp only [foolscapref16_often.l0]
      rw [if_pos (by omega), if_pos (by omega), if_pos e, w1, wr64 (x := (((l.take i).count x : Nat) : Int) + 1) (by omega) (by omega)]; rfl
    · rw [if_neg (by simpa using e)] at h
      refine Ev.step (fun k => ?_) h
      simp only [foolscapref16_often.l0]
      rw [if_pos (by omega), if_pos (by omega), if_neg e, w1]; rfl
theorem refOften_of {l : List Int} (x : Int) (hl : (l.length : Int) < 17592186044416) : Ev (fun k => foolscapref16_often.f k l x) (stats_Mode.cnt l x) := by
  have h := refOften_l0 (x := x) hl l.length 0 (by omega)
  rw [List.take_zero] at h
  exact h
theorem best_ge (l : List Int) : ∀ (xs : List Int) (b : Int × Int), b.1 ≤ (stats_Mode.best l xs b).1
  | [], b => Int.le_refl _
  | x :: xs, b => by
    rw [stats_Mode.best_cons]
    refine Int.le_trans ?_ (best_ge l xs _)
    by_cases c : stats_Mode.cnt l x > b.1
    · rw [if_pos c]; exact Int.le_of_lt c
    · rw [if_neg c]; exact Int.le_refl _
def modeR (b : Int × Int) : Int × Int := if b.1 = 1 then (0, 6) else (b.2, 0)
theorem refMode_l0 {l : List Int} (hl : (l.length : Int) < 17592186044416) : ∀ (d i : Nat) (b : Int × Int), i + d = l.length → 1 ≤ b.1 → Ev (fun k => foolscapref16_Mode.l0 k l b.1 b.2 i) (modeR (stats_Mode.best l (l.drop i) b)) := by
  intro d
  induction d with
  | zero =>
    intro i b hi hb
    rw [List.drop_of_length_le (by omega), stats_Mode.best_nil]
    refine Ev.step (f := fun _ => some _) (fun k => ?_) (Ev.now _)
    simp only [foolscapref16_Mode.l0]
    rw [if_neg (by omega)]
    unfold modeR
    by_cases c : b.1 = 1
    · rw [if_pos (by omega), if_pos c]
    · rw [if_neg (by omega), if_neg c]
  | succ d ih =>
    intro i b hi hb
    have w1 : wrap64 ((i : Int) + 1) = ((i + 1 : Nat) : Int) := by rw [wr64 (x := (i : Int) + 1) (by omega) (by omega)]; omega
    rw [List.drop_eq_getElem_cons (by omega), ← rd_get l i (by omega), stats_Mode.best_cons]
    refine Ev.step (f := fun k => (foolscapref16_often.f k l (rd l i)).bind fun t306 => (if t306 > b.1 then (foolscapref16_Mode.l0 k l t306 (rd l i) (wrap64 ((i : Int) + 1))) else (foolscapref16_Mode.l0 k l b.1 b.2 (wrap64 ((i : Int) + 1))))) (fun k => ?_) (Ev.bind (refOften_of (rd l i) hl) ?_)
    · simp only [foolscapref16_Mode.l0]
      rw [if_pos (by omega), if_pos (by omega)]
    · rw [w1]
      by_cases c : stats_Mode.cnt l (rd l i) > b.1
      · rw [if_pos c]
        exact Ev.congr (fun k => if_pos c) (ih (i + 1) (stats_Mode.cnt l (rd l i), rd l i) (by omega) (by dsimp only; omega))
      · rw [if_neg c]
        exact Ev.congr (fun k => if_neg c) (ih (i + 1) b (by omega) hb)
theorem modes_same {l : List Int} (hl : (l.length : Int) < 17592186044416) (w : (l.all fun x => (Lit.int .i64 x).wf) = true) : ∃ r, Ev (fun k => stats_Mode.f k l) r ∧ Ev (fun k => foolscapref16_Mode.f k l) r := by
  by_cases g : GoodL l
  · refine ⟨modeR (stats_Mode.best l l (1, 0)), Ev.bind (good_of l) (Ev.congr (f := fun _ => some _) (fun k => ?_) (Ev.now _)), Ev.bind (refGood_of l) (Ev.congr (fun k => if_pos (decide_eq_true g)) ?_)⟩
    · rw [if_pos (decide_eq_true g), if_pos ⟨by omega, w⟩]
      unfold modeR
      by_cases c : (stats_Mode.best l l (1, 0)).1 = 1
      · rw [if_pos c, if_pos c]
      · rw [if_neg c, if_neg c]
    · have h := refMode_l0 hl l.length 0 (1, 0) (by omega) (by decide)
      rw [List.drop_zero] at h
      exact h
  · exact ⟨(0, 5), Ev.bind (good_of l) (Ev.congr (f := fun _ => some (0, 5)) (fun k => if_neg (by rw [decide_eq_false g]; decide)) (Ev.now _)), Ev.bind (refGood_of l) (Ev.congr (f := fun _ => some (0, 5)) (fun k => if_neg (by rw [decide_eq_false g]; decide)) (Ev.now _))⟩
def midst (k : Nat) (l : List Int) (a b c d e f g h : Int × Int) : Option Bool := if a.1 = b.1 then (if a.2 = b.2 then (if c.1 = d.1 then (if c.2 = d.2 then (if e.1 = f.1 then (if e.2 = f.2 then (if g.1 = h.1 then (if g.2 = h.2 then ((foolscaplaw16_same.f k l l).bind fun t328 => (if t328 = true then ((foolscaplaw16_lives.f k).bind fun t329 => (some t329)) else (some false))) else (some false)) else (some false)) else (some false)) else (some false)) else (some false)) else (some false)) else (some false)) else (some false)
theorem midst_of {l : List Int} (hl : (l.length : Int) < 17592186044416) (a c e g : Int × Int) : Ev (fun k => midst k l a a c c e e g g) true := by
  refine Ev.congr (f := fun k => (foolscaplaw16_same.f k l l).bind fun t328 => (if t328 = true then ((foolscaplaw16_lives.f k).bind fun t329 => (some t329)) else (some false))) (fun k => ?_) (Ev.bind (same_of hl) (Ev.congr (fun k => if_pos rfl) ends))
  unfold midst
  rw [if_pos rfl, if_pos rfl, if_pos rfl, if_pos rfl, if_pos rfl, if_pos rfl, if_pos rfl, if_pos rfl]
theorem StatsMidst : foolscaplaw16_StatsMidst.Pure := by
  intro l _ h2 wf
  refine Ev.rounds (g := fun k => foolscaplaw16_StatsMidst.f k l) ?_
  have hl : (l.length : Int) < 17592186044416 := by omega
  have out : Ev (fun k => foolscaplaw16_StatsMidst.j0 k l true) true := Ev.step (fun k => by simp only [foolscaplaw16_StatsMidst.j0]; rw [if_pos trivial]) ends
  obtain ⟨a, a1, a2⟩ := leasts_same hl
  obtain ⟨b, b1, b2⟩ := greatests_same hl
  obtain ⟨c, c0, c1⟩ := median_of l
  obtain ⟨c', c0', c2⟩ := refMedian_of hl
  rw [c0'.one c0] at c2
  obtain ⟨d, d1, d2⟩ := modes_same hl (List.all_eq_true.2 wf)
  have h : Ev (fun k => (stats_Least.f k l).bind fun a => (foolscapref16_Least.f k l).bind fun b => (stats_Greatest.f k l).bind fun c => (foolscapref16_Greatest.f k l).bind fun d => (stats_Median.f k l).bind fun e => (foolscapref16_Median.f k l).bind fun f => (stats_Mode.f k l).bind fun g => (foolscapref16_Mode.f k l).bind fun h => midst k l a b c d e f g h) true :=
    Ev.bind a1 (Ev.bind a2 (Ev.bind b1 (Ev.bind b2 (Ev.bind c1 (Ev.bind c2 (Ev.bind d1 (Ev.bind d2 (midst_of hl a b c d))))))))
  have main : Ev (fun k => foolscaplaw16_StatsMidst.j0 k l false) true := by
    refine Ev.step (fun k => ?_) h
    simp only [foolscaplaw16_StatsMidst.j0, midst]
    rw [if_neg (by decide), own_of hl]
    simp only [Option.bind_some]
  refine Ev.congr (g := fun k => if (l.length : Int) > 300 then foolscaplaw16_StatsMidst.j0 k l (decide ((l.length : Int) ≤ 4096)) else foolscaplaw16_StatsMidst.j0 k l false) (fun k => rfl) ?_
  by_cases g : (l.length : Int) > 300
  · refine Ev.congr (fun k => if_pos g) ?_
    by_cases g2 : (l.length : Int) ≤ 4096
    · rw [decide_eq_true g2]; exact out
    · rw [decide_eq_false g2]; exact main
  · exact Ev.congr (fun k => if_neg g) main
end Go.Proofs.Ytagohdalabhheaa.Pure
