/- A number more makes the sum that much greater, as long as it fits, and has a place among the numbers: the statement over numbers. -/
import Derived.Test.YtagohdalabhheaaPGx8
import Derived.Test.YtagohdalabhheaaTotV16
import Derived.Test.YtagohdalabhheaaLives16
set_option linter.unusedVariables false
set_option linter.unusedSimpArgs false
namespace Go.Proofs.Ytagohdalabhheaa.Pure
open Go.RowKit Go.Proofs.Ytagohdalabhheaa.PG Go.Proofs.YtagohdalabhheaaW.PrintWords Go.Proofs.YtagohdalabhheaaW.PrintLast Go.Proofs.YtagohdalabhheaaW.PrintMore

def Ahead (n : Int) (up : Bool) (x : Int) : Bool := decide (x ≠ n) && (decide (x < n) == up)
theorem drop_rd (l : List Int) (i : Nat) (h : i < l.length) : l.drop i = rd l i :: l.drop (i + 1) := by
  rw [List.drop_eq_getElem_cons h, rd_get l i h]
theorem rank_l0 {l : List Int} {n : Int} {up : Bool} (hl : l.length ≤ 4096) : ∀ (d i : Nat) (c : Int), i + d = l.length → 0 ≤ c → c ≤ i →
    Ev (fun k => stats_Rank.l0 k n up c l (l.length : Int) i) ((c + ((l.drop i).countP (Ahead n up) : Nat) + 1) * 1000000, 0) := by
  intro d
  induction d with
  | zero =>
    intro i c hi c0 c1
    refine Ev.step (f := fun _ => some _) (fun k => ?_) (Ev.now _)
    simp only [stats_Rank.l0]
    rw [if_neg (by omega), List.drop_of_length_le (by omega), wr64 (x := c + 1) (by omega) (by omega), wr64 (x := (c + 1) * 1000000) (by omega) (by omega)]
    simp
  | succ d ih =>
    intro i c hi c0 c1
    have w1 : wrap64 ((i : Int) + 1) = ((i + 1 : Nat) : Int) := by rw [wr64 (by omega) (by omega)]; omega
    have w2 : wrap64 (c + 1) = c + 1 := wr64 (by omega) (by omega)
    rw [drop_rd l i (by omega), List.countP_cons]
    have st : ∀ k, stats_Rank.l0 (k + 1) n up c l (l.length : Int) i = if Ahead n up (rd l i) = true then stats_Rank.l0 k n up (c + 1) l (l.length : Int) ((i + 1 : Nat) : Int) else stats_Rank.l0 k n up c l (l.length : Int) ((i + 1 : Nat) : Int) := fun k => by
      simp only [stats_Rank.l0]
      rw [if_pos (by omega), if_pos (by omega), if_pos (by omega), w1, w2]
      unfold Ahead
      by_cases e : rd l i = n
      · rw [if_pos e]; simp [e]
      · rw [if_neg e]; simp [e]
    by_cases a : Ahead n up (rd l i) = true
    · have h := ih (i + 1) (c + 1) (by omega) (by omega) (by omega)
      rw [if_pos a]
      refine Ev.step (fun k => by rw [st, if_pos a]) ?_
      rw [show c + (((l.drop (i + 1)).countP (Ahead n up) + 1 : Nat) : Int) + 1 = c + 1 + ((l.drop (i + 1)).countP (Ahead n up) : Nat) + 1 by omega]
      exact h
    · have h := ih (i + 1) c (by omega) (by omega) (by omega)
      rw [if_neg a]
      exact Ev.step (fun k => by rw [st, if_neg a]) h
theorem contains_l0 {l : List Int} {n : Int} (hl : l.length ≤ 4096) : ∀ (d i : Nat), i + d = l.length → ∃ v : Int, Ev (fun k => slices_Index_int_int.l0 k l n (l.length : Int) i) v ∧ (v ≥ 0 ↔ n ∈ l.drop i) := by
  intro d
  induction d with
  | zero =>
    intro i hi
    refine ⟨-1, Ev.step (f := fun _ => some (-1)) (fun k => by simp only [slices_Index_int_int.l0]; rw [if_neg (by omega)]) (Ev.now _), ?_⟩
    rw [List.drop_of_length_le (by omega)]; simp
  | succ d ih =>
    intro i hi
    have w1 : wrap64 ((i : Int) + 1) = ((i + 1 : Nat) : Int) := by rw [wr64 (by omega) (by omega)]; omega
    rw [drop_rd l i (by omega)]
    by_cases e : n = rd l i
    · refine ⟨i, Ev.step (f := fun _ => some (i : Int)) (fun k => by simp only [slices_Index_int_int.l0]; rw [if_pos (by omega), if_pos (by omega), if_pos (by omega), if_pos e]) (Ev.now _), ⟨fun _ => by rw [e]; exact List.mem_cons_self, fun _ => by omega⟩⟩
    · obtain ⟨v, ev, hv⟩ := ih (i + 1) (by omega)
      refine ⟨v, Ev.step (fun k => by simp only [slices_Index_int_int.l0]; rw [if_pos (by omega), if_pos (by omega), if_pos (by omega), if_neg e, w1]) ev, ?_⟩
      rw [hv, List.mem_cons]
      exact ⟨.inr, fun h => h.resolve_left e⟩
theorem own_of {l : List Int} (hl : (l.length : Int) < 17592186044416) : foolscaplaw16_own.f l = some l := by
  unfold foolscaplaw16_own.f
  simp only [Option.bind_some, List.length_nil, List.nil_append]
  rw [if_pos (by omega)]
theorem rank_good {n : Int} {l : List Int} (up : Bool) (g : GoodL l) (f : FitsI n) (m : n ∈ l) : Ev (fun k => stats_Rank.f k n l up) (((l.countP (Ahead n up) : Nat) + 1) * 1000000, 0) := by
  have hl := g.1
  obtain ⟨v, ev, hv⟩ := contains_l0 (l := l) (n := n) hl l.length 0 (by omega)
  have ec : Ev (fun k => slices_Contains_int_int.f k l n) (decide (v ≥ 0)) := Ev.bind (f := fun _ t => some (decide (t ≥ 0))) ev (Ev.now _)
  rw [List.drop_zero] at hv
  have er := rank_l0 (l := l) (n := n) (up := up) hl l.length 0 0 (by omega) (by omega) (by omega)
  rw [List.drop_zero, Int.zero_add] at er
  refine Ev.bind (good_of l) (Ev.congr (f := fun k => stats_Rank.j0 k n l up false) (fun k => ?_) (Ev.step (fun k => ?_) (Ev.bind (f := fun k t128 => (if t128 = true then (stats_Rank.l0 k n up 0 l (l.length : Int) 0) else (some (0, 6)))) ec (Ev.congr (fun k => if_pos (decide_eq_true (hv.2 m))) er))))
  · rw [if_pos (decide_eq_true g), fits_of, decide_eq_true f]; rfl
  · simp only [stats_Rank.j0]; rw [if_neg (by decide)]
theorem rank_bad {n : Int} {l : List Int} (up : Bool) (q : ¬ (GoodL l ∧ FitsI n)) : Ev (fun k => stats_Rank.f k n l up) (0, 5) := by
  have bad : Ev (fun k => stats_Rank.j0 k n l up true) (0, 5) := Ev.step (f := fun _ => some (0, 5)) (fun k => by simp only [stats_Rank.j0]; rw [if_pos trivial]) (Ev.now _)
  by_cases g : GoodL l
  · have f : ¬ FitsI n := fun f => q ⟨g, f⟩
    exact Ev.bind (good_of l) (Ev.congr (fun k => by rw [if_pos (decide_eq_true g), fits_of, decide_eq_false f]; rfl) bad)
  · exact Ev.bind (good_of l) (Ev.congr (fun k => if_neg (by rw [decide_eq_false g]; decide)) bad)
theorem ahead_both (n : Int) : ∀ l : List Int, l.countP (Ahead n true) + l.countP (Ahead n false) ≤ l.length
  | [] => by simp
  | x :: xs => by
    have h := ahead_both n xs
    rw [List.countP_cons, List.countP_cons, List.length_cons]
    by_cases a : Ahead n true x = true
    · have b : ¬ Ahead n false x = true := by
        unfold Ahead at a ⊢
        intro b
        simp at a b
        omega
      rw [if_pos a, if_neg b]; omega
    · rw [if_neg a]; split <;> omega
theorem ahead_own (n : Int) (up : Bool) (l : List Int) : (l ++ [n]).countP (Ahead n up) = l.countP (Ahead n up) := by
  rw [List.countP_append, List.countP_singleton, if_neg (by simp [Ahead])]; rfl
theorem good_app {l : List Int} {n : Int} (hl : l.length ≤ 2000) : GoodL (l ++ [n]) ↔ GoodL l ∧ FitsI n := by
  unfold GoodL
  rw [List.length_append, List.length_singleton]
  constructor
  · rintro ⟨a, b⟩
    exact ⟨⟨by omega, fun x hx => b x (List.mem_append_left _ hx)⟩, b n (by simp)⟩
  · rintro ⟨⟨a, b⟩, c⟩
    refine ⟨by omega, fun x hx => ?_⟩
    rcases List.mem_append.1 hx with h | h
    · exact b x h
    · rw [List.mem_singleton.1 h]; exact c
def addV (a n : Int) : Int × Int := if FitsI a ∧ FitsI n then (if FitsI (a + n) then (a + n, 0) else (0, 3)) else (0, 2)
theorem numAdd_of (a n : Int) : num_Add.f a n = some (addV a n) := by
  unfold num_Add.f addV
  rw [fits_of, fits_of]
  simp only [Option.bind_some]
  by_cases fa : FitsI a
  · rw [if_pos (decide_eq_true fa)]
    by_cases fn : FitsI n
    · rw [if_pos (decide_eq_true fn), if_pos ⟨fa, fn⟩]
      obtain ⟨_, _⟩ := fa; obtain ⟨_, _⟩ := fn
      rw [wr64 (x := a + n) (by omega) (by omega)]
      unfold num_told.f
      rw [fits_of]
      simp only [Option.bind_some]
      by_cases f : FitsI (a + n)
      · rw [if_pos (decide_eq_true f), if_pos f]; rfl
      · rw [if_neg (by rw [decide_eq_false f]; decide), if_neg f]; rfl
    · rw [if_neg (by rw [decide_eq_false fn]; decide), if_neg (fun q => fn q.2)]
  · rw [if_neg (by rw [decide_eq_false fa]; decide), if_neg (fun q => fa q.1)]
theorem ranks_end {l : List Int} {n : Int} (hl : l.length ≤ 2000) (b : Int) : Ev (fun k => foolscaplaw16_StatsGrows.j0 k l n b false) true := by
  have out : ∀ r t, Ev (fun k => foolscaplaw16_StatsGrows.j1 k l r t true) true := fun r t => Ev.step (fun k => by simp only [foolscaplaw16_StatsGrows.j1]; rw [if_pos trivial]) ends
  have hlen : (l ++ [n]).length = l.length + 1 := by simp
  have start : ∀ r t : Int × Int, Ev (fun k => stats_Rank.f k n (l ++ [n]) true) r → Ev (fun k => stats_Rank.f k n (l ++ [n]) false) t → Ev (fun k => if b = 5 then foolscaplaw16_StatsGrows.j1 k l r.1 t.1 true else (if r.2 = 0 then foolscaplaw16_StatsGrows.j1 k l r.1 t.1 (t.2 != 0) else foolscaplaw16_StatsGrows.j1 k l r.1 t.1 true)) true → Ev (fun k => foolscaplaw16_StatsGrows.j0 k l n b false) true := fun r t hr ht h => by
    have h2 : Ev (fun k => (stats_Rank.f k n (l ++ [n]) true).bind fun r => (stats_Rank.f k n (l ++ [n]) false).bind fun t => if b = 5 then foolscaplaw16_StatsGrows.j1 k l r.1 t.1 true else (if r.2 = 0 then foolscaplaw16_StatsGrows.j1 k l r.1 t.1 (t.2 != 0) else foolscaplaw16_StatsGrows.j1 k l r.1 t.1 true)) true := Ev.bind hr (Ev.bind ht h)
    refine Ev.step (fun k => ?_) h2
    simp only [foolscaplaw16_StatsGrows.j0]
    rw [if_neg (by decide), own_of (by omega)]
    simp only [Option.bind_some]
    rw [if_pos (by omega)]
    refine congrArg (Option.bind _) (funext fun r => ?_)
    rw [if_pos (by omega)]
  by_cases g : GoodL (l ++ [n]) ∧ FitsI n
  · have m : n ∈ l ++ [n] := by simp
    have h1 := rank_good true g.1 g.2 m
    have h2 := rank_good false g.1 g.2 m
    rw [ahead_own] at h1 h2
    have ab := ahead_both n l
    refine start _ _ h1 h2 ?_
    by_cases c : b = 5
    · exact Ev.congr (fun k => if_pos c) (out _ _)
    · refine Ev.congr (fun k => (if_neg c).trans (if_pos rfl)) (Ev.step (fun k => ?_) ends)
      simp only [foolscaplaw16_StatsGrows.j1]
      rw [if_neg (by decide), if_pos (by omega), if_pos (by omega), wr64 (x := (l.length : Int) + 2) (by omega) (by omega), wr64 (x := ((l.length : Int) + 2) * 1000000) (by omega) (by omega), wr64 (by omega) (by omega), if_pos (by omega)]
  · refine start _ _ (rank_bad true g) (rank_bad false g) ?_
    by_cases c : b = 5
    · exact Ev.congr (fun k => if_pos c) (out _ _)
    · exact Ev.congr (fun k => (if_neg c).trans (if_neg (by decide))) (out _ _)
def grown (k : Nat) (l : List Int) (n : Int) (a b c : Int × Int) : Option Bool := if a.2 = 0 then ((num_Fits.f n).bind fun t254 => (if t254 = true then (if ((b.2 == 0) != (c.2 == 0)) = true then (foolscaplaw16_StatsGrows.j0 k l n a.2 true) else (if b.2 = 0 then (foolscaplaw16_StatsGrows.j0 k l n a.2 (b.1 != c.1)) else (foolscaplaw16_StatsGrows.j0 k l n a.2 false))) else (if b.2 = 0 then (foolscaplaw16_StatsGrows.j0 k l n a.2 (b.1 != c.1)) else (foolscaplaw16_StatsGrows.j0 k l n a.2 false)))) else (if b.2 = 0 then (foolscaplaw16_StatsGrows.j0 k l n a.2 false) else (foolscaplaw16_StatsGrows.j0 k l n a.2 false))
theorem grown_of {l : List Int} (n : Int) (hl : l.length ≤ 2000) : Ev (fun k => grown k l n (sumV l) (sumV (l ++ [n])) (addV (sumV l).1 n)) true := by
  refine Ev.congr (fun k => ?_) (ranks_end (n := n) hl (sumV l).2)
  unfold grown
  by_cases c : GoodL l ∧ FitsI (sumI l)
  · have e1 : sumV l = (sumI l, 0) := if_pos c
    rw [e1, if_pos rfl, fits_of]
    simp only [Option.bind_some]
    have hs : sumI (l ++ [n]) = sumI l + n := by rw [sumI_app]; simp [sumI]
    by_cases f : FitsI n
    · rw [if_pos (decide_eq_true f)]
      by_cases s : FitsI (sumI l + n)
      · have e2 : sumV (l ++ [n]) = (sumI l + n, 0) := by unfold sumV; rw [hs, if_pos ⟨(good_app hl).2 ⟨c.1, f⟩, s⟩]
        have e3 : addV (sumI l) n = (sumI l + n, 0) := by unfold addV; rw [if_pos ⟨c.2, f⟩, if_pos s]
        rw [e2, e3, if_neg (by simp), if_pos rfl]
        simp
      · have e2 : sumV (l ++ [n]) = (0, 5) := by unfold sumV; rw [hs, if_neg (fun q => s q.2)]
        have e3 : addV (sumI l) n = (0, 3) := by unfold addV; rw [if_pos ⟨c.2, f⟩, if_neg s]
        rw [e2, e3, if_neg (by decide), if_neg (by decide)]
    · have e2 : sumV (l ++ [n]) = (0, 5) := if_neg (fun q => f ((good_app hl).1 q.1).2)
      rw [if_neg (by rw [decide_eq_false f]; decide), e2, if_neg (by decide)]
  · have e1 : sumV l = (0, 5) := if_neg c
    rw [e1, if_neg (by decide)]
    split <;> rfl
theorem StatsGrows : foolscaplaw16_StatsGrows.Pure := by
  intro l n _ _ _ _
  refine Ev.rounds (g := fun k => foolscaplaw16_StatsGrows.f k l n) ?_
  unfold foolscaplaw16_StatsGrows.f
  by_cases g : (l.length : Int) > 2000
  · exact Ev.congr (fun k => if_pos g) ends
  have hlen : (l ++ [n]).length = l.length + 1 := by simp
  have h : Ev (fun k => (stats_Sum.f k l).bind fun a => (stats_Sum.f k (l ++ [n])).bind fun b => grown k l n a b (addV a.1 n)) true := Ev.bind (sum_of l) (Ev.bind (sum_of (l ++ [n])) (grown_of n (by omega)))
  refine Ev.congr (fun k => ?_) h
  rw [if_neg g, own_of (by omega)]
  simp only [Option.bind_some, numAdd_of]
  refine congrArg (Option.bind _) (funext fun a => ?_)
  rw [if_pos (by omega)]
  rfl
end Go.Proofs.Ytagohdalabhheaa.Pure
