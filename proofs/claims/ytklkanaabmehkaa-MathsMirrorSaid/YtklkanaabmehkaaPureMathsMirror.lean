/- Rounding does not hang on the sign: the statement over numbers. -/
import Derived.Test.YtklkanaabmehkaaPRx8
import Derived.Test.YtklkanaabmehkaaMathsP
import Derived.Test.YtklkanaabmehkaaLives15
set_option linter.unusedVariables false
set_option linter.unusedSimpArgs false
namespace Go.Proofs.Ytklkanaabmehkaa.Pure
open Go.RowKit Go.Proofs.Ytklkanaabmehkaa.PR Go.Proofs.YtklkanaabmehkaaW.PrintWords Go.Proofs.YtklkanaabmehkaaW.PrintLast Go.Proofs.YtklkanaabmehkaaW.PrintMore

def negP (x : Int × Int) : Int × Int := (-x.1, x.2)
theorem floor_of (n s : Int) : Ev (fun k => maths_Floor.f k n s) (multV n s false) := Ev.bind (mult_of n s false) (Ev.now _)
theorem ceil_of (n s : Int) : Ev (fun k => maths_Ceiling.f k n s) (multV n s true) := Ev.bind (mult_of n s true) (Ev.now _)
theorem even_of (n : Int) : Ev (fun k => maths_Even.f k n) (parV n 0) := Ev.bind (parity_of n 0) (Ev.now _)
theorem fits_neg {n : Int} : FitsI (-n) ↔ FitsI n := by unfold FitsI; omega
theorem told_neg {n m : Int} (h : m = -n) : toldV m = negP (toldV n) := by
  subst h
  unfold toldV
  by_cases c : FitsI n
  · rw [if_pos c, if_pos (fits_neg.2 c)]; rfl
  · rw [if_neg c, if_neg (fun q => c (fits_neg.1 q))]; rfl
theorem away_neg {u b n : Int} (h : n ≠ 0) : awayV (-u) b (-n) = negP (awayV u b n) := by
  unfold awayV
  apply told_neg
  split <;> split <;> omega
theorem up_neg {n p : Int} (h : n ≠ 0) : upV (-n) p = negP (upV n p) := by
  unfold upV
  rw [Int.neg_tmod]
  by_cases c : FitsI n ∧ Places p
  · rw [if_pos c, if_pos ⟨fits_neg.2 c.1, c.2⟩]
    by_cases d : n.tmod (pw p) = 0
    · rw [if_pos d, if_pos (by omega)]; rfl
    · rw [if_neg d, if_neg (by omega), ← away_neg h, show -n - -n.tmod (pw p) = -(n - n.tmod (pw p)) by omega]
  · rw [if_neg c, if_neg (fun q => c ⟨fits_neg.1 q.1, q.2⟩)]; rfl
theorem absI_neg (x : Int) : absI (-x) = absI x := by unfold absI; split <;> split <;> omega
theorem par_neg {n r : Int} (h : n ≠ 0) : parV (-n) r = negP (parV n r) := by
  unfold parV
  rw [up_neg h]
  unfold negP
  dsimp only
  rw [Int.neg_tdiv, Int.neg_tmod, absI_neg]
  split
  · split
    · rfl
    · exact away_neg h
  · rfl
theorem mult_neg {n s : Int} (h : 1 ≤ s) : multV (-n) s true = negP (multV n s false) := by
  unfold multV
  by_cases c : FitsI n ∧ FitsI s
  · rw [if_neg (show ¬¬(FitsI (-n) ∧ FitsI s) from fun q => q ⟨fits_neg.2 c.1, c.2⟩), if_neg (show ¬¬(FitsI n ∧ FitsI s) from fun q => q c)]
    by_cases c1 : n = 0
    · rw [if_pos (show -n = 0 by omega), if_pos c1]; rfl
    rw [if_neg (show ¬ -n = 0 by omega), if_neg c1, if_neg (show ¬ s = 0 by omega), if_neg (show ¬ s = 0 by omega), if_neg (show ¬ (-n > 0 ∧ s < 0) by omega), if_neg (show ¬ (n > 0 ∧ s < 0) by omega), Int.neg_tmod]
    by_cases d : n.tmod (absI s) = 0
    · rw [if_pos (show -n.tmod (absI s) = 0 by omega), if_pos d]; rfl
    rw [if_neg (show ¬ -n.tmod (absI s) = 0 by omega), if_neg d, if_neg (show ¬ (false = true ∧ n > 0) from fun q => by cases q.1), if_neg (show ¬ (true = false ∧ -n < 0) from fun q => by cases q.1)]
    by_cases e : n < 0
    · rw [if_pos ⟨rfl, by omega⟩, if_pos ⟨rfl, e⟩]; exact told_neg (by omega)
    · rw [if_neg (fun q => by have := q.2; omega), if_neg (fun q => e q.2)]
      unfold negP; dsimp only; rw [show -n - -n.tmod (absI s) = -(n - n.tmod (absI s)) by omega]
  · rw [if_pos (show ¬(FitsI (-n) ∧ FitsI s) from fun q => c ⟨fits_neg.1 q.1, q.2⟩), if_pos c]; rfl
theorem mult_fits {n s : Int} : -1000000000000000000 ≤ (multV n s true).1 ∧ (multV n s true).1 ≤ 1000000000000000000 := by
  unfold multV
  by_cases c : FitsI n ∧ FitsI s
  · rw [if_neg (fun q => q c)]
    split
    · constructor <;> (dsimp only; omega)
    split
    · constructor <;> (dsimp only; omega)
    split
    · constructor <;> (dsimp only; omega)
    rename_i c2 _
    have hf := rest_fits (n := n) (t := absI s) c.1 (by unfold absI; split <;> omega)
    have told : ∀ x, FitsI (toldV x).1 := fun x => by
      unfold toldV; split
      · rename_i q; exact q
      · exact ⟨by decide, by decide⟩
    split
    · exact c.1
    split
    · exact told _
    split
    · exact told _
    exact hf
  · rw [if_pos c]; constructor <;> decide
theorem told_bd (x : Int) : FitsI (toldV x).1 := by
  unfold toldV; split
  · rename_i q; exact q
  · exact ⟨by decide, by decide⟩
theorem up_bd {n p : Int} : FitsI (upV n p).1 := by
  unfold upV awayV
  split
  · split
    · rename_i c _; exact c.1
    · exact told_bd _
  · exact ⟨by decide, by decide⟩
theorem par_bd {n r : Int} : FitsI (parV n r).1 := by
  unfold parV
  split
  · split
    · exact up_bd
    · exact told_bd _
  · exact up_bd
theorem neg_wrap {x : Int × Int} (f : FitsI x.1) : x.1 = wrap64 (-(negP x).1) := by
  obtain ⟨_, _⟩ := f
  unfold negP; dsimp only
  rw [wr64 (by omega) (by omega)]; omega
theorem MathsMirror : foolscaplaw15_MathsMirror.Pure := by
  intro n p s wn wp _
  have hp := wf_i64 wp
  have hn := wf_i64 wn
  refine Ev.rounds (g := fun k => foolscaplaw15_MathsMirror.f k n p s) ?_
  have out : Ev (fun k => foolscaplaw15_MathsMirror.j0 k n p s true) true := Ev.step (fun k => by simp only [foolscaplaw15_MathsMirror.j0]; rw [if_pos trivial]) ends
  unfold foolscaplaw15_MathsMirror.f
  rw [fits_of, fits_of]
  simp only [Option.bind_some]
  by_cases c : FitsI n
  · refine Ev.congr (fun k => by rw [decide_eq_true c, if_pos rfl]) ?_
    by_cases c1 : n = 0
    · exact Ev.congr (fun k => if_pos c1) out
    refine Ev.congr (fun k => if_neg c1) ?_
    by_cases c2 : s < 1
    · exact Ev.congr (fun k => if_pos c2) out
    refine Ev.congr (fun k => if_neg c2) ?_
    by_cases c3 : FitsI s
    · rw [decide_eq_true c3]
      obtain ⟨_, _⟩ := c
      refine Ev.step (f := fun k => (maths_Up.f k n p).bind fun a => (maths_Up.f k (-n) p).bind fun b => (maths_Even.f k n).bind fun e => (maths_Even.f k (-n)).bind fun f => (maths_Floor.f k n s).bind fun g => (maths_Ceiling.f k (-n) s).bind fun h => if a.1 = wrap64 (-b.1) then (if a.2 = b.2 then (if e.1 = wrap64 (-f.1) then (if e.2 = f.2 then (if g.1 = wrap64 (-h.1) then (if g.2 = h.2 then ((foolscaplaw15_lives.f k).bind fun t212 => (some t212)) else some false) else some false) else some false) else some false) else some false) else some false) (fun k => ?_) (Ev.bind (up_of (n := n) hp.1 hp.2) (Ev.bind (up_of (n := -n) hp.1 hp.2) (Ev.bind (even_of n) (Ev.bind (even_of (-n)) (Ev.bind (floor_of n s) (Ev.bind (ceil_of (-n) s) ?_))))))
      · simp only [foolscaplaw15_MathsMirror.j0]
        rw [if_neg (by decide), wr64 (x := -n) (by omega) (by omega)]
      · rw [up_neg c1, par_neg c1, mult_neg (n := n) (s := s) (by omega)]
        have hm : FitsI (multV n s false).1 := by
          have h := mult_fits (n := -n) (s := s)
          rw [mult_neg (by omega)] at h
          unfold negP at h; dsimp only at h
          exact ⟨by omega, by omega⟩
        refine Ev.congr (fun k => ?_) ends
        have h2 : ∀ x : Int × Int, x.2 = (negP x).2 := fun _ => rfl
        rw [if_pos (neg_wrap up_bd), if_pos (h2 _), if_pos (neg_wrap par_bd), if_pos (h2 _), if_pos (neg_wrap hm), if_pos (h2 _)]
    · rw [decide_eq_false c3]; exact out
  · exact Ev.congr (fun k => by rw [decide_eq_false c, if_neg (by decide)]) out
end Go.Proofs.Ytklkanaabmehkaa.Pure
