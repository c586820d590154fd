/- The k-th largest of n numbers is the (n + 1 - k)-th smallest: the statement over numbers. -/
import Derived.Test.YtagohdalabhheaaPAx10
import Derived.Test.YtagohdalabhheaaEnds16
import Derived.Test.YtagohdalabhheaaLives16
set_option linter.unusedVariables false
set_option linter.unusedSimpArgs false
namespace Go.Proofs.Ytagohdalabhheaa.Pure
open Go.RowKit Go.Proofs.Ytagohdalabhheaa.PA Go.Proofs.YtagohdalabhheaaW.PrintWords Go.Proofs.YtagohdalabhheaaW.PrintLast Go.Proofs.YtagohdalabhheaaW.PrintMore

theorem large_small {l : List Int} {q : Int} (hl : (l.length : Int) < 17592186044416) (h1 : 1 ≤ q) (h2 : q ≤ l.length) {r : Int × Int} (e : Ev (fun k => stats_Small.f k l (l.length + 1 - q)) r) : Ev (fun k => stats_Large.f k l q) r := by
  refine Ev.congr (f := fun k => (stats_Small.f k l (l.length + 1 - q)).bind fun bt122 => some (bt122.1, bt122.2)) (fun k => ?_) (Ev.bind e (Ev.now _))
  unfold stats_Large.f
  rw [if_neg (by omega), if_neg (by omega), wr64 (x := (l.length : Int) + 1) (by omega) (by omega), wr64 (x := (l.length : Int) + 1 - q) (by omega) (by omega)]
theorem StatsEnds : foolscaplaw16_StatsEnds.Pure := by
  intro l q _ _ _ _
  refine Ev.rounds (g := fun k => foolscaplaw16_StatsEnds.f k l q) ?_
  have out : Ev (fun k => foolscaplaw16_StatsEnds.j0 k l q true) true := Ev.step (fun k => by simp only [foolscaplaw16_StatsEnds.j0]; rw [if_pos trivial]) ends
  unfold foolscaplaw16_StatsEnds.f
  by_cases g : (l.length : Int) > 2000
  · exact Ev.congr (fun k => if_pos g) out
  refine Ev.congr (fun k => if_neg g) ?_
  by_cases c1 : q < 1
  · exact Ev.congr (fun k => if_pos c1) out
  refine Ev.congr (fun k => if_neg c1) ?_
  by_cases c2 : q > (l.length : Int)
  · rw [decide_eq_true c2]; exact out
  rw [decide_eq_false c2]
  have hl : (l.length : Int) < 17592186044416 := by omega
  obtain ⟨a, ha, ea⟩ := small_of l (l.length + 1 - q)
  obtain ⟨b, hb, eb⟩ := small_of l l.length
  obtain ⟨c, hc, ec⟩ := greatest_of (l := l) (by omega)
  obtain ⟨d, hd, ed⟩ := small_of l 1
  obtain ⟨e, he, ee⟩ := least_of (l := l) (by omega)
  rw [hc.one hb] at ec
  rw [he.one hd] at ee
  refine Ev.step (f := fun k => (stats_Large.f k l q).bind fun bt289 => ((stats_Small.f k l (l.length + 1 - q)).bind fun bt291 => ((stats_Large.f k l 1).bind fun bt293 => ((stats_Greatest.f k l).bind fun bt295 => ((stats_Small.f k l 1).bind fun bt297 => ((stats_Least.f k l).bind fun bt299 => (if bt289.1 = bt291.1 then (if bt289.2 = bt291.2 then (if bt293.1 = bt295.1 then (if bt293.2 = bt295.2 then (if bt297.1 = bt299.1 then (if bt297.2 = bt299.2 then ((foolscaplaw16_lives.f k).bind fun t301 => (some t301)) else (some false)) else (some false)) else (some false)) else (some false)) else (some false)) else (some false)))))))) (fun k => ?_)
    (Ev.bind (large_small hl (by omega) (by omega) ea) (Ev.bind ea (Ev.bind (large_small hl (by omega) (by omega) (by rw [show (l.length : Int) + 1 - 1 = l.length by omega]; exact eb)) (Ev.bind ec (Ev.bind ed (Ev.bind ee (Ev.congr (fun k => ?_) ends)))))))
  · simp only [foolscaplaw16_StatsEnds.j0]
    rw [if_neg (by decide), wr64 (x := (l.length : Int) + 1) (by omega) (by omega), wr64 (x := (l.length : Int) + 1 - q) (by omega) (by omega)]
  · rw [if_pos rfl, if_pos rfl, if_pos rfl, if_pos rfl, if_pos rfl, if_pos rfl]
end Go.Proofs.Ytagohdalabhheaa.Pure
