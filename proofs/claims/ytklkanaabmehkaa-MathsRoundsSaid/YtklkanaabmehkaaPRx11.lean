-- Written by this session's own program xprint.py, over the translation. Not trusted: Lean checks it.
import Derived.Test.YtklkanaabmehkaaPRx0
import Derived.Test.YtklkanaabmehkaaPRx5
import Derived.Test.YtklkanaabmehkaaPRx6
import Derived.Test.YtklkanaabmehkaaPRx7
import Derived.Test.YtklkanaabmehkaaPRx9
import Derived.Test.YtklkanaabmehkaaPRx10
namespace Go.Proofs.Ytklkanaabmehkaa.PR
open Go.RowKit Go.Proofs.YtklkanaabmehkaaW.PrintWords Go.Proofs.YtklkanaabmehkaaW.PrintLast Go.Proofs.YtklkanaabmehkaaW.PrintMore
attribute [local go_sem] max2_int min2_int max_two min_two max_three min_three max_four min_four   -- for this text's walks alone
set_option linter.unusedVariables false
set_option linter.unusedSimpArgs false

/-! ### foolscaplaw15_MathsRounds: function 11 -/
def foolscaplaw15_MathsRounds.f (k : Nat) (a0 : Int) (a1 : Int) : Option (Bool) := (maths_Up.f k a0 a1).bind fun bt277 => ((foolscapref15_Up.f k a0 a1).bind fun bt279 => ((maths_Down.f k a0 a1).bind fun bt281 => ((foolscapref15_Down.f k a0 a1).bind fun bt283 => ((maths_Even.f k a0).bind fun bt285 => ((foolscapref15_Even.f k a0).bind fun bt287 => ((maths_Odd.f k a0).bind fun bt289 => ((foolscapref15_Odd.f k a0).bind fun bt291 => ((maths_Abs.f a0).bind fun bt293 => ((foolscapref15_Abs.f a0).bind fun bt295 => ((maths_Sign.f a0).bind fun bt297 => ((foolscapref15_Sign.f a0).bind fun bt299 => (if bt277.1 = bt279.1 then (if bt277.2 = bt279.2 then (if bt281.1 = bt283.1 then (if bt281.2 = bt283.2 then (if bt285.1 = bt287.1 then (if bt285.2 = bt287.2 then (if bt289.1 = bt291.1 then (if bt289.2 = bt291.2 then (if bt293.1 = bt295.1 then (if bt293.2 = bt295.2 then (if bt297.1 = bt299.1 then (if bt297.2 = bt299.2 then ((foolscaplaw15_lives.f k).bind fun t301 => (some t301)) else (some false)) else (some false)) else (some false)) else (some false)) else (some false)) else (some false)) else (some false)) else (some false)) else (some false)) else (some false)) else (some false)) else (some false)))))))))))))
theorem foolscaplaw15_MathsRounds.mono : ∀ a0 a1 k, LeO (foolscaplaw15_MathsRounds.f k a0 a1) (foolscaplaw15_MathsRounds.f (k + 1) a0 a1) := by
  intro a0 a1 k
  unfold foolscaplaw15_MathsRounds.f
  repeat' first
      | (with_reducible exact foolscaplaw15_lives.mono _)
      | (with_reducible exact foolscapref15_Down.mono _ _ _)
      | (with_reducible exact foolscapref15_Even.mono _ _)
      | (with_reducible exact foolscapref15_Odd.mono _ _)
      | (with_reducible exact foolscapref15_Up.mono _ _ _)
      | (with_reducible exact maths_Down.mono _ _ _)
      | (with_reducible exact maths_Even.mono _ _)
      | (with_reducible exact maths_Odd.mono _ _)
      | (with_reducible exact maths_Up.mono _ _ _)
      | (with_reducible exact LeO.refl _)
      | (with_reducible exact LeO.none _)
      | (with_reducible refine LeO.ite ?_ ?_)
      | (with_reducible refine LeO.bind ?_ (fun _ => ?_))
      | exact foolscaplaw15_lives.mono _
      | exact foolscapref15_Down.mono _ _ _
      | exact foolscapref15_Even.mono _ _
      | exact foolscapref15_Odd.mono _ _
      | exact foolscapref15_Up.mono _ _ _
      | exact maths_Down.mono _ _ _
      | exact maths_Even.mono _ _
      | exact maths_Odd.mono _ _
      | exact maths_Up.mono _ _ _
      | exact LeO.none _
      | refine LeO.ite ?_ ?_
      | refine LeO.bind ?_ (fun _ => ?_)
set_option maxHeartbeats 8000000 in
set_option maxRecDepth 100000 in
theorem foolscaplaw15_MathsRounds.calls (k : Nat) (a0 : Int) (a1 : Int) (r : Bool) (w : World) (h : foolscaplaw15_MathsRounds.f k a0 a1 = some r) (hR_ : r = true) :
    Calls Try.prog 11 #[.int .i64 a0, .int .i64 a1] w fun e w' => e = .returned (.bool r) ∧ Below w.heap.size w w' := by
  have HR_ := Aside0.mk hR_
  clear hR_
  have HB := Aside0.mk (Below.refl w.heap.size w)
  have H : ((maths_Up.f k a0 a1).bind fun bt277 => ((foolscapref15_Up.f k a0 a1).bind fun bt279 => ((maths_Down.f k a0 a1).bind fun bt281 => ((foolscapref15_Down.f k a0 a1).bind fun bt283 => ((maths_Even.f k a0).bind fun bt285 => ((foolscapref15_Even.f k a0).bind fun bt287 => ((maths_Odd.f k a0).bind fun bt289 => ((foolscapref15_Odd.f k a0).bind fun bt291 => ((maths_Abs.f a0).bind fun bt293 => ((foolscapref15_Abs.f a0).bind fun bt295 => ((maths_Sign.f a0).bind fun bt297 => ((foolscapref15_Sign.f a0).bind fun bt299 => (if bt277.1 = bt279.1 then (if bt277.2 = bt279.2 then (if bt281.1 = bt283.1 then (if bt281.2 = bt283.2 then (if bt285.1 = bt287.1 then (if bt285.2 = bt287.2 then (if bt289.1 = bt291.1 then (if bt289.2 = bt291.2 then (if bt293.1 = bt295.1 then (if bt293.2 = bt295.2 then (if bt297.1 = bt299.1 then (if bt297.2 = bt299.2 then ((foolscaplaw15_lives.f k).bind fun t301 => (some t301)) else (some false)) else (some false)) else (some false)) else (some false)) else (some false)) else (some false)) else (some false)) else (some false)) else (some false)) else (some false)) else (some false)) else (some false)))))))))))))) = some r := h
  clear h
  replace H := Option.bind_eq_some_iff.mp H
  obtain ⟨⟨t277, t278⟩, A30, H⟩ := H
  replace H : ((foolscapref15_Up.f k a0 a1).bind fun bt279 => ((maths_Down.f k a0 a1).bind fun bt281 => ((foolscapref15_Down.f k a0 a1).bind fun bt283 => ((maths_Even.f k a0).bind fun bt285 => ((foolscapref15_Even.f k a0).bind fun bt287 => ((maths_Odd.f k a0).bind fun bt289 => ((foolscapref15_Odd.f k a0).bind fun bt291 => ((maths_Abs.f a0).bind fun bt293 => ((foolscapref15_Abs.f a0).bind fun bt295 => ((maths_Sign.f a0).bind fun bt297 => ((foolscapref15_Sign.f a0).bind fun bt299 => (if t277 = bt279.1 then (if t278 = bt279.2 then (if bt281.1 = bt283.1 then (if bt281.2 = bt283.2 then (if bt285.1 = bt287.1 then (if bt285.2 = bt287.2 then (if bt289.1 = bt291.1 then (if bt289.2 = bt291.2 then (if bt293.1 = bt295.1 then (if bt293.2 = bt295.2 then (if bt297.1 = bt299.1 then (if bt297.2 = bt299.2 then ((foolscaplaw15_lives.f k).bind fun t301 => (some t301)) else (some false)) else (some false)) else (some false)) else (some false)) else (some false)) else (some false)) else (some false)) else (some false)) else (some false)) else (some false)) else (some false)) else (some false))))))))))))) = some r := H
  have A3 := Aside0.mk A30
  clear A30
  replace H := Option.bind_eq_some_iff.mp H
  obtain ⟨⟨t279, t280⟩, A40, H⟩ := H
  replace H : ((maths_Down.f k a0 a1).bind fun bt281 => ((foolscapref15_Down.f k a0 a1).bind fun bt283 => ((maths_Even.f k a0).bind fun bt285 => ((foolscapref15_Even.f k a0).bind fun bt287 => ((maths_Odd.f k a0).bind fun bt289 => ((foolscapref15_Odd.f k a0).bind fun bt291 => ((maths_Abs.f a0).bind fun bt293 => ((foolscapref15_Abs.f a0).bind fun bt295 => ((maths_Sign.f a0).bind fun bt297 => ((foolscapref15_Sign.f a0).bind fun bt299 => (if t277 = t279 then (if t278 = t280 then (if bt281.1 = bt283.1 then (if bt281.2 = bt283.2 then (if bt285.1 = bt287.1 then (if bt285.2 = bt287.2 then (if bt289.1 = bt291.1 then (if bt289.2 = bt291.2 then (if bt293.1 = bt295.1 then (if bt293.2 = bt295.2 then (if bt297.1 = bt299.1 then (if bt297.2 = bt299.2 then ((foolscaplaw15_lives.f k).bind fun t301 => (some t301)) else (some false)) else (some false)) else (some false)) else (some false)) else (some false)) else (some false)) else (some false)) else (some false)) else (some false)) else (some false)) else (some false)) else (some false)))))))))))) = some r := H
  have A4 := Aside0.mk A40
  clear A40
  replace H := Option.bind_eq_some_iff.mp H
  obtain ⟨⟨t281, t282⟩, A50, H⟩ := H
  replace H : ((foolscapref15_Down.f k a0 a1).bind fun bt283 => ((maths_Even.f k a0).bind fun bt285 => ((foolscapref15_Even.f k a0).bind fun bt287 => ((maths_Odd.f k a0).bind fun bt289 => ((foolscapref15_Odd.f k a0).bind fun bt291 => ((maths_Abs.f a0).bind fun bt293 => ((foolscapref15_Abs.f a0).bind fun bt295 => ((maths_Sign.f a0).bind fun bt297 => ((foolscapref15_Sign.f a0).bind fun bt299 => (if t277 = t279 then (if t278 = t280 then (if t281 = bt283.1 then (if t282 = bt283.2 then (if bt285.1 = bt287.1 then (if bt285.2 = bt287.2 then (if bt289.1 = bt291.1 then (if bt289.2 = bt291.2 then (if bt293.1 = bt295.1 then (if bt293.2 = bt295.2 then (if bt297.1 = bt299.1 then (if bt297.2 = bt299.2 then ((foolscaplaw15_lives.f k).bind fun t301 => (some t301)) else (some false)) else (some false)) else (some false)) else (some false)) else (some false)) else (some false)) else (some false)) else (some false)) else (some false)) else (some false)) else (some false)) else (some false))))))))))) = some r := H
  have A5 := Aside0.mk A50
  clear A50
  replace H := Option.bind_eq_some_iff.mp H
  obtain ⟨⟨t283, t284⟩, A60, H⟩ := H
  replace H : ((maths_Even.f k a0).bind fun bt285 => ((foolscapref15_Even.f k a0).bind fun bt287 => ((maths_Odd.f k a0).bind fun bt289 => ((foolscapref15_Odd.f k a0).bind fun bt291 => ((maths_Abs.f a0).bind fun bt293 => ((foolscapref15_Abs.f a0).bind fun bt295 => ((maths_Sign.f a0).bind fun bt297 => ((foolscapref15_Sign.f a0).bind fun bt299 => (if t277 = t279 then (if t278 = t280 then (if t281 = t283 then (if t282 = t284 then (if bt285.1 = bt287.1 then (if bt285.2 = bt287.2 then (if bt289.1 = bt291.1 then (if bt289.2 = bt291.2 then (if bt293.1 = bt295.1 then (if bt293.2 = bt295.2 then (if bt297.1 = bt299.1 then (if bt297.2 = bt299.2 then ((foolscaplaw15_lives.f k).bind fun t301 => (some t301)) else (some false)) else (some false)) else (some false)) else (some false)) else (some false)) else (some false)) else (some false)) else (some false)) else (some false)) else (some false)) else (some false)) else (some false)))))))))) = some r := H
  have A6 := Aside0.mk A60
  clear A60
  replace H := Option.bind_eq_some_iff.mp H
  obtain ⟨⟨t285, t286⟩, A70, H⟩ := H
  replace H : ((foolscapref15_Even.f k a0).bind fun bt287 => ((maths_Odd.f k a0).bind fun bt289 => ((foolscapref15_Odd.f k a0).bind fun bt291 => ((maths_Abs.f a0).bind fun bt293 => ((foolscapref15_Abs.f a0).bind fun bt295 => ((maths_Sign.f a0).bind fun bt297 => ((foolscapref15_Sign.f a0).bind fun bt299 => (if t277 = t279 then (if t278 = t280 then (if t281 = t283 then (if t282 = t284 then (if t285 = bt287.1 then (if t286 = bt287.2 then (if bt289.1 = bt291.1 then (if bt289.2 = bt291.2 then (if bt293.1 = bt295.1 then (if bt293.2 = bt295.2 then (if bt297.1 = bt299.1 then (if bt297.2 = bt299.2 then ((foolscaplaw15_lives.f k).bind fun t301 => (some t301)) else (some false)) else (some false)) else (some false)) else (some false)) else (some false)) else (some false)) else (some false)) else (some false)) else (some false)) else (some false)) else (some false)) else (some false))))))))) = some r := H
  have A7 := Aside0.mk A70
  clear A70
  replace H := Option.bind_eq_some_iff.mp H
  obtain ⟨⟨t287, t288⟩, A80, H⟩ := H
  replace H : ((maths_Odd.f k a0).bind fun bt289 => ((foolscapref15_Odd.f k a0).bind fun bt291 => ((maths_Abs.f a0).bind fun bt293 => ((foolscapref15_Abs.f a0).bind fun bt295 => ((maths_Sign.f a0).bind fun bt297 => ((foolscapref15_Sign.f a0).bind fun bt299 => (if t277 = t279 then (if t278 = t280 then (if t281 = t283 then (if t282 = t284 then (if t285 = t287 then (if t286 = t288 then (if bt289.1 = bt291.1 then (if bt289.2 = bt291.2 then (if bt293.1 = bt295.1 then (if bt293.2 = bt295.2 then (if bt297.1 = bt299.1 then (if bt297.2 = bt299.2 then ((foolscaplaw15_lives.f k).bind fun t301 => (some t301)) else (some false)) else (some false)) else (some false)) else (some false)) else (some false)) else (some false)) else (some false)) else (some false)) else (some false)) else (some false)) else (some false)) else (some false)))))))) = some r := H
  have A8 := Aside0.mk A80
  clear A80
  replace H := Option.bind_eq_some_iff.mp H
  obtain ⟨⟨t289, t290⟩, A90, H⟩ := H
  replace H : ((foolscapref15_Odd.f k a0).bind fun bt291 => ((maths_Abs.f a0).bind fun bt293 => ((foolscapref15_Abs.f a0).bind fun bt295 => ((maths_Sign.f a0).bind fun bt297 => ((foolscapref15_Sign.f a0).bind fun bt299 => (if t277 = t279 then (if t278 = t280 then (if t281 = t283 then (if t282 = t284 then (if t285 = t287 then (if t286 = t288 then (if t289 = bt291.1 then (if t290 = bt291.2 then (if bt293.1 = bt295.1 then (if bt293.2 = bt295.2 then (if bt297.1 = bt299.1 then (if bt297.2 = bt299.2 then ((foolscaplaw15_lives.f k).bind fun t301 => (some t301)) else (some false)) else (some false)) else (some false)) else (some false)) else (some false)) else (some false)) else (some false)) else (some false)) else (some false)) else (some false)) else (some false)) else (some false))))))) = some r := H
  have A9 := Aside0.mk A90
  clear A90
  replace H := Option.bind_eq_some_iff.mp H
  obtain ⟨⟨t291, t292⟩, A100, H⟩ := H
  replace H : ((maths_Abs.f a0).bind fun bt293 => ((foolscapref15_Abs.f a0).bind fun bt295 => ((maths_Sign.f a0).bind fun bt297 => ((foolscapref15_Sign.f a0).bind fun bt299 => (if t277 = t279 then (if t278 = t280 then (if t281 = t283 then (if t282 = t284 then (if t285 = t287 then (if t286 = t288 then (if t289 = t291 then (if t290 = t292 then (if bt293.1 = bt295.1 then (if bt293.2 = bt295.2 then (if bt297.1 = bt299.1 then (if bt297.2 = bt299.2 then ((foolscaplaw15_lives.f k).bind fun t301 => (some t301)) else (some false)) else (some false)) else (some false)) else (some false)) else (some false)) else (some false)) else (some false)) else (some false)) else (some false)) else (some false)) else (some false)) else (some false)))))) = some r := H
  have A10 := Aside0.mk A100
  clear A100
  replace H := Option.bind_eq_some_iff.mp H
  obtain ⟨⟨t293, t294⟩, A110, H⟩ := H
  replace H : ((foolscapref15_Abs.f a0).bind fun bt295 => ((maths_Sign.f a0).bind fun bt297 => ((foolscapref15_Sign.f a0).bind fun bt299 => (if t277 = t279 then (if t278 = t280 then (if t281 = t283 then (if t282 = t284 then (if t285 = t287 then (if t286 = t288 then (if t289 = t291 then (if t290 = t292 then (if t293 = bt295.1 then (if t294 = bt295.2 then (if bt297.1 = bt299.1 then (if bt297.2 = bt299.2 then ((foolscaplaw15_lives.f k).bind fun t301 => (some t301)) else (some false)) else (some false)) else (some false)) else (some false)) else (some false)) else (some false)) else (some false)) else (some false)) else (some false)) else (some false)) else (some false)) else (some false))))) = some r := H
  have A11 := Aside0.mk A110
  clear A110
  replace H := Option.bind_eq_some_iff.mp H
  obtain ⟨⟨t295, t296⟩, A120, H⟩ := H
  replace H : ((maths_Sign.f a0).bind fun bt297 => ((foolscapref15_Sign.f a0).bind fun bt299 => (if t277 = t279 then (if t278 = t280 then (if t281 = t283 then (if t282 = t284 then (if t285 = t287 then (if t286 = t288 then (if t289 = t291 then (if t290 = t292 then (if t293 = t295 then (if t294 = t296 then (if bt297.1 = bt299.1 then (if bt297.2 = bt299.2 then ((foolscaplaw15_lives.f k).bind fun t301 => (some t301)) else (some false)) else (some false)) else (some false)) else (some false)) else (some false)) else (some false)) else (some false)) else (some false)) else (some false)) else (some false)) else (some false)) else (some false)))) = some r := H
  have A12 := Aside0.mk A120
  clear A120
  replace H := Option.bind_eq_some_iff.mp H
  obtain ⟨⟨t297, t298⟩, A130, H⟩ := H
  replace H : ((foolscapref15_Sign.f a0).bind fun bt299 => (if t277 = t279 then (if t278 = t280 then (if t281 = t283 then (if t282 = t284 then (if t285 = t287 then (if t286 = t288 then (if t289 = t291 then (if t290 = t292 then (if t293 = t295 then (if t294 = t296 then (if t297 = bt299.1 then (if t298 = bt299.2 then ((foolscaplaw15_lives.f k).bind fun t301 => (some t301)) else (some false)) else (some false)) else (some false)) else (some false)) else (some false)) else (some false)) else (some false)) else (some false)) else (some false)) else (some false)) else (some false)) else (some false))) = some r := H
  have A13 := Aside0.mk A130
  clear A130
  replace H := Option.bind_eq_some_iff.mp H
  obtain ⟨⟨t299, t300⟩, A140, H⟩ := H
  replace H : (if t277 = t279 then (if t278 = t280 then (if t281 = t283 then (if t282 = t284 then (if t285 = t287 then (if t286 = t288 then (if t289 = t291 then (if t290 = t292 then (if t293 = t295 then (if t294 = t296 then (if t297 = t299 then (if t298 = t300 then ((foolscaplaw15_lives.f k).bind fun t301 => (some t301)) else (some false)) else (some false)) else (some false)) else (some false)) else (some false)) else (some false)) else (some false)) else (some false)) else (some false)) else (some false)) else (some false)) else (some false)) = some r := H
  have A14 := Aside0.mk A140
  clear A140
  by_cases c15 : t277 = t279
  · rw [if_pos c15] at H
    have c15b0 : (t277 == t279) = true := beq_iff_eq.mpr c15
    have c15b1 : (t277 != t279) = false := bne_eq_false_iff_eq.mpr c15
    clear c15
    by_cases c16 : t278 = t280
    · rw [if_pos c16] at H
      have c16b0 : (t278 == t280) = true := beq_iff_eq.mpr c16
      have c16b1 : (t278 != t280) = false := bne_eq_false_iff_eq.mpr c16
      clear c16
      by_cases c17 : t281 = t283
      · rw [if_pos c17] at H
        have c17b0 : (t281 == t283) = true := beq_iff_eq.mpr c17
        have c17b1 : (t281 != t283) = false := bne_eq_false_iff_eq.mpr c17
        clear c17
        by_cases c18 : t282 = t284
        · rw [if_pos c18] at H
          have c18b0 : (t282 == t284) = true := beq_iff_eq.mpr c18
          have c18b1 : (t282 != t284) = false := bne_eq_false_iff_eq.mpr c18
          clear c18
          by_cases c19 : t285 = t287
          · rw [if_pos c19] at H
            have c19b0 : (t285 == t287) = true := beq_iff_eq.mpr c19
            have c19b1 : (t285 != t287) = false := bne_eq_false_iff_eq.mpr c19
            clear c19
            by_cases c20 : t286 = t288
            · rw [if_pos c20] at H
              have c20b0 : (t286 == t288) = true := beq_iff_eq.mpr c20
              have c20b1 : (t286 != t288) = false := bne_eq_false_iff_eq.mpr c20
              clear c20
              by_cases c21 : t289 = t291
              · rw [if_pos c21] at H
                have c21b0 : (t289 == t291) = true := beq_iff_eq.mpr c21
                have c21b1 : (t289 != t291) = false := bne_eq_false_iff_eq.mpr c21
                clear c21
                by_cases c22 : t290 = t292
                · rw [if_pos c22] at H
                  have c22b0 : (t290 == t292) = true := beq_iff_eq.mpr c22
                  have c22b1 : (t290 != t292) = false := bne_eq_false_iff_eq.mpr c22
                  clear c22
                  by_cases c23 : t293 = t295
                  · rw [if_pos c23] at H
                    have c23b0 : (t293 == t295) = true := beq_iff_eq.mpr c23
                    have c23b1 : (t293 != t295) = false := bne_eq_false_iff_eq.mpr c23
                    clear c23
                    by_cases c24 : t294 = t296
                    · rw [if_pos c24] at H
                      have c24b0 : (t294 == t296) = true := beq_iff_eq.mpr c24
                      have c24b1 : (t294 != t296) = false := bne_eq_false_iff_eq.mpr c24
                      clear c24
                      by_cases c25 : t297 = t299
                      · rw [if_pos c25] at H
                        have c25b0 : (t297 == t299) = true := beq_iff_eq.mpr c25
                        have c25b1 : (t297 != t299) = false := bne_eq_false_iff_eq.mpr c25
                        clear c25
                        by_cases c26 : t298 = t300
                        · rw [if_pos c26] at H
                          have c26b0 : (t298 == t300) = true := beq_iff_eq.mpr c26
                          have c26b1 : (t298 != t300) = false := bne_eq_false_iff_eq.mpr c26
                          clear c26
                          replace H := Option.bind_eq_some_iff.mp H
                          obtain ⟨t301, A270, H⟩ := H
                          replace H : (some t301) = some r := H
                          have A27 := Aside0.mk A270
                          clear A270
                          obtain rfl := Option.some.inj H
                          simp only [Option.some.injEq, Prod.mk.injEq] at H
                          obtain ⟨rfl⟩ := H
                          go_enter Try.func11, Try.ntmps11
                          go_wp2_with (first | ((with_reducible refine gate_callee (f := 26) rfl ?_); refine goesL_ (some 32) rfl rfl Try.func26 (by kernel_rfl) rfl #[.int .i64 a0, .int .i64 a1] rfl (by (try simp only [List.map_toArray, List.map_cons, List.map_nil]); first | done | rfl | (simp only [List.length_drop, List.length_take]; rfl)) ?_; (with_reducible refine (maths_Up.calls k a0 a1 t277 t278 _ A3.out).mono ?_); rintro e w' ⟨rfl, ⟨nd, rfl⟩⟩; refine ⟨_, rfl, ?_⟩) | ((with_reducible refine gate_callee (f := 35) rfl ?_); refine goesL_ (some 38) rfl rfl Try.func35 (by kernel_rfl) rfl #[.int .i64 a0, .int .i64 a1] rfl (by (try simp only [List.map_toArray, List.map_cons, List.map_nil]); first | done | rfl | (simp only [List.length_drop, List.length_take]; rfl)) ?_; (with_reducible refine (foolscapref15_Up.calls k a0 a1 t279 t280 _ A4.out).mono ?_); rintro e w' ⟨rfl, ⟨nd, rfl⟩⟩; refine ⟨_, rfl, ?_⟩) | ((with_reducible refine gate_callee (f := 27) rfl ?_); refine goesL_ (some 44) rfl rfl Try.func27 (by kernel_rfl) rfl #[.int .i64 a0, .int .i64 a1] rfl (by (try simp only [List.map_toArray, List.map_cons, List.map_nil]); first | done | rfl | (simp only [List.length_drop, List.length_take]; rfl)) ?_; (with_reducible refine (maths_Down.calls k a0 a1 t281 t282 _ A5.out).mono ?_); rintro e w' ⟨rfl, ⟨nd, rfl⟩⟩; refine ⟨_, rfl, ?_⟩) | ((with_reducible refine gate_callee (f := 36) rfl ?_); refine goesL_ (some 50) rfl rfl Try.func36 (by kernel_rfl) rfl #[.int .i64 a0, .int .i64 a1] rfl (by (try simp only [List.map_toArray, List.map_cons, List.map_nil]); first | done | rfl | (simp only [List.length_drop, List.length_take]; rfl)) ?_; (with_reducible refine (foolscapref15_Down.calls k a0 a1 t283 t284 _ A6.out).mono ?_); rintro e w' ⟨rfl, ⟨nd, rfl⟩⟩; refine ⟨_, rfl, ?_⟩) | ((with_reducible refine gate_callee (f := 30) rfl ?_); refine goesL_ (some 55) rfl rfl Try.func30 (by kernel_rfl) rfl #[.int .i64 a0] rfl (by (try simp only [List.map_toArray, List.map_cons, List.map_nil]); first | done | rfl | (simp only [List.length_drop, List.length_take]; rfl)) ?_; (with_reducible refine (maths_Even.calls k a0 t285 t286 _ A7.out).mono ?_); rintro e w28 ⟨rfl, hb⟩; refine ⟨_, rfl, ?_⟩; have n0_ := Aside0.mk (below_step (by repeat (first | (with_reducible first | exact HB.out | apply below_alloc | apply pw_below_drewN | apply below_drew1) | exact HB.out)) hb); clear HB; have HB := n0_; clear n0_; (try clear hb); (try clear hb2); (try clear hk); (try clear hi)) | ((with_reducible refine gate_callee (f := 37) rfl ?_); refine goesL_ (some 60) rfl rfl Try.func37 (by kernel_rfl) rfl #[.int .i64 a0] rfl (by (try simp only [List.map_toArray, List.map_cons, List.map_nil]); first | done | rfl | (simp only [List.length_drop, List.length_take]; rfl)) ?_; (with_reducible refine (foolscapref15_Even.calls k a0 t287 t288 _ A8.out).mono ?_); rintro e w' ⟨rfl, ⟨nd, rfl⟩⟩; refine ⟨_, rfl, ?_⟩) | ((with_reducible refine gate_callee (f := 38) rfl ?_); refine goesL_ (some 65) rfl rfl Try.func38 (by kernel_rfl) rfl #[.int .i64 a0] rfl (by (try simp only [List.map_toArray, List.map_cons, List.map_nil]); first | done | rfl | (simp only [List.length_drop, List.length_take]; rfl)) ?_; (with_reducible refine (maths_Odd.calls k a0 t289 t290 _ A9.out).mono ?_); rintro e w29 ⟨rfl, hb⟩; refine ⟨_, rfl, ?_⟩; have n0_ := Aside0.mk (below_step (by repeat (first | (with_reducible first | exact HB.out | apply below_alloc | apply pw_below_drewN | apply below_drew1) | exact HB.out)) hb); clear HB; have HB := n0_; clear n0_; (try clear hb); (try clear hb2); (try clear hk); (try clear hi)) | ((with_reducible refine gate_callee (f := 39) rfl ?_); refine goesL_ (some 70) rfl rfl Try.func39 (by kernel_rfl) rfl #[.int .i64 a0] rfl (by (try simp only [List.map_toArray, List.map_cons, List.map_nil]); first | done | rfl | (simp only [List.length_drop, List.length_take]; rfl)) ?_; (with_reducible refine (foolscapref15_Odd.calls k a0 t291 t292 _ A10.out).mono ?_); rintro e w' ⟨rfl, ⟨nd, rfl⟩⟩; refine ⟨_, rfl, ?_⟩) | ((with_reducible refine gate_callee (f := 40) rfl ?_); refine goesL_ (some 75) rfl rfl Try.func40 (by kernel_rfl) rfl #[.int .i64 a0] rfl (by (try simp only [List.map_toArray, List.map_cons, List.map_nil]); first | done | rfl | (simp only [List.length_drop, List.length_take]; rfl)) ?_; (with_reducible refine (maths_Abs.calls a0 t293 t294 _ A11.out).mono ?_); rintro e w30 ⟨rfl, hb⟩; refine ⟨_, rfl, ?_⟩; have n0_ := Aside0.mk (below_step (by repeat (first | (with_reducible first | exact HB.out | apply below_alloc | apply pw_below_drewN | apply below_drew1) | exact HB.out)) hb); clear HB; have HB := n0_; clear n0_; (try clear hb); (try clear hb2); (try clear hk); (try clear hi)) | ((with_reducible refine gate_callee (f := 41) rfl ?_); refine goesL_ (some 80) rfl rfl Try.func41 (by kernel_rfl) rfl #[.int .i64 a0] rfl (by (try simp only [List.map_toArray, List.map_cons, List.map_nil]); first | done | rfl | (simp only [List.length_drop, List.length_take]; rfl)) ?_; (with_reducible refine (foolscapref15_Abs.calls a0 t295 t296 _ A12.out).mono ?_); rintro e w31 ⟨rfl, hb⟩; refine ⟨_, rfl, ?_⟩; have n0_ := Aside0.mk (below_step (by repeat (first | (with_reducible first | exact HB.out | apply below_alloc | apply pw_below_drewN | apply below_drew1) | exact HB.out)) hb); clear HB; have HB := n0_; clear n0_; (try clear hb); (try clear hb2); (try clear hk); (try clear hi)) | ((with_reducible refine gate_callee (f := 42) rfl ?_); refine goesL_ (some 85) rfl rfl Try.func42 (by kernel_rfl) rfl #[.int .i64 a0] rfl (by (try simp only [List.map_toArray, List.map_cons, List.map_nil]); first | done | rfl | (simp only [List.length_drop, List.length_take]; rfl)) ?_; (with_reducible refine (maths_Sign.calls a0 t297 t298 _ A13.out).mono ?_); rintro e w32 ⟨rfl, hb⟩; refine ⟨_, rfl, ?_⟩; have n0_ := Aside0.mk (below_step (by repeat (first | (with_reducible first | exact HB.out | apply below_alloc | apply pw_below_drewN | apply below_drew1) | exact HB.out)) hb); clear HB; have HB := n0_; clear n0_; (try clear hb); (try clear hb2); (try clear hk); (try clear hi)) | ((with_reducible refine gate_callee (f := 43) rfl ?_); refine goesL_ (some 90) rfl rfl Try.func43 (by kernel_rfl) rfl #[.int .i64 a0] rfl (by (try simp only [List.map_toArray, List.map_cons, List.map_nil]); first | done | rfl | (simp only [List.length_drop, List.length_take]; rfl)) ?_; (with_reducible refine (foolscapref15_Sign.calls a0 t299 t300 _ A14.out).mono ?_); rintro e w' ⟨rfl, ⟨nd, rfl⟩⟩; refine ⟨_, rfl, ?_⟩) | (go_at_call 18; (with_reducible refine (foolscaplaw15_lives.calls k  t301 _ A27.out).mono ?_); rintro e w33 ⟨rfl, hb⟩; have n0_ := Aside0.mk (below_step (by repeat (first | (with_reducible first | exact HB.out | apply below_alloc | apply pw_below_drewN | apply below_drew1) | exact HB.out)) hb); clear HB; have HB := n0_; clear n0_; (try clear hb); (try clear hb2); (try clear hk); (try clear hi)))
                          go_ret
                          exact ⟨by first | rfl | (simp [errW_none, errW_some] <;> rfl) | (simp [*, errW_none, errW_some] <;> rfl), by repeat (first | (with_reducible first | exact HB.out | apply below_alloc | apply pw_below_drewN | apply below_drew1) | exact HB.out)⟩
                        · rw [if_neg c26] at H
                          have c26b0 : (t298 == t300) = false := beq_eq_false_iff_ne.mpr c26
                          have c26b1 : (t298 != t300) = true := bne_iff_ne.mpr c26
                          obtain rfl := Option.some.inj H
                          exact absurd HR_.out (by decide)
                      · rw [if_neg c25] at H
                        have c25b0 : (t297 == t299) = false := beq_eq_false_iff_ne.mpr c25
                        have c25b1 : (t297 != t299) = true := bne_iff_ne.mpr c25
                        obtain rfl := Option.some.inj H
                        exact absurd HR_.out (by decide)
                    · rw [if_neg c24] at H
                      have c24b0 : (t294 == t296) = false := beq_eq_false_iff_ne.mpr c24
                      have c24b1 : (t294 != t296) = true := bne_iff_ne.mpr c24
                      obtain rfl := Option.some.inj H
                      exact absurd HR_.out (by decide)
                  · rw [if_neg c23] at H
                    have c23b0 : (t293 == t295) = false := beq_eq_false_iff_ne.mpr c23
                    have c23b1 : (t293 != t295) = true := bne_iff_ne.mpr c23
                    obtain rfl := Option.some.inj H
                    exact absurd HR_.out (by decide)
                · rw [if_neg c22] at H
                  have c22b0 : (t290 == t292) = false := beq_eq_false_iff_ne.mpr c22
                  have c22b1 : (t290 != t292) = true := bne_iff_ne.mpr c22
                  obtain rfl := Option.some.inj H
                  exact absurd HR_.out (by decide)
              · rw [if_neg c21] at H
                have c21b0 : (t289 == t291) = false := beq_eq_false_iff_ne.mpr c21
                have c21b1 : (t289 != t291) = true := bne_iff_ne.mpr c21
                obtain rfl := Option.some.inj H
                exact absurd HR_.out (by decide)
            · rw [if_neg c20] at H
              have c20b0 : (t286 == t288) = false := beq_eq_false_iff_ne.mpr c20
              have c20b1 : (t286 != t288) = true := bne_iff_ne.mpr c20
              obtain rfl := Option.some.inj H
              exact absurd HR_.out (by decide)
          · rw [if_neg c19] at H
            have c19b0 : (t285 == t287) = false := beq_eq_false_iff_ne.mpr c19
            have c19b1 : (t285 != t287) = true := bne_iff_ne.mpr c19
            obtain rfl := Option.some.inj H
            exact absurd HR_.out (by decide)
        · rw [if_neg c18] at H
          have c18b0 : (t282 == t284) = false := beq_eq_false_iff_ne.mpr c18
          have c18b1 : (t282 != t284) = true := bne_iff_ne.mpr c18
          obtain rfl := Option.some.inj H
          exact absurd HR_.out (by decide)
      · rw [if_neg c17] at H
        have c17b0 : (t281 == t283) = false := beq_eq_false_iff_ne.mpr c17
        have c17b1 : (t281 != t283) = true := bne_iff_ne.mpr c17
        obtain rfl := Option.some.inj H
        exact absurd HR_.out (by decide)
    · rw [if_neg c16] at H
      have c16b0 : (t278 == t280) = false := beq_eq_false_iff_ne.mpr c16
      have c16b1 : (t278 != t280) = true := bne_iff_ne.mpr c16
      obtain rfl := Option.some.inj H
      exact absurd HR_.out (by decide)
  · rw [if_neg c15] at H
    have c15b0 : (t277 == t279) = false := beq_eq_false_iff_ne.mpr c15
    have c15b1 : (t277 != t279) = true := bne_iff_ne.mpr c15
    obtain rfl := Option.some.inj H
    exact absurd HR_.out (by decide)

/-- THE ONE PURE STATEMENT of foolscaplaw15_MathsRounds: yours. -/
def foolscaplaw15_MathsRounds.Pure : Prop := ∀ (a0 : Int) (a1 : Int), (Lit.int .i64 a0).wf = true → (Lit.int .i64 a1).wf = true → ∃ k, foolscaplaw15_MathsRounds.f k a0 a1 = some true
theorem foolscaplaw15_MathsRounds.walk (P : foolscaplaw15_MathsRounds.Pure) (a0 : Int) (a1 : Int) (w : World) (w0 : (Lit.int .i64 a0).wf = true) (w1 : (Lit.int .i64 a1).wf = true) :
    Calls Try.prog 11 #[.int .i64 a0, .int .i64 a1] w fun e w' => e = .returned (.bool true) ∧ Below w.heap.size w w' := by
  obtain ⟨k, h⟩ := P a0 a1 w0 w1
  refine (foolscaplaw15_MathsRounds.calls k a0 a1 true w h rfl).mono ?_
  rintro e w' ⟨rfl, hd⟩
  exact ⟨rfl, hd⟩

end Go.Proofs.Ytklkanaabmehkaa.PR
