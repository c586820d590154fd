-- Written by this session's own program xprint.py, over the translation. Not trusted: Lean checks it.
import Derived.Test.YtagohdalabhheaaPBx0
import Derived.Test.YtagohdalabhheaaPBx5
import Derived.Test.YtagohdalabhheaaPBx6
import Derived.Test.YtagohdalabhheaaPBx7
import Derived.Test.YtagohdalabhheaaPBx8
import Derived.Test.YtagohdalabhheaaPBx9
import Derived.Test.YtagohdalabhheaaPBx11
namespace Go.Proofs.Ytagohdalabhheaa.PB
open Go.RowKit Go.Proofs.YtagohdalabhheaaW.PrintWords Go.Proofs.YtagohdalabhheaaW.PrintLast Go.Proofs.YtagohdalabhheaaW.PrintMore
attribute [local go_sem] max2_int min2_int max_two min_two max_three min_three max_four min_four   -- for this text's walks alone
set_option linter.unusedVariables false
set_option linter.unusedSimpArgs false

/-! ### foolscapref16_Mode: function 30 -/
def foolscapref16_Mode.l0 : Nat → List Int → Int → Int → Int → Option (Int × Int)
  | 0, _, _, _, _ => none
  | k + 1, x0, x4, x5, x6 => if x6 < (x0.length : Int) then (if 0 ≤ x6 then ((foolscapref16_often.f k x0 (rd x0 x6)).bind fun t306 => (if t306 > x4 then (foolscapref16_Mode.l0 k x0 t306 (rd x0 x6) (wrap64 (x6 + 1))) else (foolscapref16_Mode.l0 k x0 x4 x5 (wrap64 (x6 + 1))))) else (none)) else (if x4 < 2 then (some (0, 6)) else (some (x5, 0)))
def foolscapref16_Mode.f (k : Nat) (l0 : List Int) : Option (Int × Int) := (foolscapref16_good.f k l0).bind fun t304 => (if t304 = true then (foolscapref16_Mode.l0 k l0 1 0 0) else (some (0, 5)))
theorem foolscapref16_Mode.mono_l : ∀ k, (∀ y0 y1 y2 y3, LeO (foolscapref16_Mode.l0 k y0 y1 y2 y3) (foolscapref16_Mode.l0 (k + 1) y0 y1 y2 y3))
  | 0 => fun _ _ _ _ r h => by simp [foolscapref16_Mode.l0] at h
  | k + 1 => by
    have ih0 := foolscapref16_Mode.mono_l k
    · intro y0 y1 y2 y3
      unfold foolscapref16_Mode.l0
      repeat' first
      | (with_reducible exact ih0 _ _ _ _)
      | (with_reducible exact foolscapref16_good.mono _ _)
      | (with_reducible exact foolscapref16_often.mono _ _ _)
      | (with_reducible exact LeO.refl _)
      | (with_reducible exact LeO.none _)
      | (with_reducible refine LeO.ite ?_ ?_)
      | (with_reducible refine LeO.bind ?_ (fun _ => ?_))
      | exact ih0 _ _ _ _
      | exact foolscapref16_good.mono _ _
      | exact foolscapref16_often.mono _ _ _
      | exact LeO.none _
      | refine LeO.ite ?_ ?_
      | refine LeO.bind ?_ (fun _ => ?_)
theorem foolscapref16_Mode.mono : ∀ a0 k, LeO (foolscapref16_Mode.f k a0) (foolscapref16_Mode.f (k + 1) a0) := by
  intro a0 k
  have ih0 := foolscapref16_Mode.mono_l k
  unfold foolscapref16_Mode.f
  repeat' first
      | (with_reducible exact ih0 _ _ _ _)
      | (with_reducible exact foolscapref16_good.mono _ _)
      | (with_reducible exact foolscapref16_often.mono _ _ _)
      | (with_reducible exact LeO.refl _)
      | (with_reducible exact LeO.none _)
      | (with_reducible refine LeO.ite ?_ ?_)
      | (with_reducible refine LeO.bind ?_ (fun _ => ?_))
      | exact ih0 _ _ _ _
      | exact foolscapref16_good.mono _ _
      | exact foolscapref16_often.mono _ _ _
      | exact LeO.none _
      | refine LeO.ite ?_ ?_
      | refine LeO.bind ?_ (fun _ => ?_)
set_option maxHeartbeats 8000000 in
set_option maxRecDepth 100000 in
theorem foolscapref16_Mode.calls (k : Nat) (A0 : Option Addr) (c0 : Nat) (l0 : List Int) (r1 : Int) (r2 : Int) (w : World) (hr0 : Kd.C (Kd.int .i64) w A0 l0.length l0) (hc0 : l0.length ≤ c0) (h : foolscapref16_Mode.f k l0 = some (r1, r2)) :
    Calls Try.prog 30 #[.slice A0 l0.length c0] w fun e w' => e = .returned (.tuple #[.int .i64 r1, .int .i64 r2]) ∧ Drawn0 w w' := by
  have HR0 := Aside0.mk hr0
  have HC0 := Aside0.mk hc0
  clear hr0 hc0
  have H : ((foolscapref16_good.f k l0).bind fun t304 => (if t304 = true then (foolscapref16_Mode.l0 k l0 1 0 0) else (some (0, 5)))) = some (r1, r2) := h
  clear h
  replace H := Option.bind_eq_some_iff.mp H
  obtain ⟨t304, A20, H⟩ := H
  replace H : (if t304 = true then (foolscapref16_Mode.l0 k l0 1 0 0) else (some (0, 5))) = some (r1, r2) := H
  have A2 := Aside0.mk A20
  clear A20
  by_cases c3 : t304 = true
  · subst c3
    have H1 : (foolscapref16_Mode.l0 k l0 1 0 0) = some (r1, r2) := by rw [if_pos rfl] at H; exact H
    clear H
    have H := H1
    clear H1
    have H' := Aside0.mk H
    clear H
    go_enter Try.func30, Try.ntmps30
    go_wp2_with (first | (go_at_call 32; (with_reducible refine (foolscapref16_good.calls k _ _ l0 true _ ?side1 ?side2 A2.out).mono ?_); (case side1 => repeat (first | exact HR0.out | (with_reducible refine Kd.C_alloc ?_ _) | (with_reducible refine Kd.C_drewN ?_ _) | (with_reducible refine Kd.C_drew ?_))); (case side2 => exact HC0.out); rintro e w' ⟨rfl, ⟨nd, rfl⟩⟩; (try first | exact ⟨rfl, _, World.drewN_drewN _ _ _⟩ | exact ⟨rfl, _, Eq.trans (World.drewN_drewN _ _ _) (congrArg (World.drewN _) (Nat.add_assoc _ _ _))⟩)))
    repeat (go_quiet (first | (go_at_call 32; (with_reducible refine (foolscapref16_good.calls k _ _ l0 true _ ?side1 ?side2 A2.out).mono ?_); (case side1 => repeat (first | exact HR0.out | (with_reducible refine Kd.C_alloc ?_ _) | (with_reducible refine Kd.C_drewN ?_ _) | (with_reducible refine Kd.C_drew ?_))); (case side2 => exact HC0.out); rintro e w' ⟨rfl, ⟨nd, rfl⟩⟩; (try first | exact ⟨rfl, _, World.drewN_drewN _ _ _⟩ | exact ⟨rfl, _, Eq.trans (World.drewN_drewN _ _ _) (congrArg (World.drewN _) (Nat.add_assoc _ _ _))⟩))); try go_wp2_with (first | (go_at_call 32; (with_reducible refine (foolscapref16_good.calls k _ _ l0 true _ ?side1 ?side2 A2.out).mono ?_); (case side1 => repeat (first | exact HR0.out | (with_reducible refine Kd.C_alloc ?_ _) | (with_reducible refine Kd.C_drewN ?_ _) | (with_reducible refine Kd.C_drew ?_))); (case side2 => exact HC0.out); rintro e w' ⟨rfl, ⟨nd, rfl⟩⟩; (try first | exact ⟨rfl, _, World.drewN_drewN _ _ _⟩ | exact ⟨rfl, _, Eq.trans (World.drewN_drewN _ _ _) (congrArg (World.drewN _) (Nat.add_assoc _ _ _))⟩))))
    go_loopg [4, 5, 6] k (fun kq v4 v5 v6 w' => ∃ (x4_1 : Int) (x5_1 : Int) (x6_1 : Int), v4 = .int .i64 x4_1 ∧ v5 = .int .i64 x5_1 ∧ v6 = .int .i64 x6_1 ∧ Aside0 (foolscapref16_Mode.l0 kq l0 x4_1 x5_1 x6_1 = some (r1, r2)) ∧ Aside0 (kq ≤ k) ∧ Drawn0 w w')
    case atStart => exact ⟨(1), (0), (0), (by first | rfl | (simp; done) | (simp [*]; done)), (by first | rfl | (simp; done) | (simp [*]; done)), (by first | rfl | (simp; done) | (simp [*]; done)), H', ⟨Nat.le_refl _⟩, by repeat (first | exact Drawn0.refl _ | apply Drawn0.step)⟩
    case round =>
      clear H'
      try clear p2
      try clear c3
      obtain ⟨x4_1, x5_1, x6_1, rfl, rfl, rfl, HA, HK1, ⟨m1, rfl⟩⟩ := hrel
      cases gk with
      | zero => exact absurd HA.out (by simp [foolscapref16_Mode.l0])
      | succ k1 =>
        have H := HA.out
        clear HA
        simp only [foolscapref16_Mode.l0] at H
        by_cases c4 : x6_1 < (l0.length : Int)
        · rw [if_pos c4] at H
          have c4b0 : decide (x6_1 < (l0.length : Int)) = true := decide_eq_true c4
          clear c4
          by_cases c5 : 0 ≤ x6_1
          · rw [if_pos c5] at H
            have c5b0 : decide (0 ≤ x6_1) = true := decide_eq_true c5
            clear c5
            replace H := Option.bind_eq_some_iff.mp H
            obtain ⟨t306, A60, H⟩ := H
            replace H : (if t306 > x4_1 then (foolscapref16_Mode.l0 k1 l0 t306 (rd l0 x6_1) (wrap64 (x6_1 + 1))) else (foolscapref16_Mode.l0 k1 l0 x4_1 x5_1 (wrap64 (x6_1 + 1)))) = some (r1, r2) := H
            have A6 := Aside0.mk A60
            clear A60
            by_cases c7 : t306 > x4_1
            · rw [if_pos c7] at H
              have c7b0 : decide (x4_1 < t306) = true := decide_eq_true c7
              clear c7
              have H' := Aside0.mk H
              clear H
              have p305 : 0 ≤ (x6_1 : Int) := of_decide_eq_true (by first | (with_reducible assumption) | assumption)
              have q305 : x6_1 < (l0.length : Int) := of_decide_eq_true (by first | (with_reducible assumption) | assumption)
              obtain ⟨ad305, e305, hx305_0⟩ := Kd.at_int HR0.out x6_1 p305 q305
              cases e305
              replace p305 := eq_true p305
              replace q305 := eq_true q305
              go_wp2_with (first | (go_at_call 39; (with_reducible refine (foolscapref16_often.calls k1 _ _ l0 (rd l0 x6_1) t306 _ ?side1 ?side2 A6.out).mono ?_); (case side1 => repeat (first | exact HR0.out | (with_reducible refine Kd.C_alloc ?_ _) | (with_reducible refine Kd.C_drewN ?_ _) | (with_reducible refine Kd.C_drew ?_))); (case side2 => exact HC0.out); rintro e w' ⟨rfl, ⟨nd, rfl⟩⟩; (try first | exact ⟨rfl, _, World.drewN_drewN _ _ _⟩ | exact ⟨rfl, _, Eq.trans (World.drewN_drewN _ _ _) (congrArg (World.drewN _) (Nat.add_assoc _ _ _))⟩); have p307 : 0 ≤ (x6_1 : Int) := of_decide_eq_true (by first | (with_reducible assumption) | assumption); have q307 : x6_1 < (l0.length : Int) := of_decide_eq_true (by first | (with_reducible assumption) | assumption); obtain ⟨ad307, e307, hx307_0⟩ := Kd.at_int HR0.out x6_1 p307 q307; obtain rfl : ad305 = ad307 := (by injection e307); replace p307 := eq_true p307; replace q307 := eq_true q307))
              repeat (go_quiet (first | (go_at_call 39; (with_reducible refine (foolscapref16_often.calls k1 _ _ l0 (rd l0 x6_1) t306 _ ?side1 ?side2 A6.out).mono ?_); (case side1 => repeat (first | exact HR0.out | (with_reducible refine Kd.C_alloc ?_ _) | (with_reducible refine Kd.C_drewN ?_ _) | (with_reducible refine Kd.C_drew ?_))); (case side2 => exact HC0.out); rintro e w' ⟨rfl, ⟨nd, rfl⟩⟩; (try first | exact ⟨rfl, _, World.drewN_drewN _ _ _⟩ | exact ⟨rfl, _, Eq.trans (World.drewN_drewN _ _ _) (congrArg (World.drewN _) (Nat.add_assoc _ _ _))⟩); have p307 : 0 ≤ (x6_1 : Int) := of_decide_eq_true (by first | (with_reducible assumption) | assumption); have q307 : x6_1 < (l0.length : Int) := of_decide_eq_true (by first | (with_reducible assumption) | assumption); obtain ⟨ad307, e307, hx307_0⟩ := Kd.at_int HR0.out x6_1 p307 q307; obtain rfl : ad305 = ad307 := (by injection e307); replace p307 := eq_true p307; replace q307 := eq_true q307)); try go_wp2_with (first | (go_at_call 39; (with_reducible refine (foolscapref16_often.calls k1 _ _ l0 (rd l0 x6_1) t306 _ ?side1 ?side2 A6.out).mono ?_); (case side1 => repeat (first | exact HR0.out | (with_reducible refine Kd.C_alloc ?_ _) | (with_reducible refine Kd.C_drewN ?_ _) | (with_reducible refine Kd.C_drew ?_))); (case side2 => exact HC0.out); rintro e w' ⟨rfl, ⟨nd, rfl⟩⟩; (try first | exact ⟨rfl, _, World.drewN_drewN _ _ _⟩ | exact ⟨rfl, _, Eq.trans (World.drewN_drewN _ _ _) (congrArg (World.drewN _) (Nat.add_assoc _ _ _))⟩); have p307 : 0 ≤ (x6_1 : Int) := of_decide_eq_true (by first | (with_reducible assumption) | assumption); have q307 : x6_1 < (l0.length : Int) := of_decide_eq_true (by first | (with_reducible assumption) | assumption); obtain ⟨ad307, e307, hx307_0⟩ := Kd.at_int HR0.out x6_1 p307 q307; obtain rfl : ad305 = ad307 := (by injection e307); replace p307 := eq_true p307; replace q307 := eq_true q307)))
              go_roundg k1
              case measure => have := HK1.out; omega
              case rel => exact ⟨(t306), (rd l0 x6_1), (wrap64 (x6_1 + 1)), (by first | rfl | (simp; done) | (simp [*]; done)), (by first | rfl | (simp; done) | (simp [*]; done)), (by first | rfl | (simp; done) | (simp [*]; done)), H', ⟨by have := HK1.out; omega⟩, by repeat (first | exact Drawn0.refl _ | apply Drawn0.step)⟩
            · rw [if_neg c7] at H
              have c7b0 : decide (x4_1 < t306) = false := decide_eq_false c7
              clear c7
              have H' := Aside0.mk H
              clear H
              have p305 : 0 ≤ (x6_1 : Int) := of_decide_eq_true (by first | (with_reducible assumption) | assumption)
              have q305 : x6_1 < (l0.length : Int) := of_decide_eq_true (by first | (with_reducible assumption) | assumption)
              obtain ⟨ad305, e305, hx305_0⟩ := Kd.at_int HR0.out x6_1 p305 q305
              cases e305
              replace p305 := eq_true p305
              replace q305 := eq_true q305
              go_wp2_with (first | (go_at_call 39; (with_reducible refine (foolscapref16_often.calls k1 _ _ l0 (rd l0 x6_1) t306 _ ?side1 ?side2 A6.out).mono ?_); (case side1 => repeat (first | exact HR0.out | (with_reducible refine Kd.C_alloc ?_ _) | (with_reducible refine Kd.C_drewN ?_ _) | (with_reducible refine Kd.C_drew ?_))); (case side2 => exact HC0.out); rintro e w' ⟨rfl, ⟨nd, rfl⟩⟩; (try first | exact ⟨rfl, _, World.drewN_drewN _ _ _⟩ | exact ⟨rfl, _, Eq.trans (World.drewN_drewN _ _ _) (congrArg (World.drewN _) (Nat.add_assoc _ _ _))⟩)))
              repeat (go_quiet (first | (go_at_call 39; (with_reducible refine (foolscapref16_often.calls k1 _ _ l0 (rd l0 x6_1) t306 _ ?side1 ?side2 A6.out).mono ?_); (case side1 => repeat (first | exact HR0.out | (with_reducible refine Kd.C_alloc ?_ _) | (with_reducible refine Kd.C_drewN ?_ _) | (with_reducible refine Kd.C_drew ?_))); (case side2 => exact HC0.out); rintro e w' ⟨rfl, ⟨nd, rfl⟩⟩; (try first | exact ⟨rfl, _, World.drewN_drewN _ _ _⟩ | exact ⟨rfl, _, Eq.trans (World.drewN_drewN _ _ _) (congrArg (World.drewN _) (Nat.add_assoc _ _ _))⟩))); try go_wp2_with (first | (go_at_call 39; (with_reducible refine (foolscapref16_often.calls k1 _ _ l0 (rd l0 x6_1) t306 _ ?side1 ?side2 A6.out).mono ?_); (case side1 => repeat (first | exact HR0.out | (with_reducible refine Kd.C_alloc ?_ _) | (with_reducible refine Kd.C_drewN ?_ _) | (with_reducible refine Kd.C_drew ?_))); (case side2 => exact HC0.out); rintro e w' ⟨rfl, ⟨nd, rfl⟩⟩; (try first | exact ⟨rfl, _, World.drewN_drewN _ _ _⟩ | exact ⟨rfl, _, Eq.trans (World.drewN_drewN _ _ _) (congrArg (World.drewN _) (Nat.add_assoc _ _ _))⟩))))
              go_roundg k1
              case measure => have := HK1.out; omega
              case rel => exact ⟨(x4_1), (x5_1), (wrap64 (x6_1 + 1)), (by first | rfl | (simp; done) | (simp [*]; done)), (by first | rfl | (simp; done) | (simp [*]; done)), (by first | rfl | (simp; done) | (simp [*]; done)), H', ⟨by have := HK1.out; omega⟩, by repeat (first | exact Drawn0.refl _ | apply Drawn0.step)⟩
          · rw [if_neg c5] at H
            exact absurd H (by simp)
        · rw [if_neg c4] at H
          have c4b0 : decide (x6_1 < (l0.length : Int)) = false := decide_eq_false c4
          clear c4
          by_cases c8 : x4_1 < 2
          · rw [if_pos c8] at H
            have c8b0 : decide (x4_1 < 2) = true := decide_eq_true c8
            clear c8
            simp only [Option.some.injEq, Prod.mk.injEq] at H
            obtain ⟨rfl, rfl⟩ := H
            go_wp2
            repeat (go_quiet (fail); try go_wp2)
            go_ret2
            exact ⟨by first | rfl | (simp; done) | (simp [*]; done), by repeat (first | exact Drawn0.refl _ | apply Drawn0.step)⟩
          · rw [if_neg c8] at H
            have c8b0 : decide (x4_1 < 2) = false := decide_eq_false c8
            clear c8
            simp only [Option.some.injEq, Prod.mk.injEq] at H
            obtain ⟨rfl, rfl⟩ := H
            go_wp2
            repeat (go_quiet (fail); try go_wp2)
            go_ret2
            exact ⟨by first | rfl | (simp; done) | (simp [*]; done), by repeat (first | exact Drawn0.refl _ | apply Drawn0.step)⟩
  · replace c3 := Bool.eq_false_iff.mpr c3
    subst c3
    have H1 : (some (0, 5)) = some (r1, r2) := by rw [if_neg (show ¬ (false = true) by decide)] at H; exact H
    clear H
    have H := H1
    clear H1
    simp only [Option.some.injEq, Prod.mk.injEq] at H
    obtain ⟨rfl, rfl⟩ := H
    go_enter Try.func30, Try.ntmps30
    go_wp2_with (first | (go_at_call 32; (with_reducible refine (foolscapref16_good.calls k _ _ l0 false _ ?side1 ?side2 A2.out).mono ?_); (case side1 => repeat (first | exact HR0.out | (with_reducible refine Kd.C_alloc ?_ _) | (with_reducible refine Kd.C_drewN ?_ _) | (with_reducible refine Kd.C_drew ?_))); (case side2 => exact HC0.out); rintro e w' ⟨rfl, ⟨nd, rfl⟩⟩; (try first | exact ⟨rfl, _, World.drewN_drewN _ _ _⟩ | exact ⟨rfl, _, Eq.trans (World.drewN_drewN _ _ _) (congrArg (World.drewN _) (Nat.add_assoc _ _ _))⟩)))
    repeat (go_quiet (first | (go_at_call 32; (with_reducible refine (foolscapref16_good.calls k _ _ l0 false _ ?side1 ?side2 A2.out).mono ?_); (case side1 => repeat (first | exact HR0.out | (with_reducible refine Kd.C_alloc ?_ _) | (with_reducible refine Kd.C_drewN ?_ _) | (with_reducible refine Kd.C_drew ?_))); (case side2 => exact HC0.out); rintro e w' ⟨rfl, ⟨nd, rfl⟩⟩; (try first | exact ⟨rfl, _, World.drewN_drewN _ _ _⟩ | exact ⟨rfl, _, Eq.trans (World.drewN_drewN _ _ _) (congrArg (World.drewN _) (Nat.add_assoc _ _ _))⟩))); try go_wp2_with (first | (go_at_call 32; (with_reducible refine (foolscapref16_good.calls k _ _ l0 false _ ?side1 ?side2 A2.out).mono ?_); (case side1 => repeat (first | exact HR0.out | (with_reducible refine Kd.C_alloc ?_ _) | (with_reducible refine Kd.C_drewN ?_ _) | (with_reducible refine Kd.C_drew ?_))); (case side2 => exact HC0.out); rintro e w' ⟨rfl, ⟨nd, rfl⟩⟩; (try first | exact ⟨rfl, _, World.drewN_drewN _ _ _⟩ | exact ⟨rfl, _, Eq.trans (World.drewN_drewN _ _ _) (congrArg (World.drewN _) (Nat.add_assoc _ _ _))⟩))))
    go_ret2
    exact ⟨by first | rfl | (simp; done) | (simp [*]; done), by repeat (first | exact Drawn0.refl _ | apply Drawn0.step)⟩

/-! ### foolscaplaw16_StatsMidst: function 6 -/
def foolscaplaw16_StatsMidst.j0 : Nat → List Int → Bool → Option (Bool)
  | 0, _, _ => none
  | k + 1, x0, x27 => if x27 = true then ((foolscaplaw16_lives.f k).bind fun t308 => (some t308)) else ((foolscaplaw16_own.f x0).bind fun t309 => ((stats_Least.f k t309).bind fun bt312 => ((foolscapref16_Least.f k x0).bind fun bt314 => ((stats_Greatest.f k t309).bind fun bt316 => ((foolscapref16_Greatest.f k x0).bind fun bt318 => ((stats_Median.f k t309).bind fun bt320 => ((foolscapref16_Median.f k x0).bind fun bt322 => ((stats_Mode.f k t309).bind fun bt324 => ((foolscapref16_Mode.f k x0).bind fun bt326 => (if bt312.1 = bt314.1 then (if bt312.2 = bt314.2 then (if bt316.1 = bt318.1 then (if bt316.2 = bt318.2 then (if bt320.1 = bt322.1 then (if bt320.2 = bt322.2 then (if bt324.1 = bt326.1 then (if bt324.2 = bt326.2 then ((foolscaplaw16_same.f k t309 x0).bind fun t328 => (if t328 = true then ((foolscaplaw16_lives.f k).bind fun t329 => (some t329)) else (some false))) else (some false)) else (some false)) else (some false)) else (some false)) else (some false)) else (some false)) else (some false)) else (some false)))))))))))
def foolscaplaw16_StatsMidst.f (k : Nat) (l0 : List Int) : Option (Bool) := if (l0.length : Int) > 300 then (foolscaplaw16_StatsMidst.j0 k l0 (decide ((l0.length : Int) ≤ 4096))) else (foolscaplaw16_StatsMidst.j0 k l0 false)
theorem foolscaplaw16_StatsMidst.mono_l : ∀ k, (∀ y0 y1, LeO (foolscaplaw16_StatsMidst.j0 k y0 y1) (foolscaplaw16_StatsMidst.j0 (k + 1) y0 y1))
  | 0 => fun _ _ r h => by simp [foolscaplaw16_StatsMidst.j0] at h
  | k + 1 => by
    have ih0 := foolscaplaw16_StatsMidst.mono_l k
    · intro y0 y1
      unfold foolscaplaw16_StatsMidst.j0
      repeat' first
      | (with_reducible exact ih0 _ _)
      | (with_reducible exact foolscaplaw16_lives.mono _)
      | (with_reducible exact foolscaplaw16_same.mono _ _ _)
      | (with_reducible exact foolscapref16_Greatest.mono _ _)
      | (with_reducible exact foolscapref16_Least.mono _ _)
      | (with_reducible exact foolscapref16_Median.mono _ _)
      | (with_reducible exact foolscapref16_Mode.mono _ _)
      | (with_reducible exact stats_Greatest.mono _ _)
      | (with_reducible exact stats_Least.mono _ _)
      | (with_reducible exact stats_Median.mono _ _)
      | (with_reducible exact stats_Mode.mono _ _)
      | (with_reducible exact LeO.refl _)
      | (with_reducible exact LeO.none _)
      | (with_reducible refine LeO.ite ?_ ?_)
      | (with_reducible refine LeO.bind ?_ (fun _ => ?_))
      | exact ih0 _ _
      | exact foolscaplaw16_lives.mono _
      | exact foolscaplaw16_same.mono _ _ _
      | exact foolscapref16_Greatest.mono _ _
      | exact foolscapref16_Least.mono _ _
      | exact foolscapref16_Median.mono _ _
      | exact foolscapref16_Mode.mono _ _
      | exact stats_Greatest.mono _ _
      | exact stats_Least.mono _ _
      | exact stats_Median.mono _ _
      | exact stats_Mode.mono _ _
      | exact LeO.none _
      | refine LeO.ite ?_ ?_
      | refine LeO.bind ?_ (fun _ => ?_)
theorem foolscaplaw16_StatsMidst.mono : ∀ a0 k, LeO (foolscaplaw16_StatsMidst.f k a0) (foolscaplaw16_StatsMidst.f (k + 1) a0) := by
  intro a0 k
  have ih0 := foolscaplaw16_StatsMidst.mono_l k
  unfold foolscaplaw16_StatsMidst.f
  repeat' first
      | (with_reducible exact ih0 _ _)
      | (with_reducible exact foolscaplaw16_lives.mono _)
      | (with_reducible exact foolscaplaw16_same.mono _ _ _)
      | (with_reducible exact foolscapref16_Greatest.mono _ _)
      | (with_reducible exact foolscapref16_Least.mono _ _)
      | (with_reducible exact foolscapref16_Median.mono _ _)
      | (with_reducible exact foolscapref16_Mode.mono _ _)
      | (with_reducible exact stats_Greatest.mono _ _)
      | (with_reducible exact stats_Least.mono _ _)
      | (with_reducible exact stats_Median.mono _ _)
      | (with_reducible exact stats_Mode.mono _ _)
      | (with_reducible exact LeO.refl _)
      | (with_reducible exact LeO.none _)
      | (with_reducible refine LeO.ite ?_ ?_)
      | (with_reducible refine LeO.bind ?_ (fun _ => ?_))
      | exact ih0 _ _
      | exact foolscaplaw16_lives.mono _
      | exact foolscaplaw16_same.mono _ _ _
      | exact foolscapref16_Greatest.mono _ _
      | exact foolscapref16_Least.mono _ _
      | exact foolscapref16_Median.mono _ _
      | exact foolscapref16_Mode.mono _ _
      | exact stats_Greatest.mono _ _
      | exact stats_Least.mono _ _
      | exact stats_Median.mono _ _
      | exact stats_Mode.mono _ _
      | exact LeO.none _
      | refine LeO.ite ?_ ?_
      | refine LeO.bind ?_ (fun _ => ?_)
set_option maxHeartbeats 8000000 in
set_option maxRecDepth 100000 in
theorem foolscaplaw16_StatsMidst.calls (k : Nat) (A0 : Option Addr) (c0 : Nat) (l0 : List Int) (r : Bool) (w : World) (hr0 : Kd.C (Kd.int .i64) w A0 l0.length l0) (hc0 : l0.length ≤ c0) (h : foolscaplaw16_StatsMidst.f k l0 = some r) (hR_ : r = true) :
    Calls Try.prog 6 #[.slice A0 l0.length c0] w fun e w' => e = .returned (.bool r) ∧ Below w.heap.size w w' := by
  have HR_ := Aside0.mk hR_
  clear hR_
  have HR0 := Aside0.mk hr0
  have HC0 := Aside0.mk hc0
  clear hr0 hc0
  have HB := Aside0.mk (Below.refl w.heap.size w)
  have H : (if (l0.length : Int) > 300 then (foolscaplaw16_StatsMidst.j0 k l0 (decide ((l0.length : Int) ≤ 4096))) else (foolscaplaw16_StatsMidst.j0 k l0 false)) = some r := h
  clear h
  have HC2 := Aside0.mk H
  clear H
  go_enter Try.func6, Try.ntmps6
  go_upto_region 1 with (fail)
  go_cut [27] (fun v27 wc => ∃ (kq : Nat) (x27_1 : Bool), v27 = .bool x27_1 ∧ Aside0 (foolscaplaw16_StatsMidst.j0 kq l0 x27_1 = some r) ∧ Aside0 (kq ≤ k) ∧ Aside0 (Below w.heap.size w wc))
  case first =>
    have H := HC2.out
    clear HC2
    by_cases c3 : (l0.length : Int) > 300
    · rw [if_pos c3] at H
      have c3b0 : decide (300 < (l0.length : Int)) = true := decide_eq_true c3
      have c3b1 : decide (300 < l0.length) = true := decide_eq_true (by omega)
      clear c3
      (first | rw [c3b0] | (simp only [i64_w, i32_w]; rw [c3b0]) | skip)
      have H' := Aside0.mk H
      clear H
      go_wp2
      go_meet
      case rel => exact ⟨_, (decide ((l0.length : Int) ≤ 4096)), (by first | rfl | (simp; done) | (simp [*]; done)), H', ⟨by first | omega | exact Nat.le_refl _⟩, ⟨by repeat (first | (with_reducible first | exact HB.out | apply below_alloc | apply pw_below_drewN | apply below_drew1) | exact HB.out)⟩⟩
    · rw [if_neg c3] at H
      have c3b0 : decide (300 < (l0.length : Int)) = false := decide_eq_false c3
      have c3b1 : decide (300 < l0.length) = false := decide_eq_false (by omega)
      clear c3
      (first | rw [c3b0] | (simp only [i64_w, i32_w]; rw [c3b0]) | skip)
      have H' := Aside0.mk H
      clear H
      go_wp2
      go_meet
      case rel => exact ⟨_, (false), (by first | rfl | (simp; done) | (simp [*]; done)), H', ⟨by first | omega | exact Nat.le_refl _⟩, ⟨by repeat (first | (with_reducible first | exact HB.out | apply below_alloc | apply pw_below_drewN | apply below_drew1) | exact HB.out)⟩⟩
  case rest =>
    clear HC2
    try clear p2
    try clear c3
    try clear c3b0
    try clear c3b1
    obtain ⟨kq, x27_1, rfl, HA, HJ1, HB⟩ := hcut
    cases kq with
    | zero => exact absurd HA.out (by simp [foolscaplaw16_StatsMidst.j0])
    | succ kj1 =>
      have H := HA.out
      clear HA
      simp only [foolscaplaw16_StatsMidst.j0] at H
      by_cases c4 : x27_1 = true
      · subst c4
        have H1 : ((foolscaplaw16_lives.f kj1).bind fun t308 => (some t308)) = some r := by rw [if_pos rfl] at H; exact H
        clear H
        have H := H1
        clear H1
        replace H := Option.bind_eq_some_iff.mp H
        obtain ⟨t308, A50, H⟩ := H
        replace H : (some t308) = some r := H
        have A5 := Aside0.mk A50
        clear A50
        obtain rfl := Option.some.inj H
        simp only [Option.some.injEq, Prod.mk.injEq] at H
        obtain ⟨rfl⟩ := H
        go_wp2_with (first | ((with_reducible refine gate_callee (f := 9) rfl ?_); refine goesL_ (some 28) rfl rfl Try.func9 (by kernel_rfl) rfl #[] rfl (by (try simp only [List.map_toArray, List.map_cons, List.map_nil]); first | done | rfl | (simp only [List.length_drop, List.length_take]; rfl)) ?_; (with_reducible refine (foolscaplaw16_lives.calls kj1  t308 _ A5.out).mono ?_); rintro e w6 ⟨rfl, hb⟩; refine ⟨_, rfl, ?_⟩; have n0_ := Aside0.mk (below_step (by repeat (first | (with_reducible first | exact HB.out | apply below_alloc | apply pw_below_drewN | apply below_drew1) | exact HB.out)) hb); clear HB; have HB := n0_; clear n0_; (try clear hb); (try clear hb2); (try clear hk); (try clear hi)))
        go_ret
        exact ⟨by first | rfl | (simp [errW_none, errW_some] <;> rfl) | (simp [*, errW_none, errW_some] <;> rfl), by repeat (first | (with_reducible first | exact HB.out | apply below_alloc | apply pw_below_drewN | apply below_drew1) | exact HB.out)⟩
      · replace c4 := Bool.eq_false_iff.mpr c4
        subst c4
        have H1 : ((foolscaplaw16_own.f l0).bind fun t309 => ((stats_Least.f kj1 t309).bind fun bt312 => ((foolscapref16_Least.f kj1 l0).bind fun bt314 => ((stats_Greatest.f kj1 t309).bind fun bt316 => ((foolscapref16_Greatest.f kj1 l0).bind fun bt318 => ((stats_Median.f kj1 t309).bind fun bt320 => ((foolscapref16_Median.f kj1 l0).bind fun bt322 => ((stats_Mode.f kj1 t309).bind fun bt324 => ((foolscapref16_Mode.f kj1 l0).bind fun bt326 => (if bt312.1 = bt314.1 then (if bt312.2 = bt314.2 then (if bt316.1 = bt318.1 then (if bt316.2 = bt318.2 then (if bt320.1 = bt322.1 then (if bt320.2 = bt322.2 then (if bt324.1 = bt326.1 then (if bt324.2 = bt326.2 then ((foolscaplaw16_same.f kj1 t309 l0).bind fun t328 => (if t328 = true then ((foolscaplaw16_lives.f kj1).bind fun t329 => (some t329)) else (some false))) else (some false)) else (some false)) else (some false)) else (some false)) else (some false)) else (some false)) else (some false)) else (some false))))))))))) = some r := by rw [if_neg (show ¬ (false = true) by decide)] at H; exact H
        clear H
        have H := H1
        clear H1
        replace H := Option.bind_eq_some_iff.mp H
        obtain ⟨t309, A70, H⟩ := H
        replace H : ((stats_Least.f kj1 t309).bind fun bt312 => ((foolscapref16_Least.f kj1 l0).bind fun bt314 => ((stats_Greatest.f kj1 t309).bind fun bt316 => ((foolscapref16_Greatest.f kj1 l0).bind fun bt318 => ((stats_Median.f kj1 t309).bind fun bt320 => ((foolscapref16_Median.f kj1 l0).bind fun bt322 => ((stats_Mode.f kj1 t309).bind fun bt324 => ((foolscapref16_Mode.f kj1 l0).bind fun bt326 => (if bt312.1 = bt314.1 then (if bt312.2 = bt314.2 then (if bt316.1 = bt318.1 then (if bt316.2 = bt318.2 then (if bt320.1 = bt322.1 then (if bt320.2 = bt322.2 then (if bt324.1 = bt326.1 then (if bt324.2 = bt326.2 then ((foolscaplaw16_same.f kj1 t309 l0).bind fun t328 => (if t328 = true then ((foolscaplaw16_lives.f kj1).bind fun t329 => (some t329)) else (some false))) else (some false)) else (some false)) else (some false)) else (some false)) else (some false)) else (some false)) else (some false)) else (some false)))))))))) = some r := H
        have A7 := Aside0.mk A70
        clear A70
        replace H := Option.bind_eq_some_iff.mp H
        obtain ⟨⟨t312, t313⟩, A80, H⟩ := H
        replace H : ((foolscapref16_Least.f kj1 l0).bind fun bt314 => ((stats_Greatest.f kj1 t309).bind fun bt316 => ((foolscapref16_Greatest.f kj1 l0).bind fun bt318 => ((stats_Median.f kj1 t309).bind fun bt320 => ((foolscapref16_Median.f kj1 l0).bind fun bt322 => ((stats_Mode.f kj1 t309).bind fun bt324 => ((foolscapref16_Mode.f kj1 l0).bind fun bt326 => (if t312 = bt314.1 then (if t313 = bt314.2 then (if bt316.1 = bt318.1 then (if bt316.2 = bt318.2 then (if bt320.1 = bt322.1 then (if bt320.2 = bt322.2 then (if bt324.1 = bt326.1 then (if bt324.2 = bt326.2 then ((foolscaplaw16_same.f kj1 t309 l0).bind fun t328 => (if t328 = true then ((foolscaplaw16_lives.f kj1).bind fun t329 => (some t329)) else (some false))) else (some false)) else (some false)) else (some false)) else (some false)) else (some false)) else (some false)) else (some false)) else (some false))))))))) = some r := H
        have A8 := Aside0.mk A80
        clear A80
        replace H := Option.bind_eq_some_iff.mp H
        obtain ⟨⟨t314, t315⟩, A90, H⟩ := H
        replace H : ((stats_Greatest.f kj1 t309).bind fun bt316 => ((foolscapref16_Greatest.f kj1 l0).bind fun bt318 => ((stats_Median.f kj1 t309).bind fun bt320 => ((foolscapref16_Median.f kj1 l0).bind fun bt322 => ((stats_Mode.f kj1 t309).bind fun bt324 => ((foolscapref16_Mode.f kj1 l0).bind fun bt326 => (if t312 = t314 then (if t313 = t315 then (if bt316.1 = bt318.1 then (if bt316.2 = bt318.2 then (if bt320.1 = bt322.1 then (if bt320.2 = bt322.2 then (if bt324.1 = bt326.1 then (if bt324.2 = bt326.2 then ((foolscaplaw16_same.f kj1 t309 l0).bind fun t328 => (if t328 = true then ((foolscaplaw16_lives.f kj1).bind fun t329 => (some t329)) else (some false))) else (some false)) else (some false)) else (some false)) else (some false)) else (some false)) else (some false)) else (some false)) else (some false)))))))) = some r := H
        have A9 := Aside0.mk A90
        clear A90
        replace H := Option.bind_eq_some_iff.mp H
        obtain ⟨⟨t316, t317⟩, A100, H⟩ := H
        replace H : ((foolscapref16_Greatest.f kj1 l0).bind fun bt318 => ((stats_Median.f kj1 t309).bind fun bt320 => ((foolscapref16_Median.f kj1 l0).bind fun bt322 => ((stats_Mode.f kj1 t309).bind fun bt324 => ((foolscapref16_Mode.f kj1 l0).bind fun bt326 => (if t312 = t314 then (if t313 = t315 then (if t316 = bt318.1 then (if t317 = bt318.2 then (if bt320.1 = bt322.1 then (if bt320.2 = bt322.2 then (if bt324.1 = bt326.1 then (if bt324.2 = bt326.2 then ((foolscaplaw16_same.f kj1 t309 l0).bind fun t328 => (if t328 = true then ((foolscaplaw16_lives.f kj1).bind fun t329 => (some t329)) else (some false))) else (some false)) else (some false)) else (some false)) else (some false)) else (some false)) else (some false)) else (some false)) else (some false))))))) = some r := H
        have A10 := Aside0.mk A100
        clear A100
        replace H := Option.bind_eq_some_iff.mp H
        obtain ⟨⟨t318, t319⟩, A110, H⟩ := H
        replace H : ((stats_Median.f kj1 t309).bind fun bt320 => ((foolscapref16_Median.f kj1 l0).bind fun bt322 => ((stats_Mode.f kj1 t309).bind fun bt324 => ((foolscapref16_Mode.f kj1 l0).bind fun bt326 => (if t312 = t314 then (if t313 = t315 then (if t316 = t318 then (if t317 = t319 then (if bt320.1 = bt322.1 then (if bt320.2 = bt322.2 then (if bt324.1 = bt326.1 then (if bt324.2 = bt326.2 then ((foolscaplaw16_same.f kj1 t309 l0).bind fun t328 => (if t328 = true then ((foolscaplaw16_lives.f kj1).bind fun t329 => (some t329)) else (some false))) else (some false)) else (some false)) else (some false)) else (some false)) else (some false)) else (some false)) else (some false)) else (some false)))))) = some r := H
        have A11 := Aside0.mk A110
        clear A110
        replace H := Option.bind_eq_some_iff.mp H
        obtain ⟨⟨t320, t321⟩, A120, H⟩ := H
        replace H : ((foolscapref16_Median.f kj1 l0).bind fun bt322 => ((stats_Mode.f kj1 t309).bind fun bt324 => ((foolscapref16_Mode.f kj1 l0).bind fun bt326 => (if t312 = t314 then (if t313 = t315 then (if t316 = t318 then (if t317 = t319 then (if t320 = bt322.1 then (if t321 = bt322.2 then (if bt324.1 = bt326.1 then (if bt324.2 = bt326.2 then ((foolscaplaw16_same.f kj1 t309 l0).bind fun t328 => (if t328 = true then ((foolscaplaw16_lives.f kj1).bind fun t329 => (some t329)) else (some false))) else (some false)) else (some false)) else (some false)) else (some false)) else (some false)) else (some false)) else (some false)) else (some false))))) = some r := H
        have A12 := Aside0.mk A120
        clear A120
        replace H := Option.bind_eq_some_iff.mp H
        obtain ⟨⟨t322, t323⟩, A130, H⟩ := H
        replace H : ((stats_Mode.f kj1 t309).bind fun bt324 => ((foolscapref16_Mode.f kj1 l0).bind fun bt326 => (if t312 = t314 then (if t313 = t315 then (if t316 = t318 then (if t317 = t319 then (if t320 = t322 then (if t321 = t323 then (if bt324.1 = bt326.1 then (if bt324.2 = bt326.2 then ((foolscaplaw16_same.f kj1 t309 l0).bind fun t328 => (if t328 = true then ((foolscaplaw16_lives.f kj1).bind fun t329 => (some t329)) else (some false))) else (some false)) else (some false)) else (some false)) else (some false)) else (some false)) else (some false)) else (some false)) else (some false)))) = some r := H
        have A13 := Aside0.mk A130
        clear A130
        replace H := Option.bind_eq_some_iff.mp H
        obtain ⟨⟨t324, t325⟩, A140, H⟩ := H
        replace H : ((foolscapref16_Mode.f kj1 l0).bind fun bt326 => (if t312 = t314 then (if t313 = t315 then (if t316 = t318 then (if t317 = t319 then (if t320 = t322 then (if t321 = t323 then (if t324 = bt326.1 then (if t325 = bt326.2 then ((foolscaplaw16_same.f kj1 t309 l0).bind fun t328 => (if t328 = true then ((foolscaplaw16_lives.f kj1).bind fun t329 => (some t329)) else (some false))) else (some false)) else (some false)) else (some false)) else (some false)) else (some false)) else (some false)) else (some false)) else (some false))) = some r := H
        have A14 := Aside0.mk A140
        clear A140
        replace H := Option.bind_eq_some_iff.mp H
        obtain ⟨⟨t326, t327⟩, A150, H⟩ := H
        replace H : (if t312 = t314 then (if t313 = t315 then (if t316 = t318 then (if t317 = t319 then (if t320 = t322 then (if t321 = t323 then (if t324 = t326 then (if t325 = t327 then ((foolscaplaw16_same.f kj1 t309 l0).bind fun t328 => (if t328 = true then ((foolscaplaw16_lives.f kj1).bind fun t329 => (some t329)) else (some false))) else (some false)) else (some false)) else (some false)) else (some false)) else (some false)) else (some false)) else (some false)) else (some false)) = some r := H
        have A15 := Aside0.mk A150
        clear A150
        by_cases c16 : t312 = t314
        · rw [if_pos c16] at H
          have c16b0 : (t312 == t314) = true := beq_iff_eq.mpr c16
          have c16b1 : (t312 != t314) = false := bne_eq_false_iff_eq.mpr c16
          clear c16
          by_cases c17 : t313 = t315
          · rw [if_pos c17] at H
            have c17b0 : (t313 == t315) = true := beq_iff_eq.mpr c17
            have c17b1 : (t313 != t315) = false := bne_eq_false_iff_eq.mpr c17
            clear c17
            by_cases c18 : t316 = t318
            · rw [if_pos c18] at H
              have c18b0 : (t316 == t318) = true := beq_iff_eq.mpr c18
              have c18b1 : (t316 != t318) = false := bne_eq_false_iff_eq.mpr c18
              clear c18
              by_cases c19 : t317 = t319
              · rw [if_pos c19] at H
                have c19b0 : (t317 == t319) = true := beq_iff_eq.mpr c19
                have c19b1 : (t317 != t319) = false := bne_eq_false_iff_eq.mpr c19
                clear c19
                by_cases c20 : t320 = t322
                · rw [if_pos c20] at H
                  have c20b0 : (t320 == t322) = true := beq_iff_eq.mpr c20
                  have c20b1 : (t320 != t322) = false := bne_eq_false_iff_eq.mpr c20
                  clear c20
                  by_cases c21 : t321 = t323
                  · rw [if_pos c21] at H
                    have c21b0 : (t321 == t323) = true := beq_iff_eq.mpr c21
                    have c21b1 : (t321 != t323) = false := bne_eq_false_iff_eq.mpr c21
                    clear c21
                    by_cases c22 : t324 = t326
                    · rw [if_pos c22] at H
                      have c22b0 : (t324 == t326) = true := beq_iff_eq.mpr c22
                      have c22b1 : (t324 != t326) = false := bne_eq_false_iff_eq.mpr c22
                      clear c22
                      by_cases c23 : t325 = t327
                      · rw [if_pos c23] at H
                        have c23b0 : (t325 == t327) = true := beq_iff_eq.mpr c23
                        have c23b1 : (t325 != t327) = false := bne_eq_false_iff_eq.mpr c23
                        clear c23
                        replace H := Option.bind_eq_some_iff.mp H
                        obtain ⟨t328, A240, H⟩ := H
                        replace H : (if t328 = true then ((foolscaplaw16_lives.f kj1).bind fun t329 => (some t329)) else (some false)) = some r := H
                        have A24 := Aside0.mk A240
                        clear A240
                        by_cases c25 : t328 = true
                        · subst c25
                          have H1 : ((foolscaplaw16_lives.f kj1).bind fun t329 => (some t329)) = some r := by rw [if_pos rfl] at H; exact H
                          clear H
                          have H := H1
                          clear H1
                          replace H := Option.bind_eq_some_iff.mp H
                          obtain ⟨t329, A260, H⟩ := H
                          replace H : (some t329) = some r := H
                          have A26 := Aside0.mk A260
                          clear A260
                          obtain rfl := Option.some.inj H
                          simp only [Option.some.injEq, Prod.mk.injEq] at H
                          obtain ⟨rfl⟩ := H
                          go_wp2_with (first | ((with_reducible refine gate_callee (f := 10) rfl ?_); refine goesL_ (some 30) rfl rfl Try.func10 (by kernel_rfl) rfl #[.slice A0 l0.length c0] rfl (by (try simp only [List.map_toArray, List.map_cons, List.map_nil]); first | done | rfl | (simp only [List.length_drop, List.length_take]; rfl)) ?_; (with_reducible refine (foolscaplaw16_own.calls _ _ l0 t309 _ ?side1 ?side2 A7.out).mono ?_); (case side1 => repeat (first | exact (Kd.C_below HR0.out HB.out) | (with_reducible refine Kd.C_alloc ?_ _) | (with_reducible refine Kd.C_drewN ?_ _) | (with_reducible refine Kd.C_drew ?_))); (case side2 => exact HC0.out); rintro e w27 ⟨v310, rfl, ho0, hb⟩; refine ⟨_, rfl, ?_⟩; have n0_ := Aside0.mk (Kd.R_lower ho0 (below_size (by repeat (first | (with_reducible first | exact HB.out | apply below_alloc | apply pw_below_drewN | apply below_drew1) | exact HB.out)))); have n1_ := Aside0.mk (below_step (by repeat (first | (with_reducible first | exact HB.out | apply below_alloc | apply pw_below_drewN | apply below_drew1) | exact HB.out)) hb); clear HB; have HO311 := n0_; have HB := n1_; clear n0_ n1_; (try clear hb); (try clear hb2); (try clear hk); (try clear hi); (try clear ho0); obtain ⟨Ao28, co28, eo28⟩ := Kd.R_slice HO311.out; subst eo28) | ((with_reducible refine gate_callee (f := 24) rfl ?_); refine goesL_ (some 33) rfl rfl Try.func24 (by kernel_rfl) rfl #[.slice Ao28 t309.length co28] rfl (by (try simp only [List.map_toArray, List.map_cons, List.map_nil]); first | done | rfl | (simp only [List.length_drop, List.length_take]; rfl)) ?_; (with_reducible refine (stats_Least.calls kj1 _ _ t309 t312 t313 _ ?side1 ?side2 A8.out).mono ?_); (case side1 => repeat (first | exact (Kd.R_reads' HO311.out).2.2 | (with_reducible refine Kd.C_alloc ?_ _) | (with_reducible refine Kd.C_drewN ?_ _) | (with_reducible refine Kd.C_drew ?_))); (case side2 => exact (Kd.R_reads' HO311.out).2.1); rintro e w29 ⟨rfl, hb⟩; refine ⟨_, rfl, ?_⟩; have n0_ := Aside0.mk (Kd.R_below (by (with_reducible repeat (first | apply Kd.R_alloc | apply Kd.R_drewN | apply Kd.R_drew)); exact HO311.out) hb); have n1_ := Aside0.mk (below_step (by repeat (first | (with_reducible first | exact HB.out | apply below_alloc | apply pw_below_drewN | apply below_drew1) | exact HB.out)) hb); clear HO311; clear HB; have HO311 := n0_; have HB := n1_; clear n0_ n1_; (try clear hb); (try clear hb2); (try clear hk); (try clear hi)) | ((with_reducible refine gate_callee (f := 25) rfl ?_); refine goesL_ (some 38) rfl rfl Try.func25 (by kernel_rfl) rfl #[.slice A0 l0.length c0] rfl (by (try simp only [List.map_toArray, List.map_cons, List.map_nil]); first | done | rfl | (simp only [List.length_drop, List.length_take]; rfl)) ?_; (with_reducible refine (foolscapref16_Least.calls kj1 _ _ l0 t314 t315 _ ?side1 ?side2 A9.out).mono ?_); (case side1 => repeat (first | exact (Kd.C_below HR0.out HB.out) | (with_reducible refine Kd.C_alloc ?_ _) | (with_reducible refine Kd.C_drewN ?_ _) | (with_reducible refine Kd.C_drew ?_))); (case side2 => exact HC0.out); rintro e w30 ⟨rfl, hb⟩; refine ⟨_, rfl, ?_⟩; have n0_ := Aside0.mk (Kd.R_below (by (with_reducible repeat (first | apply Kd.R_alloc | apply Kd.R_drewN | apply Kd.R_drew)); exact HO311.out) hb); have n1_ := Aside0.mk (below_step (by repeat (first | (with_reducible first | exact HB.out | apply below_alloc | apply pw_below_drewN | apply below_drew1) | exact HB.out)) hb); clear HO311; clear HB; have HO311 := n0_; have HB := n1_; clear n0_ n1_; (try clear hb); (try clear hb2); (try clear hk); (try clear hi)) | ((with_reducible refine gate_callee (f := 26) rfl ?_); refine goesL_ (some 43) rfl rfl Try.func26 (by kernel_rfl) rfl #[.slice Ao28 t309.length co28] rfl (by (try simp only [List.map_toArray, List.map_cons, List.map_nil]); first | done | rfl | (simp only [List.length_drop, List.length_take]; rfl)) ?_; (with_reducible refine (stats_Greatest.calls kj1 _ _ t309 t316 t317 _ ?side1 ?side2 A10.out).mono ?_); (case side1 => repeat (first | exact (Kd.R_reads' HO311.out).2.2 | (with_reducible refine Kd.C_alloc ?_ _) | (with_reducible refine Kd.C_drewN ?_ _) | (with_reducible refine Kd.C_drew ?_))); (case side2 => exact (Kd.R_reads' HO311.out).2.1); rintro e w31 ⟨rfl, hb⟩; refine ⟨_, rfl, ?_⟩; have n0_ := Aside0.mk (Kd.R_below (by (with_reducible repeat (first | apply Kd.R_alloc | apply Kd.R_drewN | apply Kd.R_drew)); exact HO311.out) hb); have n1_ := Aside0.mk (below_step (by repeat (first | (with_reducible first | exact HB.out | apply below_alloc | apply pw_below_drewN | apply below_drew1) | exact HB.out)) hb); clear HO311; clear HB; have HO311 := n0_; have HB := n1_; clear n0_ n1_; (try clear hb); (try clear hb2); (try clear hk); (try clear hi)) | ((with_reducible refine gate_callee (f := 27) rfl ?_); refine goesL_ (some 48) rfl rfl Try.func27 (by kernel_rfl) rfl #[.slice A0 l0.length c0] rfl (by (try simp only [List.map_toArray, List.map_cons, List.map_nil]); first | done | rfl | (simp only [List.length_drop, List.length_take]; rfl)) ?_; (with_reducible refine (foolscapref16_Greatest.calls kj1 _ _ l0 t318 t319 _ ?side1 ?side2 A11.out).mono ?_); (case side1 => repeat (first | exact (Kd.C_below HR0.out HB.out) | (with_reducible refine Kd.C_alloc ?_ _) | (with_reducible refine Kd.C_drewN ?_ _) | (with_reducible refine Kd.C_drew ?_))); (case side2 => exact HC0.out); rintro e w32 ⟨rfl, hb⟩; refine ⟨_, rfl, ?_⟩; have n0_ := Aside0.mk (Kd.R_below (by (with_reducible repeat (first | apply Kd.R_alloc | apply Kd.R_drewN | apply Kd.R_drew)); exact HO311.out) hb); have n1_ := Aside0.mk (below_step (by repeat (first | (with_reducible first | exact HB.out | apply below_alloc | apply pw_below_drewN | apply below_drew1) | exact HB.out)) hb); clear HO311; clear HB; have HO311 := n0_; have HB := n1_; clear n0_ n1_; (try clear hb); (try clear hb2); (try clear hk); (try clear hi)) | ((with_reducible refine gate_callee (f := 21) rfl ?_); refine goesL_ (some 53) rfl rfl Try.func21 (by kernel_rfl) rfl #[.slice Ao28 t309.length co28] rfl (by (try simp only [List.map_toArray, List.map_cons, List.map_nil]); first | done | rfl | (simp only [List.length_drop, List.length_take]; rfl)) ?_; (with_reducible refine (stats_Median.calls kj1 _ _ t309 t320 t321 _ ?side1 ?side2 A12.out).mono ?_); (case side1 => repeat (first | exact (Kd.R_reads' HO311.out).2.2 | (with_reducible refine Kd.C_alloc ?_ _) | (with_reducible refine Kd.C_drewN ?_ _) | (with_reducible refine Kd.C_drew ?_))); (case side2 => exact (Kd.R_reads' HO311.out).2.1); rintro e w33 ⟨rfl, hb⟩; refine ⟨_, rfl, ?_⟩; have n0_ := Aside0.mk (Kd.R_below (by (with_reducible repeat (first | apply Kd.R_alloc | apply Kd.R_drewN | apply Kd.R_drew)); exact HO311.out) hb); have n1_ := Aside0.mk (below_step (by repeat (first | (with_reducible first | exact HB.out | apply below_alloc | apply pw_below_drewN | apply below_drew1) | exact HB.out)) hb); clear HO311; clear HB; have HO311 := n0_; have HB := n1_; clear n0_ n1_; (try clear hb); (try clear hb2); (try clear hk); (try clear hi)) | ((with_reducible refine gate_callee (f := 28) rfl ?_); refine goesL_ (some 58) rfl rfl Try.func28 (by kernel_rfl) rfl #[.slice A0 l0.length c0] rfl (by (try simp only [List.map_toArray, List.map_cons, List.map_nil]); first | done | rfl | (simp only [List.length_drop, List.length_take]; rfl)) ?_; (with_reducible refine (foolscapref16_Median.calls kj1 _ _ l0 t322 t323 _ ?side1 ?side2 A13.out).mono ?_); (case side1 => repeat (first | exact (Kd.C_below HR0.out HB.out) | (with_reducible refine Kd.C_alloc ?_ _) | (with_reducible refine Kd.C_drewN ?_ _) | (with_reducible refine Kd.C_drew ?_))); (case side2 => exact HC0.out); rintro e w34 ⟨rfl, hb⟩; refine ⟨_, rfl, ?_⟩; have n0_ := Aside0.mk (Kd.R_below (by (with_reducible repeat (first | apply Kd.R_alloc | apply Kd.R_drewN | apply Kd.R_drew)); exact HO311.out) hb); have n1_ := Aside0.mk (below_step (by repeat (first | (with_reducible first | exact HB.out | apply below_alloc | apply pw_below_drewN | apply below_drew1) | exact HB.out)) hb); clear HO311; clear HB; have HO311 := n0_; have HB := n1_; clear n0_ n1_; (try clear hb); (try clear hb2); (try clear hk); (try clear hi)) | ((with_reducible refine gate_callee (f := 29) rfl ?_); refine goesL_ (some 63) rfl rfl Try.func29 (by kernel_rfl) rfl #[.slice Ao28 t309.length co28] rfl (by (try simp only [List.map_toArray, List.map_cons, List.map_nil]); first | done | rfl | (simp only [List.length_drop, List.length_take]; rfl)) ?_; (with_reducible refine (stats_Mode.calls kj1 _ _ t309 t324 t325 _ ?side1 ?side2 A14.out).mono ?_); (case side1 => repeat (first | exact (Kd.R_reads' HO311.out).2.2 | (with_reducible refine Kd.C_alloc ?_ _) | (with_reducible refine Kd.C_drewN ?_ _) | (with_reducible refine Kd.C_drew ?_))); (case side2 => exact (Kd.R_reads' HO311.out).2.1); rintro e w35 ⟨rfl, hb⟩; refine ⟨_, rfl, ?_⟩; have n0_ := Aside0.mk (Kd.R_below (by (with_reducible repeat (first | apply Kd.R_alloc | apply Kd.R_drewN | apply Kd.R_drew)); exact HO311.out) hb); have n1_ := Aside0.mk (below_step (by repeat (first | (with_reducible first | exact HB.out | apply below_alloc | apply pw_below_drewN | apply below_drew1) | exact HB.out)) hb); clear HO311; clear HB; have HO311 := n0_; have HB := n1_; clear n0_ n1_; (try clear hb); (try clear hb2); (try clear hk); (try clear hi)) | ((with_reducible refine gate_callee (f := 30) rfl ?_); refine goesL_ (some 68) rfl rfl Try.func30 (by kernel_rfl) rfl #[.slice A0 l0.length c0] rfl (by (try simp only [List.map_toArray, List.map_cons, List.map_nil]); first | done | rfl | (simp only [List.length_drop, List.length_take]; rfl)) ?_; (with_reducible refine (foolscapref16_Mode.calls kj1 _ _ l0 t326 t327 _ ?side1 ?side2 A15.out).mono ?_); (case side1 => repeat (first | exact (Kd.C_below HR0.out HB.out) | (with_reducible refine Kd.C_alloc ?_ _) | (with_reducible refine Kd.C_drewN ?_ _) | (with_reducible refine Kd.C_drew ?_))); (case side2 => exact HC0.out); rintro e w' ⟨rfl, ⟨nd, rfl⟩⟩; refine ⟨_, rfl, ?_⟩) | (go_at_call 17; (with_reducible refine (foolscaplaw16_same.calls kj1 _ _ t309 _ _ l0 true _ ?side1 ?side2 ?side3 ?side4 A24.out).mono ?_); (case side1 => repeat (first | exact (Kd.R_reads' HO311.out).2.2 | (with_reducible refine Kd.C_alloc ?_ _) | (with_reducible refine Kd.C_drewN ?_ _) | (with_reducible refine Kd.C_drew ?_))); (case side2 => exact (Kd.R_reads' HO311.out).2.1); (case side3 => repeat (first | exact (Kd.C_below HR0.out (by repeat (first | (with_reducible first | exact HB.out | apply below_alloc | apply pw_below_drewN | apply below_drew1) | exact HB.out))) | (with_reducible refine Kd.C_alloc ?_ _) | (with_reducible refine Kd.C_drewN ?_ _) | (with_reducible refine Kd.C_drew ?_))); (case side4 => exact HC0.out); rintro e w' ⟨rfl, ⟨nd, rfl⟩⟩) | (go_at_call 9; (with_reducible refine (foolscaplaw16_lives.calls kj1  t329 _ A26.out).mono ?_); rintro e w36 ⟨rfl, hb⟩; have n0_ := Aside0.mk (Kd.R_below (by (with_reducible repeat (first | apply Kd.R_alloc | apply Kd.R_drewN | apply Kd.R_drew)); exact HO311.out) hb); have n1_ := Aside0.mk (below_step (by repeat (first | (with_reducible first | exact HB.out | apply below_alloc | apply pw_below_drewN | apply below_drew1) | exact HB.out)) hb); clear HO311; clear HB; have HO311 := n0_; have HB := n1_; clear n0_ n1_; (try clear hb); (try clear hb2); (try clear hk); (try clear hi)))
                          go_ret
                          exact ⟨by first | rfl | (simp [errW_none, errW_some] <;> rfl) | (simp [*, errW_none, errW_some] <;> rfl), by repeat (first | (with_reducible first | exact HB.out | apply below_alloc | apply pw_below_drewN | apply below_drew1) | exact HB.out)⟩
                        · replace c25 := Bool.eq_false_iff.mpr c25
                          subst c25
                          have H1 : (some false) = some r := by rw [if_neg (show ¬ (false = true) by decide)] at H; exact H
                          clear H
                          have H := H1
                          clear H1
                          obtain rfl := Option.some.inj H
                          exact absurd HR_.out (by decide)
                      · rw [if_neg c23] at H
                        have c23b0 : (t325 == t327) = false := beq_eq_false_iff_ne.mpr c23
                        have c23b1 : (t325 != t327) = true := bne_iff_ne.mpr c23
                        obtain rfl := Option.some.inj H
                        exact absurd HR_.out (by decide)
                    · rw [if_neg c22] at H
                      have c22b0 : (t324 == t326) = false := beq_eq_false_iff_ne.mpr c22
                      have c22b1 : (t324 != t326) = true := bne_iff_ne.mpr c22
                      obtain rfl := Option.some.inj H
                      exact absurd HR_.out (by decide)
                  · rw [if_neg c21] at H
                    have c21b0 : (t321 == t323) = false := beq_eq_false_iff_ne.mpr c21
                    have c21b1 : (t321 != t323) = true := bne_iff_ne.mpr c21
                    obtain rfl := Option.some.inj H
                    exact absurd HR_.out (by decide)
                · rw [if_neg c20] at H
                  have c20b0 : (t320 == t322) = false := beq_eq_false_iff_ne.mpr c20
                  have c20b1 : (t320 != t322) = true := bne_iff_ne.mpr c20
                  obtain rfl := Option.some.inj H
                  exact absurd HR_.out (by decide)
              · rw [if_neg c19] at H
                have c19b0 : (t317 == t319) = false := beq_eq_false_iff_ne.mpr c19
                have c19b1 : (t317 != t319) = true := bne_iff_ne.mpr c19
                obtain rfl := Option.some.inj H
                exact absurd HR_.out (by decide)
            · rw [if_neg c18] at H
              have c18b0 : (t316 == t318) = false := beq_eq_false_iff_ne.mpr c18
              have c18b1 : (t316 != t318) = true := bne_iff_ne.mpr c18
              obtain rfl := Option.some.inj H
              exact absurd HR_.out (by decide)
          · rw [if_neg c17] at H
            have c17b0 : (t313 == t315) = false := beq_eq_false_iff_ne.mpr c17
            have c17b1 : (t313 != t315) = true := bne_iff_ne.mpr c17
            obtain rfl := Option.some.inj H
            exact absurd HR_.out (by decide)
        · rw [if_neg c16] at H
          have c16b0 : (t312 == t314) = false := beq_eq_false_iff_ne.mpr c16
          have c16b1 : (t312 != t314) = true := bne_iff_ne.mpr c16
          obtain rfl := Option.some.inj H
          exact absurd HR_.out (by decide)

/-- THE ONE PURE STATEMENT of foolscaplaw16_StatsMidst: yours. -/
def foolscaplaw16_StatsMidst.Pure : Prop := ∀ (l0 : List Int), l0.length ≤ maxLen → l0.length * 8 ≤ 140737488351232 → (∀ x ∈ l0, (Lit.int .i64 x).wf = true) → ∃ k, foolscaplaw16_StatsMidst.f k l0 = some true
theorem foolscaplaw16_StatsMidst.walk (P : foolscaplaw16_StatsMidst.Pure) (a0 : Option Addr) (len0 cap0 : Nat) (z0 : List Int) (w : World) (w0 : (a0 = none ∧ len0 = 0 ∧ cap0 = 0 ∧ z0 = []) ∨ ∃ x, a0 = some x ∧ len0 ≤ cap0 ∧ cap0 ≤ maxLen ∧ z0.length = cap0 ∧ (∀ i, i < z0.length → w.cell? (x.add i) = some (.int .i64 (z0.getD i 0))) ∧ ∀ n ∈ z0, (Lit.int .i64 n).wf = true) (y0 : len0 * 8 ≤ 140737488351232) :
    Calls Try.prog 6 #[.slice a0 len0 cap0] w fun e w' => e = .returned (.bool true) ∧ Below w.heap.size w w' := by
  obtain ⟨l0, rfl, hr0, hm0, hw0, hc0⟩ := ReadsInt.ofRowC w0
  obtain ⟨k, h⟩ := P l0 hm0 y0 hw0
  refine (foolscaplaw16_StatsMidst.calls k _ _ l0 true w (Kd.C_of_reads (d := (0 : Int)) (h1 := fun _ => rfl) hr0) hc0 h rfl).mono ?_
  rintro e w' ⟨rfl, hd⟩
  exact ⟨rfl, hd⟩

end Go.Proofs.Ytagohdalabhheaa.PB
