-- Written by this session's own program xprint.py, over the translation. Not trusted: Lean checks it.
import Derived.Test.YtklkanaabmehkaaPLx0
import Derived.Test.YtklkanaabmehkaaPLx4
import Derived.Test.YtklkanaabmehkaaPLx6
namespace Go.Proofs.Ytklkanaabmehkaa.PL
open Go.RowKit Go.Proofs.YtklkanaabmehkaaW.PrintWords Go.Proofs.YtklkanaabmehkaaW.PrintLast Go.Proofs.YtklkanaabmehkaaW.PrintMore
attribute [local go_sem] max2_int min2_int max_two min_two max_three min_three max_four min_four   -- for this text's walks alone
set_option linter.unusedVariables false
set_option linter.unusedSimpArgs false

/-! ### foolscapref15_Lcm: function 25 -/
mutual
def foolscapref15_Lcm.l0 : Nat → List Int → Int → Option (Int × Int)
  | 0, _, _ => none
  | k + 1, x0, x4 => if x4 < (x0.length : Int) then (if 0 ≤ x4 then (if (wrap64 (Int.tdiv (rd x0 x4) 1000000)) = 0 then (some (0, 0)) else (foolscapref15_Lcm.l0 k x0 (wrap64 (x4 + 1)))) else (none)) else (foolscapref15_Lcm.l1 k x0 1 0)
def foolscapref15_Lcm.l1 : Nat → List Int → Int → Int → Option (Int × Int)
  | 0, _, _, _ => none
  | k + 1, x0, x5, x6 => if x6 < (x0.length : Int) then (if 0 ≤ x6 then ((foolscapref15_gcd.f k x5 (wrap64 (Int.tdiv (rd x0 x6) 1000000))).bind fun t180 => (if t180 = 0 then (none) else (if (wrap64 (Int.tdiv (wrap64 (Int.tdiv (rd x0 x6) 1000000)) t180)) = 0 then (none) else (if x5 > (wrap64 (Int.tdiv (1000000000000 : Int) (wrap64 (Int.tdiv (wrap64 (Int.tdiv (rd x0 x6) 1000000)) t180)))) then (some (0, 5)) else (foolscapref15_Lcm.l1 k x0 (wrap64 (x5 * (wrap64 (Int.tdiv (wrap64 (Int.tdiv (rd x0 x6) 1000000)) t180)))) (wrap64 (x6 + 1))))))) else (none)) else (some (wrap64 (x5 * 1000000), 0))
end
def foolscapref15_Lcm.f (k : Nat) (l0 : List Int) : Option (Int × Int) := (foolscapref15_good.f k l0).bind fun t177 => (if t177 = true then (foolscapref15_Lcm.l0 k l0 0) else (some (0, 5)))
theorem foolscapref15_Lcm.mono_l : ∀ k, (∀ y0 y1, LeO (foolscapref15_Lcm.l0 k y0 y1) (foolscapref15_Lcm.l0 (k + 1) y0 y1)) ∧ (∀ y0 y1 y2, LeO (foolscapref15_Lcm.l1 k y0 y1 y2) (foolscapref15_Lcm.l1 (k + 1) y0 y1 y2))
  | 0 => ⟨fun _ _ r h => by simp [foolscapref15_Lcm.l0] at h, fun _ _ _ r h => by simp [foolscapref15_Lcm.l1] at h⟩
  | k + 1 => by
    obtain ⟨ih0, ih1⟩ := foolscapref15_Lcm.mono_l k
    refine ⟨?_, ?_⟩
    · intro y0 y1
      unfold foolscapref15_Lcm.l0
      repeat' first
      | (with_reducible exact ih0 _ _)
      | (with_reducible exact ih1 _ _ _)
      | (with_reducible exact foolscapref15_gcd.mono _ _ _)
      | (with_reducible exact foolscapref15_good.mono _ _)
      | (with_reducible exact LeO.refl _)
      | (with_reducible exact LeO.none _)
      | (with_reducible refine LeO.ite ?_ ?_)
      | (with_reducible refine LeO.bind ?_ (fun _ => ?_))
      | exact ih0 _ _
      | exact ih1 _ _ _
      | exact foolscapref15_gcd.mono _ _ _
      | exact foolscapref15_good.mono _ _
      | exact LeO.none _
      | refine LeO.ite ?_ ?_
      | refine LeO.bind ?_ (fun _ => ?_)
    · intro y0 y1 y2
      unfold foolscapref15_Lcm.l1
      repeat' first
      | (with_reducible exact ih0 _ _)
      | (with_reducible exact ih1 _ _ _)
      | (with_reducible exact foolscapref15_gcd.mono _ _ _)
      | (with_reducible exact foolscapref15_good.mono _ _)
      | (with_reducible exact LeO.refl _)
      | (with_reducible exact LeO.none _)
      | (with_reducible refine LeO.ite ?_ ?_)
      | (with_reducible refine LeO.bind ?_ (fun _ => ?_))
      | exact ih0 _ _
      | exact ih1 _ _ _
      | exact foolscapref15_gcd.mono _ _ _
      | exact foolscapref15_good.mono _ _
      | exact LeO.none _
      | refine LeO.ite ?_ ?_
      | refine LeO.bind ?_ (fun _ => ?_)
theorem foolscapref15_Lcm.mono : ∀ a0 k, LeO (foolscapref15_Lcm.f k a0) (foolscapref15_Lcm.f (k + 1) a0) := by
  intro a0 k
  obtain ⟨ih0, ih1⟩ := foolscapref15_Lcm.mono_l k
  unfold foolscapref15_Lcm.f
  repeat' first
      | (with_reducible exact ih0 _ _)
      | (with_reducible exact ih1 _ _ _)
      | (with_reducible exact foolscapref15_gcd.mono _ _ _)
      | (with_reducible exact foolscapref15_good.mono _ _)
      | (with_reducible exact LeO.refl _)
      | (with_reducible exact LeO.none _)
      | (with_reducible refine LeO.ite ?_ ?_)
      | (with_reducible refine LeO.bind ?_ (fun _ => ?_))
      | exact ih0 _ _
      | exact ih1 _ _ _
      | exact foolscapref15_gcd.mono _ _ _
      | exact foolscapref15_good.mono _ _
      | exact LeO.none _
      | refine LeO.ite ?_ ?_
      | refine LeO.bind ?_ (fun _ => ?_)
set_option maxHeartbeats 8000000 in
set_option maxRecDepth 100000 in
theorem foolscapref15_Lcm.calls (k : Nat) (A0 : Option Addr) (c0 : Nat) (l0 : List Int) (r1 : Int) (r2 : Int) (w : World) (hr0 : Kd.C (Kd.int .i64) w A0 l0.length l0) (hc0 : l0.length ≤ c0) (h : foolscapref15_Lcm.f k l0 = some (r1, r2)) :
    Calls Try.prog 25 #[.slice A0 l0.length c0] w fun e w' => e = .returned (.tuple #[.int .i64 r1, .int .i64 r2]) ∧ Drawn0 w w' := by
  have HR0 := Aside0.mk hr0
  have HC0 := Aside0.mk hc0
  clear hr0 hc0
  have H : ((foolscapref15_good.f k l0).bind fun t177 => (if t177 = true then (foolscapref15_Lcm.l0 k l0 0) else (some (0, 5)))) = some (r1, r2) := h
  clear h
  replace H := Option.bind_eq_some_iff.mp H
  obtain ⟨t177, A20, H⟩ := H
  replace H : (if t177 = true then (foolscapref15_Lcm.l0 k l0 0) else (some (0, 5))) = some (r1, r2) := H
  have A2 := Aside0.mk A20
  clear A20
  by_cases c3 : t177 = true
  · subst c3
    have H1 : (foolscapref15_Lcm.l0 k l0 0) = some (r1, r2) := by rw [if_pos rfl] at H; exact H
    clear H
    have H := H1
    clear H1
    have H' := Aside0.mk H
    clear H
    go_enter Try.func25, Try.ntmps25
    go_wp2_with (first | ((with_reducible refine gate_callee (f := 59) rfl ?_); refine goesL_ (some 10) rfl rfl Try.func59 (by kernel_rfl) rfl #[.slice A0 l0.length c0] rfl (by (try simp only [List.map_toArray, List.map_cons, List.map_nil]); first | done | rfl | (simp only [List.length_drop, List.length_take]; rfl)) ?_; (with_reducible refine (foolscapref15_good.calls k _ _ l0 true _ ?side1 ?side2 A2.out).mono ?_); (case side1 => repeat (first | exact HR0.out | (with_reducible refine Kd.C_alloc ?_ _) | (with_reducible refine Kd.C_drewN ?_ _) | (with_reducible refine Kd.C_drew ?_))); (case side2 => exact HC0.out); rintro e w' ⟨rfl, ⟨nd, rfl⟩⟩; refine ⟨_, rfl, ?_⟩))
    go_loopg [4] k (fun kq v4 w' => ∃ (x4_1 : Int), v4 = .int .i64 x4_1 ∧ Aside0 (foolscapref15_Lcm.l0 kq l0 x4_1 = some (r1, r2)) ∧ Aside0 (kq ≤ k) ∧ Drawn0 w w')
    case atStart => exact ⟨(0), (by first | rfl | (simp; done) | (simp [*]; done)), H', ⟨Nat.le_refl _⟩, by repeat (first | exact Drawn0.refl _ | apply Drawn0.step)⟩
    case round =>
      clear H'
      try clear c2
      try clear p2
      try clear c3
      obtain ⟨x4_1, rfl, HA, HK1, ⟨m1, rfl⟩⟩ := hrel
      cases gk with
      | zero => exact absurd HA.out (by simp [foolscapref15_Lcm.l0])
      | succ k1 =>
        have H := HA.out
        clear HA
        simp only [foolscapref15_Lcm.l0] at H
        by_cases c4 : x4_1 < (l0.length : Int)
        · rw [if_pos c4] at H
          have c4b0 : decide (x4_1 < (l0.length : Int)) = true := decide_eq_true c4
          clear c4
          by_cases c5 : 0 ≤ x4_1
          · rw [if_pos c5] at H
            have c5b0 : decide (0 ≤ x4_1) = true := decide_eq_true c5
            clear c5
            by_cases c6 : (wrap64 (Int.tdiv (rd l0 x4_1) 1000000)) = 0
            · rw [if_pos c6] at H
              have c6b0 : ((wrap64 (Int.tdiv (rd l0 x4_1) 1000000)) == 0) = true := beq_iff_eq.mpr c6
              have c6b1 : ((wrap64 (Int.tdiv (rd l0 x4_1) 1000000)) != 0) = false := bne_eq_false_iff_eq.mpr c6
              clear c6
              simp only [Option.some.injEq, Prod.mk.injEq] at H
              obtain ⟨rfl, rfl⟩ := H
              have p178 : 0 ≤ (x4_1 : Int) := of_decide_eq_true (by first | (with_reducible assumption) | assumption)
              have q178 : x4_1 < (l0.length : Int) := of_decide_eq_true (by first | (with_reducible assumption) | assumption)
              obtain ⟨ad178, e178, hx178_0⟩ := Kd.at_int HR0.out x4_1 p178 q178
              cases e178
              replace p178 := eq_true p178
              replace q178 := eq_true q178
              go_wp2
              go_ret2
              exact ⟨by first | rfl | (simp; done) | (simp [*]; done), by repeat (first | exact Drawn0.refl _ | apply Drawn0.step)⟩
            · rw [if_neg c6] at H
              have c6b0 : ((wrap64 (Int.tdiv (rd l0 x4_1) 1000000)) == 0) = false := beq_eq_false_iff_ne.mpr c6
              have c6b1 : ((wrap64 (Int.tdiv (rd l0 x4_1) 1000000)) != 0) = true := bne_iff_ne.mpr c6
              have H' := Aside0.mk H
              clear H
              have p178 : 0 ≤ (x4_1 : Int) := of_decide_eq_true (by first | (with_reducible assumption) | assumption)
              have q178 : x4_1 < (l0.length : Int) := of_decide_eq_true (by first | (with_reducible assumption) | assumption)
              obtain ⟨ad178, e178, hx178_0⟩ := Kd.at_int HR0.out x4_1 p178 q178
              cases e178
              replace p178 := eq_true p178
              replace q178 := eq_true q178
              go_wp2
              go_roundg k1
              case measure => have := HK1.out; omega
              case rel => exact ⟨(wrap64 (x4_1 + 1)), (by first | rfl | (simp; done) | (simp [*]; done)), H', ⟨by have := HK1.out; omega⟩, by repeat (first | exact Drawn0.refl _ | apply Drawn0.step)⟩
          · rw [if_neg c5] at H
            exact absurd H (by simp)
        · rw [if_neg c4] at H
          have c4b0 : decide (x4_1 < (l0.length : Int)) = false := decide_eq_false c4
          clear c4
          have H' := Aside0.mk H
          clear H
          go_wp2
          go_loopg [5, 6] k1 (fun kq v5 v6 w' => ∃ (x5_2 : Int) (x6_2 : Int), v5 = .int .i64 x5_2 ∧ v6 = .int .i64 x6_2 ∧ Aside0 (foolscapref15_Lcm.l1 kq l0 x5_2 x6_2 = some (r1, r2)) ∧ Aside0 (kq ≤ k1) ∧ Drawn0 w w')
          case atStart => exact ⟨(1), (0), (by first | rfl | (simp; done) | (simp [*]; done)), (by first | rfl | (simp; done) | (simp [*]; done)), H', ⟨Nat.le_refl _⟩, by repeat (first | exact Drawn0.refl _ | apply Drawn0.step)⟩
          case round =>
            clear H'
            try clear p1
            try clear q1
            try clear hx1
            try clear c2
            try clear p2
            try clear c3
            try clear c4
            try clear c4b0
            try clear c5
            try clear c5b0
            try clear c6
            try clear c6b0
            try clear c6b1
            try clear p6
            try clear hx178_0
            try clear p178
            try clear p2
            try clear q178
            obtain ⟨x5_2, x6_2, rfl, rfl, HA, HK2, ⟨m2, rfl⟩⟩ := hrel
            cases gk with
            | zero => exact absurd HA.out (by simp [foolscapref15_Lcm.l1])
            | succ k2 =>
              have H := HA.out
              clear HA
              simp only [foolscapref15_Lcm.l1] at H
              by_cases c7 : x6_2 < (l0.length : Int)
              · rw [if_pos c7] at H
                have c7b0 : decide (x6_2 < (l0.length : Int)) = true := decide_eq_true c7
                clear c7
                by_cases c8 : 0 ≤ x6_2
                · rw [if_pos c8] at H
                  have c8b0 : decide (0 ≤ x6_2) = true := decide_eq_true c8
                  clear c8
                  replace H := Option.bind_eq_some_iff.mp H
                  obtain ⟨t180, A90, H⟩ := H
                  replace H : (if t180 = 0 then (none) else (if (wrap64 (Int.tdiv (wrap64 (Int.tdiv (rd l0 x6_2) 1000000)) t180)) = 0 then (none) else (if x5_2 > (wrap64 (Int.tdiv (1000000000000 : Int) (wrap64 (Int.tdiv (wrap64 (Int.tdiv (rd l0 x6_2) 1000000)) t180)))) then (some (0, 5)) else (foolscapref15_Lcm.l1 k2 l0 (wrap64 (x5_2 * (wrap64 (Int.tdiv (wrap64 (Int.tdiv (rd l0 x6_2) 1000000)) t180)))) (wrap64 (x6_2 + 1)))))) = some (r1, r2) := H
                  have A9 := Aside0.mk A90
                  clear A90
                  by_cases c10 : t180 = 0
                  · rw [if_pos c10] at H
                    exact absurd H (by simp)
                  · rw [if_neg c10] at H
                    have c10b0 : (t180 == 0) = false := beq_eq_false_iff_ne.mpr c10
                    have c10b1 : (t180 != 0) = true := bne_iff_ne.mpr c10
                    by_cases c11 : (wrap64 (Int.tdiv (wrap64 (Int.tdiv (rd l0 x6_2) 1000000)) t180)) = 0
                    · rw [if_pos c11] at H
                      exact absurd H (by simp)
                    · rw [if_neg c11] at H
                      have c11b0 : ((wrap64 (Int.tdiv (wrap64 (Int.tdiv (rd l0 x6_2) 1000000)) t180)) == 0) = false := beq_eq_false_iff_ne.mpr c11
                      have c11b1 : ((wrap64 (Int.tdiv (wrap64 (Int.tdiv (rd l0 x6_2) 1000000)) t180)) != 0) = true := bne_iff_ne.mpr c11
                      by_cases c12 : x5_2 > (wrap64 (Int.tdiv (1000000000000 : Int) (wrap64 (Int.tdiv (wrap64 (Int.tdiv (rd l0 x6_2) 1000000)) t180))))
                      · rw [if_pos c12] at H
                        have c12b0 : decide ((wrap64 (Int.tdiv (1000000000000 : Int) (wrap64 (Int.tdiv (wrap64 (Int.tdiv (rd l0 x6_2) 1000000)) t180)))) < x5_2) = true := decide_eq_true c12
                        clear c12
                        simp only [Option.some.injEq, Prod.mk.injEq] at H
                        obtain ⟨rfl, rfl⟩ := H
                        have p179 : 0 ≤ (x6_2 : Int) := of_decide_eq_true (by first | (with_reducible assumption) | assumption)
                        have q179 : x6_2 < (l0.length : Int) := of_decide_eq_true (by first | (with_reducible assumption) | assumption)
                        obtain ⟨ad179, e179, hx179_0⟩ := Kd.at_int HR0.out x6_2 p179 q179
                        cases e179
                        replace p179 := eq_true p179
                        replace q179 := eq_true q179
                        go_wp2_with (first | ((with_reducible refine gate_callee (f := 60) rfl ?_); refine goesL_ (some 38) rfl rfl Try.func60 (by kernel_rfl) rfl #[.int .i64 x5_2, .int .i64 (wrap64 (Int.tdiv (rd l0 x6_2) 1000000))] rfl (by (try simp only [List.map_toArray, List.map_cons, List.map_nil]); first | done | rfl | (simp only [List.length_drop, List.length_take]; rfl)) ?_; (with_reducible refine (foolscapref15_gcd.calls k2 x5_2 (wrap64 (Int.tdiv (rd l0 x6_2) 1000000)) t180 _ A9.out).mono ?_); rintro e w' ⟨rfl, ⟨nd, rfl⟩⟩; refine ⟨_, rfl, ?_⟩))
                        go_ret2
                        exact ⟨by first | rfl | (simp; done) | (simp [*]; done), by repeat (first | exact Drawn0.refl _ | apply Drawn0.step)⟩
                      · rw [if_neg c12] at H
                        have c12b0 : decide ((wrap64 (Int.tdiv (1000000000000 : Int) (wrap64 (Int.tdiv (wrap64 (Int.tdiv (rd l0 x6_2) 1000000)) t180)))) < x5_2) = false := decide_eq_false c12
                        clear c12
                        have H' := Aside0.mk H
                        clear H
                        have p179 : 0 ≤ (x6_2 : Int) := of_decide_eq_true (by first | (with_reducible assumption) | assumption)
                        have q179 : x6_2 < (l0.length : Int) := of_decide_eq_true (by first | (with_reducible assumption) | assumption)
                        obtain ⟨ad179, e179, hx179_0⟩ := Kd.at_int HR0.out x6_2 p179 q179
                        cases e179
                        replace p179 := eq_true p179
                        replace q179 := eq_true q179
                        go_wp2_with (first | ((with_reducible refine gate_callee (f := 60) rfl ?_); refine goesL_ (some 38) rfl rfl Try.func60 (by kernel_rfl) rfl #[.int .i64 x5_2, .int .i64 (wrap64 (Int.tdiv (rd l0 x6_2) 1000000))] rfl (by (try simp only [List.map_toArray, List.map_cons, List.map_nil]); first | done | rfl | (simp only [List.length_drop, List.length_take]; rfl)) ?_; (with_reducible refine (foolscapref15_gcd.calls k2 x5_2 (wrap64 (Int.tdiv (rd l0 x6_2) 1000000)) t180 _ A9.out).mono ?_); rintro e w' ⟨rfl, ⟨nd, rfl⟩⟩; refine ⟨_, rfl, ?_⟩))
                        go_roundg k2
                        case measure => have := HK1.out; have := HK2.out; omega
                        case rel => exact ⟨(wrap64 (x5_2 * (wrap64 (Int.tdiv (wrap64 (Int.tdiv (rd l0 x6_2) 1000000)) t180)))), (wrap64 (x6_2 + 1)), (by first | rfl | (simp; done) | (simp [*]; done)), (by first | rfl | (simp; done) | (simp [*]; done)), H', ⟨by have := HK1.out; have := HK2.out; omega⟩, by repeat (first | exact Drawn0.refl _ | apply Drawn0.step)⟩
                · rw [if_neg c8] at H
                  exact absurd H (by simp)
              · rw [if_neg c7] at H
                have c7b0 : decide (x6_2 < (l0.length : Int)) = false := decide_eq_false c7
                clear c7
                simp only [Option.some.injEq, Prod.mk.injEq] at H
                obtain ⟨rfl, rfl⟩ := H
                go_wp2
                go_ret2
                exact ⟨by first | rfl | (simp; done) | (simp [*]; done), by repeat (first | exact Drawn0.refl _ | apply Drawn0.step)⟩
  · replace c3 := Bool.eq_false_iff.mpr c3
    subst c3
    have H1 : (some (0, 5)) = some (r1, r2) := by rw [if_neg (show ¬ (false = true) by decide)] at H; exact H
    clear H
    have H := H1
    clear H1
    simp only [Option.some.injEq, Prod.mk.injEq] at H
    obtain ⟨rfl, rfl⟩ := H
    go_enter Try.func25, Try.ntmps25
    go_wp2_with (first | ((with_reducible refine gate_callee (f := 59) rfl ?_); refine goesL_ (some 10) rfl rfl Try.func59 (by kernel_rfl) rfl #[.slice A0 l0.length c0] rfl (by (try simp only [List.map_toArray, List.map_cons, List.map_nil]); first | done | rfl | (simp only [List.length_drop, List.length_take]; rfl)) ?_; (with_reducible refine (foolscapref15_good.calls k _ _ l0 false _ ?side1 ?side2 A2.out).mono ?_); (case side1 => repeat (first | exact HR0.out | (with_reducible refine Kd.C_alloc ?_ _) | (with_reducible refine Kd.C_drewN ?_ _) | (with_reducible refine Kd.C_drew ?_))); (case side2 => exact HC0.out); rintro e w' ⟨rfl, ⟨nd, rfl⟩⟩; refine ⟨_, rfl, ?_⟩))
    go_ret2
    exact ⟨by first | rfl | (simp; done) | (simp [*]; done), by repeat (first | exact Drawn0.refl _ | apply Drawn0.step)⟩

/-! ### foolscaplaw15_MathsLists: function 6 -/
def foolscaplaw15_MathsLists.f (k : Nat) (l0 : List Int) : Option (Bool) := (some (([] : List Int) : List Int)).bind fun y181 => (if y181.length + l0.length < 17592186044416 then ((maths_Gcd.f k (y181 ++ l0)).bind fun bt187 => ((foolscapref15_Gcd.f k l0).bind fun bt189 => ((some (([] : List Int) : List Int)).bind fun y191 => (if y191.length + l0.length < 17592186044416 then ((maths_Lcm.f k (y191 ++ l0)).bind fun bt197 => ((foolscapref15_Lcm.f k l0).bind fun bt199 => (if bt187.1 = bt189.1 then (if bt187.2 = bt189.2 then (if bt197.1 = bt199.1 then (if bt197.2 = bt199.2 then ((foolscaplaw15_lives.f k).bind fun t201 => (some t201)) else (some false)) else (some false)) else (some false)) else (some false)))) else (none))))) else (none))
theorem foolscaplaw15_MathsLists.mono : ∀ a0 k, LeO (foolscaplaw15_MathsLists.f k a0) (foolscaplaw15_MathsLists.f (k + 1) a0) := by
  intro a0 k
  unfold foolscaplaw15_MathsLists.f
  repeat' first
      | (with_reducible exact foolscaplaw15_lives.mono _)
      | (with_reducible exact foolscapref15_Gcd.mono _ _)
      | (with_reducible exact foolscapref15_Lcm.mono _ _)
      | (with_reducible exact maths_Gcd.mono _ _)
      | (with_reducible exact maths_Lcm.mono _ _)
      | (with_reducible exact LeO.refl _)
      | (with_reducible exact LeO.none _)
      | (with_reducible refine LeO.ite ?_ ?_)
      | (with_reducible refine LeO.bind ?_ (fun _ => ?_))
      | exact foolscaplaw15_lives.mono _
      | exact foolscapref15_Gcd.mono _ _
      | exact foolscapref15_Lcm.mono _ _
      | exact maths_Gcd.mono _ _
      | exact maths_Lcm.mono _ _
      | exact LeO.none _
      | refine LeO.ite ?_ ?_
      | refine LeO.bind ?_ (fun _ => ?_)
set_option maxHeartbeats 8000000 in
set_option maxRecDepth 100000 in
theorem foolscaplaw15_MathsLists.calls (k : Nat) (A0 : Option Addr) (c0 : Nat) (l0 : List Int) (r : Bool) (w : World) (hr0 : Kd.C (Kd.int .i64) w A0 l0.length l0) (hc0 : l0.length ≤ c0) (h : foolscaplaw15_MathsLists.f k l0 = some r) (hR_ : r = true) :
    Calls Try.prog 6 #[.slice A0 l0.length c0] w fun e w' => e = .returned (.bool r) ∧ Below w.heap.size w w' := by
  have HR_ := Aside0.mk hR_
  clear hR_
  have HR0 := Aside0.mk hr0
  have HC0 := Aside0.mk hc0
  clear hr0 hc0
  have HB := Aside0.mk (Below.refl w.heap.size w)
  have H : ((some (([] : List Int) : List Int)).bind fun y181 => (if y181.length + l0.length < 17592186044416 then ((maths_Gcd.f k (y181 ++ l0)).bind fun bt187 => ((foolscapref15_Gcd.f k l0).bind fun bt189 => ((some (([] : List Int) : List Int)).bind fun y191 => (if y191.length + l0.length < 17592186044416 then ((maths_Lcm.f k (y191 ++ l0)).bind fun bt197 => ((foolscapref15_Lcm.f k l0).bind fun bt199 => (if bt187.1 = bt189.1 then (if bt187.2 = bt189.2 then (if bt197.1 = bt199.1 then (if bt197.2 = bt199.2 then ((foolscaplaw15_lives.f k).bind fun t201 => (some t201)) else (some false)) else (some false)) else (some false)) else (some false)))) else (none))))) else (none))) = some r := h
  clear h
  obtain ⟨y181, hy181⟩ : ∃ y_ : List Int, y_ = (([] : List Int)) := ⟨_, rfl⟩
  replace H : (if y181.length + l0.length < 17592186044416 then ((maths_Gcd.f k (y181 ++ l0)).bind fun bt187 => ((foolscapref15_Gcd.f k l0).bind fun bt189 => ((some (([] : List Int) : List Int)).bind fun y191 => (if y191.length + l0.length < 17592186044416 then ((maths_Lcm.f k (y191 ++ l0)).bind fun bt197 => ((foolscapref15_Lcm.f k l0).bind fun bt199 => (if bt187.1 = bt189.1 then (if bt187.2 = bt189.2 then (if bt197.1 = bt199.1 then (if bt197.2 = bt199.2 then ((foolscaplaw15_lives.f k).bind fun t201 => (some t201)) else (some false)) else (some false)) else (some false)) else (some false)))) else (none))))) else (none)) = some r := by first | (rw [hy181]; with_reducible exact H) | (have H2_ := (Option.bind_some _ _).symm.trans H; rw [hy181]; with_reducible exact H2_) | (have H2_ := (Option.bind_some _ _).symm.trans H; with_reducible exact H2_) | with_reducible exact H | (rw [hy181]; exact H) | exact H
  have Ny181 := Aside0.mk hy181
  clear hy181
  by_cases c2 : y181.length + l0.length < 17592186044416
  · rw [if_pos c2] at H
    have LMc2 := Aside0.mk c2
    clear c2
    obtain ⟨y184, hy184⟩ : ∃ y_ : List Int, y_ = (y181 ++ l0) := ⟨_, rfl⟩
    replace H : ((maths_Gcd.f k y184).bind fun bt187 => ((foolscapref15_Gcd.f k l0).bind fun bt189 => ((some (([] : List Int) : List Int)).bind fun y191 => (if y191.length + l0.length < 17592186044416 then ((maths_Lcm.f k (y191 ++ l0)).bind fun bt197 => ((foolscapref15_Lcm.f k l0).bind fun bt199 => (if bt187.1 = bt189.1 then (if bt187.2 = bt189.2 then (if bt197.1 = bt199.1 then (if bt197.2 = bt199.2 then ((foolscaplaw15_lives.f k).bind fun t201 => (some t201)) else (some false)) else (some false)) else (some false)) else (some false)))) else (none))))) = some r := by first | (rw [hy184]; with_reducible exact H) | (have H2_ := (Option.bind_some _ _).symm.trans H; rw [hy184]; with_reducible exact H2_) | (have H2_ := (Option.bind_some _ _).symm.trans H; with_reducible exact H2_) | with_reducible exact H | (rw [hy184]; exact H) | exact H
    have Ny184 := Aside0.mk hy184
    clear hy184
    replace H := Option.bind_eq_some_iff.mp H
    obtain ⟨⟨t187, t188⟩, A30, H⟩ := H
    replace H : ((foolscapref15_Gcd.f k l0).bind fun bt189 => ((some (([] : List Int) : List Int)).bind fun y191 => (if y191.length + l0.length < 17592186044416 then ((maths_Lcm.f k (y191 ++ l0)).bind fun bt197 => ((foolscapref15_Lcm.f k l0).bind fun bt199 => (if t187 = bt189.1 then (if t188 = bt189.2 then (if bt197.1 = bt199.1 then (if bt197.2 = bt199.2 then ((foolscaplaw15_lives.f k).bind fun t201 => (some t201)) else (some false)) else (some false)) else (some false)) else (some false)))) else (none)))) = some r := H
    have A3 := Aside0.mk A30
    clear A30
    replace H := Option.bind_eq_some_iff.mp H
    obtain ⟨⟨t189, t190⟩, A40, H⟩ := H
    replace H : ((some (([] : List Int) : List Int)).bind fun y191 => (if y191.length + l0.length < 17592186044416 then ((maths_Lcm.f k (y191 ++ l0)).bind fun bt197 => ((foolscapref15_Lcm.f k l0).bind fun bt199 => (if t187 = t189 then (if t188 = t190 then (if bt197.1 = bt199.1 then (if bt197.2 = bt199.2 then ((foolscaplaw15_lives.f k).bind fun t201 => (some t201)) else (some false)) else (some false)) else (some false)) else (some false)))) else (none))) = some r := H
    have A4 := Aside0.mk A40
    clear A40
    obtain ⟨y191, hy191⟩ : ∃ y_ : List Int, y_ = (([] : List Int)) := ⟨_, rfl⟩
    replace H : (if y191.length + l0.length < 17592186044416 then ((maths_Lcm.f k (y191 ++ l0)).bind fun bt197 => ((foolscapref15_Lcm.f k l0).bind fun bt199 => (if t187 = t189 then (if t188 = t190 then (if bt197.1 = bt199.1 then (if bt197.2 = bt199.2 then ((foolscaplaw15_lives.f k).bind fun t201 => (some t201)) else (some false)) else (some false)) else (some false)) else (some false)))) else (none)) = some r := by first | (rw [hy191]; with_reducible exact H) | (have H2_ := (Option.bind_some _ _).symm.trans H; rw [hy191]; with_reducible exact H2_) | (have H2_ := (Option.bind_some _ _).symm.trans H; with_reducible exact H2_) | with_reducible exact H | (rw [hy191]; exact H) | exact H
    have Ny191 := Aside0.mk hy191
    clear hy191
    by_cases c5 : y191.length + l0.length < 17592186044416
    · rw [if_pos c5] at H
      have LMc5 := Aside0.mk c5
      clear c5
      obtain ⟨y194, hy194⟩ : ∃ y_ : List Int, y_ = (y191 ++ l0) := ⟨_, rfl⟩
      replace H : ((maths_Lcm.f k y194).bind fun bt197 => ((foolscapref15_Lcm.f k l0).bind fun bt199 => (if t187 = t189 then (if t188 = t190 then (if bt197.1 = bt199.1 then (if bt197.2 = bt199.2 then ((foolscaplaw15_lives.f k).bind fun t201 => (some t201)) else (some false)) else (some false)) else (some false)) else (some false)))) = some r := by first | (rw [hy194]; with_reducible exact H) | (have H2_ := (Option.bind_some _ _).symm.trans H; rw [hy194]; with_reducible exact H2_) | (have H2_ := (Option.bind_some _ _).symm.trans H; with_reducible exact H2_) | with_reducible exact H | (rw [hy194]; exact H) | exact H
      have Ny194 := Aside0.mk hy194
      clear hy194
      replace H := Option.bind_eq_some_iff.mp H
      obtain ⟨⟨t197, t198⟩, A60, H⟩ := H
      replace H : ((foolscapref15_Lcm.f k l0).bind fun bt199 => (if t187 = t189 then (if t188 = t190 then (if t197 = bt199.1 then (if t198 = bt199.2 then ((foolscaplaw15_lives.f k).bind fun t201 => (some t201)) else (some false)) else (some false)) else (some false)) else (some false))) = some r := H
      have A6 := Aside0.mk A60
      clear A60
      replace H := Option.bind_eq_some_iff.mp H
      obtain ⟨⟨t199, t200⟩, A70, H⟩ := H
      replace H : (if t187 = t189 then (if t188 = t190 then (if t197 = t199 then (if t198 = t200 then ((foolscaplaw15_lives.f k).bind fun t201 => (some t201)) else (some false)) else (some false)) else (some false)) else (some false)) = some r := H
      have A7 := Aside0.mk A70
      clear A70
      by_cases c8 : t187 = t189
      · rw [if_pos c8] at H
        have c8b0 : (t187 == t189) = true := beq_iff_eq.mpr c8
        have c8b1 : (t187 != t189) = false := bne_eq_false_iff_eq.mpr c8
        clear c8
        by_cases c9 : t188 = t190
        · rw [if_pos c9] at H
          have c9b0 : (t188 == t190) = true := beq_iff_eq.mpr c9
          have c9b1 : (t188 != t190) = false := bne_eq_false_iff_eq.mpr c9
          clear c9
          by_cases c10 : t197 = t199
          · rw [if_pos c10] at H
            have c10b0 : (t197 == t199) = true := beq_iff_eq.mpr c10
            have c10b1 : (t197 != t199) = false := bne_eq_false_iff_eq.mpr c10
            clear c10
            by_cases c11 : t198 = t200
            · rw [if_pos c11] at H
              have c11b0 : (t198 == t200) = true := beq_iff_eq.mpr c11
              have c11b1 : (t198 != t200) = false := bne_eq_false_iff_eq.mpr c11
              clear c11
              replace H := Option.bind_eq_some_iff.mp H
              obtain ⟨t201, A120, H⟩ := H
              replace H : (some t201) = some r := H
              have A12 := Aside0.mk A120
              clear A120
              obtain rfl := Option.some.inj H
              simp only [Option.some.injEq, Prod.mk.injEq] at H
              obtain ⟨rfl⟩ := H
              go_enter Try.func6, Try.ntmps6
              go_wp2_with (first | ((with_reducible refine gate_dst (N := 12) rfl ?_); refine Kd.R_lit (Kd.int .i64) _ 3 ?hg (N := 12) ?hd (xs := ([] : List Int)) (inner := []) (ok := fun _ => True) (okp := fun _ => True) ?hr ?hp (fun _ hk => hk) trivial (Below.refl _ _) (Nat.le_refl _) (by simp) ?_; (case hd => rfl); (case hg => rfl); (case hr => first | (go_simp; done) | (go_simp; rfl)); (case hp => exact (Reps.none _ _)); intro v182 w13 ho14 hb hg_ hnew_; clear hg_ hnew_; (first | rw [← Ny181.out] at ho14 | (simp only [Int.reduceToNat] at ho14; rw [← Ny181.out] at ho14)); have n0_ := Aside0.mk (Kd.R_lower ho14 (below_size (by repeat (first | (with_reducible first | exact HB.out | apply below_alloc | apply pw_below_drewN | apply below_drew1) | exact HB.out)))); have n1_ := Aside0.mk (below_step (by repeat (first | (with_reducible first | exact HB.out | apply below_alloc | apply pw_below_drewN | apply below_drew1) | exact HB.out)) hb); clear HB; have HO183 := n0_; have HB := n1_; clear n0_ n1_; clear hb ho14) | ((with_reducible refine gate_builtin (b := .append) (xs := #[.tmp 12, .tmp 13]) rfl ?_); at_builtin; refine Kd.R_append_rows (Kd.int .i64) (w0 := w) w.heap.size rfl (.tmp 12) (.tmp 13) 36 3 (.int .i64 0) 8 rfl Try.underlying36 info3 rfl (by decide) (by omega) v182 y181 l0 _ _ _ (fun _ => True) (fun _ => False) rfl rfl ?aO ?aR (fun _ _ h => h) (fun _ h => h.elim) ?aF ?aB ?aS ?aL ?_; (case aR => repeat (first | exact (Kd.C_below HR0.out HB.out) | (with_reducible refine Kd.C_alloc ?_ _) | (with_reducible refine Kd.C_drewN ?_ _) | (with_reducible refine Kd.C_drew ?_))); (case aB => exact (by repeat (first | (with_reducible first | exact HB.out | apply below_alloc | apply pw_below_drewN | apply below_drew1) | exact HB.out))); (case aF => exact (fun _ _ => trivial)); (case aO => exact (by (with_reducible repeat (first | apply Kd.R_alloc | apply Kd.R_drewN | apply Kd.R_drew)); exact HO183.out)); (case aS => exact (below_size (by repeat (first | (with_reducible first | exact HB.out | apply below_alloc | apply pw_below_drewN | apply below_drew1) | exact HB.out)))); (case aL => have := LMc2.out; omega); intro v185 w15 ho hb hg hat; rw [← Ny184.out] at ho; have n0_ := Aside0.mk (hb); have n1_ := Aside0.mk (ho); clear HB; clear HO183; have HB := n0_; have HO186 := n1_; clear n0_ n1_; clear ho hb hg hat; obtain ⟨Ao16, co16, eo16⟩ := Kd.R_slice HO186.out; subst eo16) | ((with_reducible refine gate_callee (f := 22) rfl ?_); refine goesL_ (some 15) rfl rfl Try.func22 (by kernel_rfl) rfl #[.slice Ao16 y184.length co16] rfl (by (try simp only [List.map_toArray, List.map_cons, List.map_nil]); first | done | rfl | (simp only [List.length_drop, List.length_take]; rfl)) ?_; (with_reducible refine (maths_Gcd.calls k _ _ y184 t187 t188 _ ?side1 ?side2 A3.out).mono ?_); (case side1 => repeat (first | exact (Kd.R_reads' HO186.out).2.2 | (with_reducible refine Kd.C_alloc ?_ _) | (with_reducible refine Kd.C_drewN ?_ _) | (with_reducible refine Kd.C_drew ?_))); (case side2 => exact (Kd.R_reads' HO186.out).2.1); rintro e w' ⟨rfl, ⟨nd, rfl⟩⟩; refine ⟨_, rfl, ?_⟩) | ((with_reducible refine gate_callee (f := 23) rfl ?_); refine goesL_ (some 20) rfl rfl Try.func23 (by kernel_rfl) rfl #[.slice A0 l0.length c0] rfl (by (try simp only [List.map_toArray, List.map_cons, List.map_nil]); first | done | rfl | (simp only [List.length_drop, List.length_take]; rfl)) ?_; (with_reducible refine (foolscapref15_Gcd.calls k _ _ l0 t189 t190 _ ?side1 ?side2 A4.out).mono ?_); (case side1 => repeat (first | exact (Kd.C_below HR0.out (by repeat (first | (with_reducible first | exact HB.out | apply below_alloc | apply pw_below_drewN | apply below_drew1) | exact HB.out))) | (with_reducible refine Kd.C_alloc ?_ _) | (with_reducible refine Kd.C_drewN ?_ _) | (with_reducible refine Kd.C_drew ?_))); (case side2 => exact HC0.out); rintro e w' ⟨rfl, ⟨nd, rfl⟩⟩; refine ⟨_, rfl, ?_⟩) | ((with_reducible refine gate_dst (N := 24) rfl ?_); refine Kd.R_lit (Kd.int .i64) _ 3 ?hg (N := 24) ?hd (xs := ([] : List Int)) (inner := []) (ok := fun _ => True) (okp := fun _ => True) ?hr ?hp (fun _ hk => hk) trivial (Below.refl _ _) (Nat.le_refl _) (by simp) ?_; (case hd => rfl); (case hg => rfl); (case hr => first | (go_simp; done) | (go_simp; rfl)); (case hp => exact (Reps.none _ _)); intro v192 w17 ho18 hb hg_ hnew_; clear hg_ hnew_; (first | rw [← Ny191.out] at ho18 | (simp only [Int.reduceToNat] at ho18; rw [← Ny191.out] at ho18)); have n0_ := Aside0.mk (Kd.R_elder' (by (with_reducible repeat (first | apply Kd.R_alloc | apply Kd.R_drewN | apply Kd.R_drew)); exact HO186.out) (Kd.R_base ho18) hb); have n1_ := Aside0.mk (Kd.R_lower (Kd.R_new' ho18 (Kd.R_lt (by (with_reducible repeat (first | apply Kd.R_alloc | apply Kd.R_drewN | apply Kd.R_drew)); exact HO186.out))) (below_size (by repeat (first | (with_reducible first | exact HB.out | apply below_alloc | apply pw_below_drewN | apply below_drew1) | exact HB.out)))); have n2_ := Aside0.mk (below_step (by repeat (first | (with_reducible first | exact HB.out | apply below_alloc | apply pw_below_drewN | apply below_drew1) | exact HB.out)) hb); clear HO186; clear HB; have HO186 := n0_; have HO193 := n1_; have HB := n2_; clear n0_ n1_ n2_; clear hb ho18) | ((with_reducible refine gate_builtin (b := .append) (xs := #[.tmp 24, .tmp 25]) rfl ?_); at_builtin; refine Kd.R_append_rows (Kd.int .i64) (w0 := w) w.heap.size rfl (.tmp 24) (.tmp 25) 36 3 (.int .i64 0) 8 rfl Try.underlying36 info3 rfl (by decide) (by omega) v192 y191 l0 _ _ _ (fun k_ => some k_ ≠ (.slice Ao16 y184.length co16 : Value).ownBlock) (fun _ => False) rfl rfl ?aO ?aR (fun _ _ h => h) (fun _ h => h.elim) ?aF ?aB ?aS ?aL ?_; (case aR => repeat (first | exact (Kd.C_below HR0.out HB.out) | (with_reducible refine Kd.C_alloc ?_ _) | (with_reducible refine Kd.C_drewN ?_ _) | (with_reducible refine Kd.C_drew ?_))); (case aB => exact (by repeat (first | (with_reducible first | exact HB.out | apply below_alloc | apply pw_below_drewN | apply below_drew1) | exact HB.out))); (case aF => exact (fun k_ hk => Kd.fresh' (Kd.R_lt (by (with_reducible repeat (first | apply Kd.R_alloc | apply Kd.R_drewN | apply Kd.R_drew)); exact HO186.out)) k_ hk)); (case aO => exact (by (with_reducible repeat (first | apply Kd.R_alloc | apply Kd.R_drewN | apply Kd.R_drew)); exact Kd.R_mono HO193.out (fun _ hk => hk.2))); (case aS => exact (below_size (by repeat (first | (with_reducible first | exact HB.out | apply below_alloc | apply pw_below_drewN | apply below_drew1) | exact HB.out)))); (case aL => have := LMc5.out; omega); intro v195 w19 ho hb hg hat; rw [← Ny194.out] at ho; have n0_ := Aside0.mk (Kd.R_after (ok := (fun _ => True)) (by (with_reducible repeat (first | apply Kd.R_alloc | apply Kd.R_drewN | apply Kd.R_drew)); exact HO186.out) hg hat); have n1_ := Aside0.mk (hb); have n2_ := Aside0.mk (ho); clear HO186; clear HB; clear HO193; have HO186 := n0_; have HB := n1_; have HO196 := n2_; clear n0_ n1_ n2_; clear ho hb hg hat; obtain ⟨Ao20, co20, eo20⟩ := Kd.R_slice HO196.out; subst eo20) | ((with_reducible refine gate_callee (f := 24) rfl ?_); refine goesL_ (some 27) rfl rfl Try.func24 (by kernel_rfl) rfl #[.slice Ao20 y194.length co20] rfl (by (try simp only [List.map_toArray, List.map_cons, List.map_nil]); first | done | rfl | (simp only [List.length_drop, List.length_take]; rfl)) ?_; (with_reducible refine (maths_Lcm.calls k _ _ y194 t197 t198 _ ?side1 ?side2 A6.out).mono ?_); (case side1 => repeat (first | exact (Kd.R_reads' HO196.out).2.2 | (with_reducible refine Kd.C_alloc ?_ _) | (with_reducible refine Kd.C_drewN ?_ _) | (with_reducible refine Kd.C_drew ?_))); (case side2 => exact (Kd.R_reads' HO196.out).2.1); rintro e w21 ⟨rfl, hb⟩; refine ⟨_, rfl, ?_⟩; have n0_ := Aside0.mk (Kd.R_below (by (with_reducible repeat (first | apply Kd.R_alloc | apply Kd.R_drewN | apply Kd.R_drew)); exact HO186.out) hb); have n1_ := Aside0.mk (Kd.R_below (by (with_reducible repeat (first | apply Kd.R_alloc | apply Kd.R_drewN | apply Kd.R_drew)); exact HO196.out) hb); have n2_ := Aside0.mk (below_step (by repeat (first | (with_reducible first | exact HB.out | apply below_alloc | apply pw_below_drewN | apply below_drew1) | exact HB.out)) hb); clear HO186; clear HO196; clear HB; have HO186 := n0_; have HO196 := n1_; have HB := n2_; clear n0_ n1_ n2_; (try clear hb); (try clear hb2); (try clear hk); (try clear hi)) | ((with_reducible refine gate_callee (f := 25) rfl ?_); refine goesL_ (some 32) rfl rfl Try.func25 (by kernel_rfl) rfl #[.slice A0 l0.length c0] rfl (by (try simp only [List.map_toArray, List.map_cons, List.map_nil]); first | done | rfl | (simp only [List.length_drop, List.length_take]; rfl)) ?_; (with_reducible refine (foolscapref15_Lcm.calls k _ _ l0 t199 t200 _ ?side1 ?side2 A7.out).mono ?_); (case side1 => repeat (first | exact (Kd.C_below HR0.out HB.out) | (with_reducible refine Kd.C_alloc ?_ _) | (with_reducible refine Kd.C_drewN ?_ _) | (with_reducible refine Kd.C_drew ?_))); (case side2 => exact HC0.out); rintro e w' ⟨rfl, ⟨nd, rfl⟩⟩; refine ⟨_, rfl, ?_⟩) | (go_at_call 18; (with_reducible refine (foolscaplaw15_lives.calls k  t201 _ A12.out).mono ?_); rintro e w22 ⟨rfl, hb⟩; have n0_ := Aside0.mk (Kd.R_below (by (with_reducible repeat (first | apply Kd.R_alloc | apply Kd.R_drewN | apply Kd.R_drew)); exact HO186.out) hb); have n1_ := Aside0.mk (Kd.R_below (by (with_reducible repeat (first | apply Kd.R_alloc | apply Kd.R_drewN | apply Kd.R_drew)); exact HO196.out) hb); have n2_ := Aside0.mk (below_step (by repeat (first | (with_reducible first | exact HB.out | apply below_alloc | apply pw_below_drewN | apply below_drew1) | exact HB.out)) hb); clear HO186; clear HO196; clear HB; have HO186 := n0_; have HO196 := n1_; have HB := n2_; clear n0_ n1_ n2_; (try clear hb); (try clear hb2); (try clear hk); (try clear hi)))
              go_ret
              exact ⟨by first | rfl | (simp [errW_none, errW_some] <;> rfl) | (simp [*, errW_none, errW_some] <;> rfl), by repeat (first | (with_reducible first | exact HB.out | apply below_alloc | apply pw_below_drewN | apply below_drew1) | exact HB.out)⟩
            · rw [if_neg c11] at H
              have c11b0 : (t198 == t200) = false := beq_eq_false_iff_ne.mpr c11
              have c11b1 : (t198 != t200) = true := bne_iff_ne.mpr c11
              obtain rfl := Option.some.inj H
              exact absurd HR_.out (by decide)
          · rw [if_neg c10] at H
            have c10b0 : (t197 == t199) = false := beq_eq_false_iff_ne.mpr c10
            have c10b1 : (t197 != t199) = true := bne_iff_ne.mpr c10
            obtain rfl := Option.some.inj H
            exact absurd HR_.out (by decide)
        · rw [if_neg c9] at H
          have c9b0 : (t188 == t190) = false := beq_eq_false_iff_ne.mpr c9
          have c9b1 : (t188 != t190) = true := bne_iff_ne.mpr c9
          obtain rfl := Option.some.inj H
          exact absurd HR_.out (by decide)
      · rw [if_neg c8] at H
        have c8b0 : (t187 == t189) = false := beq_eq_false_iff_ne.mpr c8
        have c8b1 : (t187 != t189) = true := bne_iff_ne.mpr c8
        obtain rfl := Option.some.inj H
        exact absurd HR_.out (by decide)
    · rw [if_neg c5] at H
      exact absurd H (by simp)
  · rw [if_neg c2] at H
    exact absurd H (by simp)

/-- THE ONE PURE STATEMENT of foolscaplaw15_MathsLists: yours. -/
def foolscaplaw15_MathsLists.Pure : Prop := ∀ (l0 : List Int), l0.length ≤ maxLen → l0.length * 8 ≤ 140737488351232 → (∀ x ∈ l0, (Lit.int .i64 x).wf = true) → ∃ k, foolscaplaw15_MathsLists.f k l0 = some true
theorem foolscaplaw15_MathsLists.walk (P : foolscaplaw15_MathsLists.Pure) (a0 : Option Addr) (len0 cap0 : Nat) (z0 : List Int) (w : World) (w0 : (a0 = none ∧ len0 = 0 ∧ cap0 = 0 ∧ z0 = []) ∨ ∃ x, a0 = some x ∧ len0 ≤ cap0 ∧ cap0 ≤ maxLen ∧ z0.length = cap0 ∧ (∀ i, i < z0.length → w.cell? (x.add i) = some (.int .i64 (z0.getD i 0))) ∧ ∀ n ∈ z0, (Lit.int .i64 n).wf = true) (y0 : len0 * 8 ≤ 140737488351232) :
    Calls Try.prog 6 #[.slice a0 len0 cap0] w fun e w' => e = .returned (.bool true) ∧ Below w.heap.size w w' := by
  obtain ⟨l0, rfl, hr0, hm0, hw0, hc0⟩ := ReadsInt.ofRowC w0
  obtain ⟨k, h⟩ := P l0 hm0 y0 hw0
  refine (foolscaplaw15_MathsLists.calls k _ _ l0 true w (Kd.C_of_reads (d := (0 : Int)) (h1 := fun _ => rfl) hr0) hc0 h rfl).mono ?_
  rintro e w' ⟨rfl, hd⟩
  exact ⟨rfl, hd⟩

/-! ### foolscaplaw15_MathsDivides: function 7 -/
def foolscaplaw15_MathsDivides.j0 : Nat → Int → Int → Int → Bool → Option (Bool)
  | 0, _, _, _, _ => none
  | k + 1, x0, x1, x2, x35 => if x35 = true then ((foolscaplaw15_lives.f k).bind fun t202 => (some t202)) else ((maths_Gcd.f k (([wrap64 (x0 * 1000000), wrap64 (x1 * 1000000), wrap64 (x2 * 1000000)] : List Int))).bind fun bt206 => ((maths_Lcm.f k (([wrap64 (x0 * 1000000), wrap64 (x1 * 1000000)] : List Int))).bind fun bt211 => ((maths_Gcd.f k (([wrap64 (x0 * 1000000), wrap64 (x1 * 1000000)] : List Int))).bind fun bt216 => (if bt206.2 = 0 then (if bt211.2 = 0 then (if bt216.2 = 0 then (if bt206.1 < 1000000 then (some false) else (if (Int.tmod bt206.1 1000000) = 0 then (if (wrap64 (Int.tdiv bt206.1 1000000)) = 0 then (none) else (if (Int.tmod x0 (wrap64 (Int.tdiv bt206.1 1000000))) = 0 then (if (Int.tmod x1 (wrap64 (Int.tdiv bt206.1 1000000))) = 0 then (if (Int.tmod x2 (wrap64 (Int.tdiv bt206.1 1000000))) = 0 then (if (wrap64 (x0 * 1000000)) = 0 then (none) else (if (Int.tmod bt211.1 (wrap64 (x0 * 1000000))) = 0 then (if (wrap64 (x1 * 1000000)) = 0 then (none) else (if (Int.tmod bt211.1 (wrap64 (x1 * 1000000))) = 0 then (if (wrap64 ((wrap64 (Int.tdiv bt211.1 1000000)) * (wrap64 (Int.tdiv bt216.1 1000000)))) = (wrap64 (x0 * x1)) then ((foolscaplaw15_lives.f k).bind fun t218 => (some t218)) else (some false)) else (some false))) else (some false))) else (some false)) else (some false)) else (some false))) else (some false))) else (some false)) else (some false)) else (some false)))))
def foolscaplaw15_MathsDivides.f (k : Nat) (a0 : Int) (a1 : Int) (a2 : Int) : Option (Bool) := if a0 < 1 then (foolscaplaw15_MathsDivides.j0 k a0 a1 a2 true) else (if a1 < 1 then (foolscaplaw15_MathsDivides.j0 k a0 a1 a2 true) else (if a2 < 1 then (foolscaplaw15_MathsDivides.j0 k a0 a1 a2 true) else (if a0 > 1000000 then (foolscaplaw15_MathsDivides.j0 k a0 a1 a2 true) else (if a1 > 1000000 then (foolscaplaw15_MathsDivides.j0 k a0 a1 a2 true) else (foolscaplaw15_MathsDivides.j0 k a0 a1 a2 (decide (a2 > 1000000)))))))
theorem foolscaplaw15_MathsDivides.mono_l : ∀ k, (∀ y0 y1 y2 y3, LeO (foolscaplaw15_MathsDivides.j0 k y0 y1 y2 y3) (foolscaplaw15_MathsDivides.j0 (k + 1) y0 y1 y2 y3))
  | 0 => fun _ _ _ _ r h => by simp [foolscaplaw15_MathsDivides.j0] at h
  | k + 1 => by
    have ih0 := foolscaplaw15_MathsDivides.mono_l k
    · intro y0 y1 y2 y3
      unfold foolscaplaw15_MathsDivides.j0
      repeat' first
      | (with_reducible exact ih0 _ _ _ _)
      | (with_reducible exact foolscaplaw15_lives.mono _)
      | (with_reducible exact maths_Gcd.mono _ _)
      | (with_reducible exact maths_Lcm.mono _ _)
      | (with_reducible exact LeO.refl _)
      | (with_reducible exact LeO.none _)
      | (with_reducible refine LeO.ite ?_ ?_)
      | (with_reducible refine LeO.bind ?_ (fun _ => ?_))
      | exact ih0 _ _ _ _
      | exact foolscaplaw15_lives.mono _
      | exact maths_Gcd.mono _ _
      | exact maths_Lcm.mono _ _
      | exact LeO.none _
      | refine LeO.ite ?_ ?_
      | refine LeO.bind ?_ (fun _ => ?_)
theorem foolscaplaw15_MathsDivides.mono : ∀ a0 a1 a2 k, LeO (foolscaplaw15_MathsDivides.f k a0 a1 a2) (foolscaplaw15_MathsDivides.f (k + 1) a0 a1 a2) := by
  intro a0 a1 a2 k
  have ih0 := foolscaplaw15_MathsDivides.mono_l k
  unfold foolscaplaw15_MathsDivides.f
  repeat' first
      | (with_reducible exact ih0 _ _ _ _)
      | (with_reducible exact foolscaplaw15_lives.mono _)
      | (with_reducible exact maths_Gcd.mono _ _)
      | (with_reducible exact maths_Lcm.mono _ _)
      | (with_reducible exact LeO.refl _)
      | (with_reducible exact LeO.none _)
      | (with_reducible refine LeO.ite ?_ ?_)
      | (with_reducible refine LeO.bind ?_ (fun _ => ?_))
      | exact ih0 _ _ _ _
      | exact foolscaplaw15_lives.mono _
      | exact maths_Gcd.mono _ _
      | exact maths_Lcm.mono _ _
      | exact LeO.none _
      | refine LeO.ite ?_ ?_
      | refine LeO.bind ?_ (fun _ => ?_)
set_option maxHeartbeats 8000000 in
set_option maxRecDepth 100000 in
theorem foolscaplaw15_MathsDivides.calls (k : Nat) (a0 : Int) (a1 : Int) (a2 : Int) (r : Bool) (w : World) (h : foolscaplaw15_MathsDivides.f k a0 a1 a2 = some r) (hR_ : r = true) :
    Calls Try.prog 7 #[.int .i64 a0, .int .i64 a1, .int .i64 a2] w fun e w' => e = .returned (.bool r) ∧ Below w.heap.size w w' := by
  have HR_ := Aside0.mk hR_
  clear hR_
  have HB := Aside0.mk (Below.refl w.heap.size w)
  have H : (if a0 < 1 then (foolscaplaw15_MathsDivides.j0 k a0 a1 a2 true) else (if a1 < 1 then (foolscaplaw15_MathsDivides.j0 k a0 a1 a2 true) else (if a2 < 1 then (foolscaplaw15_MathsDivides.j0 k a0 a1 a2 true) else (if a0 > 1000000 then (foolscaplaw15_MathsDivides.j0 k a0 a1 a2 true) else (if a1 > 1000000 then (foolscaplaw15_MathsDivides.j0 k a0 a1 a2 true) else (foolscaplaw15_MathsDivides.j0 k a0 a1 a2 (decide (a2 > 1000000)))))))) = some r := h
  clear h
  have HC4 := Aside0.mk H
  clear H
  go_enter Try.func7, Try.ntmps7
  go_upto_region 1 with (fail)
  go_cut [35] (fun v35 wc => ∃ (kq : Nat) (x35_3 : Bool), v35 = .bool x35_3 ∧ Aside0 (foolscaplaw15_MathsDivides.j0 kq a0 a1 a2 x35_3 = some r) ∧ Aside0 (kq ≤ k) ∧ Aside0 (Below w.heap.size w wc))
  case first =>
    have H := HC4.out
    clear HC4
    by_cases c5 : a0 < 1
    · rw [if_pos c5] at H
      have c5b0 : decide (a0 < 1) = true := decide_eq_true c5
      clear c5
      (first | rw [c5b0] | (simp only [i64_w, i32_w]; rw [c5b0]) | skip)
      have H' := Aside0.mk H
      clear H
      go_wp2
      go_meet
      case rel => exact ⟨_, (true), (by first | rfl | (simp; done) | (simp [*]; done)), H', ⟨by first | omega | exact Nat.le_refl _⟩, ⟨by repeat (first | (with_reducible first | exact HB.out | apply below_alloc | apply pw_below_drewN | apply below_drew1) | exact HB.out)⟩⟩
    · rw [if_neg c5] at H
      have c5b0 : decide (a0 < 1) = false := decide_eq_false c5
      clear c5
      (first | rw [c5b0] | (simp only [i64_w, i32_w]; rw [c5b0]) | skip)
      by_cases c6 : a1 < 1
      · rw [if_pos c6] at H
        have c6b0 : decide (a1 < 1) = true := decide_eq_true c6
        clear c6
        have H' := Aside0.mk H
        clear H
        go_wp2
        go_meet
        case rel => exact ⟨_, (true), (by first | rfl | (simp; done) | (simp [*]; done)), H', ⟨by first | omega | exact Nat.le_refl _⟩, ⟨by repeat (first | (with_reducible first | exact HB.out | apply below_alloc | apply pw_below_drewN | apply below_drew1) | exact HB.out)⟩⟩
      · rw [if_neg c6] at H
        have c6b0 : decide (a1 < 1) = false := decide_eq_false c6
        clear c6
        by_cases c7 : a2 < 1
        · rw [if_pos c7] at H
          have c7b0 : decide (a2 < 1) = true := decide_eq_true c7
          clear c7
          have H' := Aside0.mk H
          clear H
          go_wp2
          go_meet
          case rel => exact ⟨_, (true), (by first | rfl | (simp; done) | (simp [*]; done)), H', ⟨by first | omega | exact Nat.le_refl _⟩, ⟨by repeat (first | (with_reducible first | exact HB.out | apply below_alloc | apply pw_below_drewN | apply below_drew1) | exact HB.out)⟩⟩
        · rw [if_neg c7] at H
          have c7b0 : decide (a2 < 1) = false := decide_eq_false c7
          clear c7
          by_cases c8 : a0 > 1000000
          · rw [if_pos c8] at H
            have c8b0 : decide (1000000 < a0) = true := decide_eq_true c8
            clear c8
            have H' := Aside0.mk H
            clear H
            go_wp2
            go_meet
            case rel => exact ⟨_, (true), (by first | rfl | (simp; done) | (simp [*]; done)), H', ⟨by first | omega | exact Nat.le_refl _⟩, ⟨by repeat (first | (with_reducible first | exact HB.out | apply below_alloc | apply pw_below_drewN | apply below_drew1) | exact HB.out)⟩⟩
          · rw [if_neg c8] at H
            have c8b0 : decide (1000000 < a0) = false := decide_eq_false c8
            clear c8
            by_cases c9 : a1 > 1000000
            · rw [if_pos c9] at H
              have c9b0 : decide (1000000 < a1) = true := decide_eq_true c9
              clear c9
              have H' := Aside0.mk H
              clear H
              go_wp2
              go_meet
              case rel => exact ⟨_, (true), (by first | rfl | (simp; done) | (simp [*]; done)), H', ⟨by first | omega | exact Nat.le_refl _⟩, ⟨by repeat (first | (with_reducible first | exact HB.out | apply below_alloc | apply pw_below_drewN | apply below_drew1) | exact HB.out)⟩⟩
            · rw [if_neg c9] at H
              have c9b0 : decide (1000000 < a1) = false := decide_eq_false c9
              clear c9
              have H' := Aside0.mk H
              clear H
              go_wp2
              go_meet
              case rel => exact ⟨_, (decide (a2 > 1000000)), (by first | rfl | (simp; done) | (simp [*]; done)), H', ⟨by first | omega | exact Nat.le_refl _⟩, ⟨by repeat (first | (with_reducible first | exact HB.out | apply below_alloc | apply pw_below_drewN | apply below_drew1) | exact HB.out)⟩⟩
  case rest =>
    clear HC4
    try clear p2
    try clear c5
    try clear c5b0
    try clear c6
    try clear c6b0
    try clear c7
    try clear c7b0
    try clear c8
    try clear c8b0
    try clear c9
    try clear c9b0
    obtain ⟨kq, x35_3, rfl, HA, HJ3, HB⟩ := hcut
    cases kq with
    | zero => exact absurd HA.out (by simp [foolscaplaw15_MathsDivides.j0])
    | succ kj3 =>
      have H := HA.out
      clear HA
      simp only [foolscaplaw15_MathsDivides.j0] at H
      by_cases c10 : x35_3 = true
      · subst c10
        have H1 : ((foolscaplaw15_lives.f kj3).bind fun t202 => (some t202)) = some r := by rw [if_pos rfl] at H; exact H
        clear H
        have H := H1
        clear H1
        replace H := Option.bind_eq_some_iff.mp H
        obtain ⟨t202, A110, H⟩ := H
        replace H : (some t202) = some r := H
        have A11 := Aside0.mk A110
        clear A110
        obtain rfl := Option.some.inj H
        simp only [Option.some.injEq, Prod.mk.injEq] at H
        obtain ⟨rfl⟩ := H
        go_wp2_with (first | ((with_reducible refine gate_callee (f := 18) rfl ?_); refine goesL_ (some 36) rfl rfl Try.func18 (by kernel_rfl) rfl #[] rfl (by (try simp only [List.map_toArray, List.map_cons, List.map_nil]); first | done | rfl | (simp only [List.length_drop, List.length_take]; rfl)) ?_; (with_reducible refine (foolscaplaw15_lives.calls kj3  t202 _ A11.out).mono ?_); rintro e w12 ⟨rfl, hb⟩; refine ⟨_, rfl, ?_⟩; have n0_ := Aside0.mk (below_step (by repeat (first | (with_reducible first | exact HB.out | apply below_alloc | apply pw_below_drewN | apply below_drew1) | exact HB.out)) hb); clear HB; have HB := n0_; clear n0_; (try clear hb); (try clear hb2); (try clear hk); (try clear hi)))
        go_ret
        exact ⟨by first | rfl | (simp [errW_none, errW_some] <;> rfl) | (simp [*, errW_none, errW_some] <;> rfl), by repeat (first | (with_reducible first | exact HB.out | apply below_alloc | apply pw_below_drewN | apply below_drew1) | exact HB.out)⟩
      · replace c10 := Bool.eq_false_iff.mpr c10
        subst c10
        have H1 : ((maths_Gcd.f kj3 (([wrap64 (a0 * 1000000), wrap64 (a1 * 1000000), wrap64 (a2 * 1000000)] : List Int))).bind fun bt206 => ((maths_Lcm.f kj3 (([wrap64 (a0 * 1000000), wrap64 (a1 * 1000000)] : List Int))).bind fun bt211 => ((maths_Gcd.f kj3 (([wrap64 (a0 * 1000000), wrap64 (a1 * 1000000)] : List Int))).bind fun bt216 => (if bt206.2 = 0 then (if bt211.2 = 0 then (if bt216.2 = 0 then (if bt206.1 < 1000000 then (some false) else (if (Int.tmod bt206.1 1000000) = 0 then (if (wrap64 (Int.tdiv bt206.1 1000000)) = 0 then (none) else (if (Int.tmod a0 (wrap64 (Int.tdiv bt206.1 1000000))) = 0 then (if (Int.tmod a1 (wrap64 (Int.tdiv bt206.1 1000000))) = 0 then (if (Int.tmod a2 (wrap64 (Int.tdiv bt206.1 1000000))) = 0 then (if (wrap64 (a0 * 1000000)) = 0 then (none) else (if (Int.tmod bt211.1 (wrap64 (a0 * 1000000))) = 0 then (if (wrap64 (a1 * 1000000)) = 0 then (none) else (if (Int.tmod bt211.1 (wrap64 (a1 * 1000000))) = 0 then (if (wrap64 ((wrap64 (Int.tdiv bt211.1 1000000)) * (wrap64 (Int.tdiv bt216.1 1000000)))) = (wrap64 (a0 * a1)) then ((foolscaplaw15_lives.f kj3).bind fun t218 => (some t218)) else (some false)) else (some false))) else (some false))) else (some false)) else (some false)) else (some false))) else (some false))) else (some false)) else (some false)) else (some false))))) = some r := by rw [if_neg (show ¬ (false = true) by decide)] at H; exact H
        clear H
        have H := H1
        clear H1
        obtain ⟨y203, hy203⟩ : ∃ y_ : List Int, y_ = (([wrap64 (a0 * 1000000), wrap64 (a1 * 1000000), wrap64 (a2 * 1000000)] : List Int)) := ⟨_, rfl⟩
        replace H : ((maths_Gcd.f kj3 y203).bind fun bt206 => ((maths_Lcm.f kj3 (([wrap64 (a0 * 1000000), wrap64 (a1 * 1000000)] : List Int))).bind fun bt211 => ((maths_Gcd.f kj3 (([wrap64 (a0 * 1000000), wrap64 (a1 * 1000000)] : List Int))).bind fun bt216 => (if bt206.2 = 0 then (if bt211.2 = 0 then (if bt216.2 = 0 then (if bt206.1 < 1000000 then (some false) else (if (Int.tmod bt206.1 1000000) = 0 then (if (wrap64 (Int.tdiv bt206.1 1000000)) = 0 then (none) else (if (Int.tmod a0 (wrap64 (Int.tdiv bt206.1 1000000))) = 0 then (if (Int.tmod a1 (wrap64 (Int.tdiv bt206.1 1000000))) = 0 then (if (Int.tmod a2 (wrap64 (Int.tdiv bt206.1 1000000))) = 0 then (if (wrap64 (a0 * 1000000)) = 0 then (none) else (if (Int.tmod bt211.1 (wrap64 (a0 * 1000000))) = 0 then (if (wrap64 (a1 * 1000000)) = 0 then (none) else (if (Int.tmod bt211.1 (wrap64 (a1 * 1000000))) = 0 then (if (wrap64 ((wrap64 (Int.tdiv bt211.1 1000000)) * (wrap64 (Int.tdiv bt216.1 1000000)))) = (wrap64 (a0 * a1)) then ((foolscaplaw15_lives.f kj3).bind fun t218 => (some t218)) else (some false)) else (some false))) else (some false))) else (some false)) else (some false)) else (some false))) else (some false))) else (some false)) else (some false)) else (some false))))) = some r := by first | (rw [hy203]; with_reducible exact H) | (have H2_ := (Option.bind_some _ _).symm.trans H; rw [hy203]; with_reducible exact H2_) | (have H2_ := (Option.bind_some _ _).symm.trans H; with_reducible exact H2_) | with_reducible exact H | (rw [hy203]; exact H) | exact H
        have Ny203 := Aside0.mk hy203
        clear hy203
        replace H := Option.bind_eq_some_iff.mp H
        obtain ⟨⟨t206, t207⟩, A130, H⟩ := H
        replace H : ((maths_Lcm.f kj3 (([wrap64 (a0 * 1000000), wrap64 (a1 * 1000000)] : List Int))).bind fun bt211 => ((maths_Gcd.f kj3 (([wrap64 (a0 * 1000000), wrap64 (a1 * 1000000)] : List Int))).bind fun bt216 => (if t207 = 0 then (if bt211.2 = 0 then (if bt216.2 = 0 then (if t206 < 1000000 then (some false) else (if (Int.tmod t206 1000000) = 0 then (if (wrap64 (Int.tdiv t206 1000000)) = 0 then (none) else (if (Int.tmod a0 (wrap64 (Int.tdiv t206 1000000))) = 0 then (if (Int.tmod a1 (wrap64 (Int.tdiv t206 1000000))) = 0 then (if (Int.tmod a2 (wrap64 (Int.tdiv t206 1000000))) = 0 then (if (wrap64 (a0 * 1000000)) = 0 then (none) else (if (Int.tmod bt211.1 (wrap64 (a0 * 1000000))) = 0 then (if (wrap64 (a1 * 1000000)) = 0 then (none) else (if (Int.tmod bt211.1 (wrap64 (a1 * 1000000))) = 0 then (if (wrap64 ((wrap64 (Int.tdiv bt211.1 1000000)) * (wrap64 (Int.tdiv bt216.1 1000000)))) = (wrap64 (a0 * a1)) then ((foolscaplaw15_lives.f kj3).bind fun t218 => (some t218)) else (some false)) else (some false))) else (some false))) else (some false)) else (some false)) else (some false))) else (some false))) else (some false)) else (some false)) else (some false)))) = some r := H
        have A13 := Aside0.mk A130
        clear A130
        obtain ⟨y208, hy208⟩ : ∃ y_ : List Int, y_ = (([wrap64 (a0 * 1000000), wrap64 (a1 * 1000000)] : List Int)) := ⟨_, rfl⟩
        replace H : ((maths_Lcm.f kj3 y208).bind fun bt211 => ((maths_Gcd.f kj3 (([wrap64 (a0 * 1000000), wrap64 (a1 * 1000000)] : List Int))).bind fun bt216 => (if t207 = 0 then (if bt211.2 = 0 then (if bt216.2 = 0 then (if t206 < 1000000 then (some false) else (if (Int.tmod t206 1000000) = 0 then (if (wrap64 (Int.tdiv t206 1000000)) = 0 then (none) else (if (Int.tmod a0 (wrap64 (Int.tdiv t206 1000000))) = 0 then (if (Int.tmod a1 (wrap64 (Int.tdiv t206 1000000))) = 0 then (if (Int.tmod a2 (wrap64 (Int.tdiv t206 1000000))) = 0 then (if (wrap64 (a0 * 1000000)) = 0 then (none) else (if (Int.tmod bt211.1 (wrap64 (a0 * 1000000))) = 0 then (if (wrap64 (a1 * 1000000)) = 0 then (none) else (if (Int.tmod bt211.1 (wrap64 (a1 * 1000000))) = 0 then (if (wrap64 ((wrap64 (Int.tdiv bt211.1 1000000)) * (wrap64 (Int.tdiv bt216.1 1000000)))) = (wrap64 (a0 * a1)) then ((foolscaplaw15_lives.f kj3).bind fun t218 => (some t218)) else (some false)) else (some false))) else (some false))) else (some false)) else (some false)) else (some false))) else (some false))) else (some false)) else (some false)) else (some false)))) = some r := by first | (rw [hy208]; with_reducible exact H) | (have H2_ := (Option.bind_some _ _).symm.trans H; rw [hy208]; with_reducible exact H2_) | (have H2_ := (Option.bind_some _ _).symm.trans H; with_reducible exact H2_) | with_reducible exact H | (rw [hy208]; exact H) | exact H
        have Ny208 := Aside0.mk hy208
        clear hy208
        replace H := Option.bind_eq_some_iff.mp H
        obtain ⟨⟨t211, t212⟩, A140, H⟩ := H
        replace H : ((maths_Gcd.f kj3 (([wrap64 (a0 * 1000000), wrap64 (a1 * 1000000)] : List Int))).bind fun bt216 => (if t207 = 0 then (if t212 = 0 then (if bt216.2 = 0 then (if t206 < 1000000 then (some false) else (if (Int.tmod t206 1000000) = 0 then (if (wrap64 (Int.tdiv t206 1000000)) = 0 then (none) else (if (Int.tmod a0 (wrap64 (Int.tdiv t206 1000000))) = 0 then (if (Int.tmod a1 (wrap64 (Int.tdiv t206 1000000))) = 0 then (if (Int.tmod a2 (wrap64 (Int.tdiv t206 1000000))) = 0 then (if (wrap64 (a0 * 1000000)) = 0 then (none) else (if (Int.tmod t211 (wrap64 (a0 * 1000000))) = 0 then (if (wrap64 (a1 * 1000000)) = 0 then (none) else (if (Int.tmod t211 (wrap64 (a1 * 1000000))) = 0 then (if (wrap64 ((wrap64 (Int.tdiv t211 1000000)) * (wrap64 (Int.tdiv bt216.1 1000000)))) = (wrap64 (a0 * a1)) then ((foolscaplaw15_lives.f kj3).bind fun t218 => (some t218)) else (some false)) else (some false))) else (some false))) else (some false)) else (some false)) else (some false))) else (some false))) else (some false)) else (some false)) else (some false))) = some r := H
        have A14 := Aside0.mk A140
        clear A140
        obtain ⟨y213, hy213⟩ : ∃ y_ : List Int, y_ = (([wrap64 (a0 * 1000000), wrap64 (a1 * 1000000)] : List Int)) := ⟨_, rfl⟩
        replace H : ((maths_Gcd.f kj3 y213).bind fun bt216 => (if t207 = 0 then (if t212 = 0 then (if bt216.2 = 0 then (if t206 < 1000000 then (some false) else (if (Int.tmod t206 1000000) = 0 then (if (wrap64 (Int.tdiv t206 1000000)) = 0 then (none) else (if (Int.tmod a0 (wrap64 (Int.tdiv t206 1000000))) = 0 then (if (Int.tmod a1 (wrap64 (Int.tdiv t206 1000000))) = 0 then (if (Int.tmod a2 (wrap64 (Int.tdiv t206 1000000))) = 0 then (if (wrap64 (a0 * 1000000)) = 0 then (none) else (if (Int.tmod t211 (wrap64 (a0 * 1000000))) = 0 then (if (wrap64 (a1 * 1000000)) = 0 then (none) else (if (Int.tmod t211 (wrap64 (a1 * 1000000))) = 0 then (if (wrap64 ((wrap64 (Int.tdiv t211 1000000)) * (wrap64 (Int.tdiv bt216.1 1000000)))) = (wrap64 (a0 * a1)) then ((foolscaplaw15_lives.f kj3).bind fun t218 => (some t218)) else (some false)) else (some false))) else (some false))) else (some false)) else (some false)) else (some false))) else (some false))) else (some false)) else (some false)) else (some false))) = some r := by first | (rw [hy213]; with_reducible exact H) | (have H2_ := (Option.bind_some _ _).symm.trans H; rw [hy213]; with_reducible exact H2_) | (have H2_ := (Option.bind_some _ _).symm.trans H; with_reducible exact H2_) | with_reducible exact H | (rw [hy213]; exact H) | exact H
        have Ny213 := Aside0.mk hy213
        clear hy213
        replace H := Option.bind_eq_some_iff.mp H
        obtain ⟨⟨t216, t217⟩, A150, H⟩ := H
        replace H : (if t207 = 0 then (if t212 = 0 then (if t217 = 0 then (if t206 < 1000000 then (some false) else (if (Int.tmod t206 1000000) = 0 then (if (wrap64 (Int.tdiv t206 1000000)) = 0 then (none) else (if (Int.tmod a0 (wrap64 (Int.tdiv t206 1000000))) = 0 then (if (Int.tmod a1 (wrap64 (Int.tdiv t206 1000000))) = 0 then (if (Int.tmod a2 (wrap64 (Int.tdiv t206 1000000))) = 0 then (if (wrap64 (a0 * 1000000)) = 0 then (none) else (if (Int.tmod t211 (wrap64 (a0 * 1000000))) = 0 then (if (wrap64 (a1 * 1000000)) = 0 then (none) else (if (Int.tmod t211 (wrap64 (a1 * 1000000))) = 0 then (if (wrap64 ((wrap64 (Int.tdiv t211 1000000)) * (wrap64 (Int.tdiv t216 1000000)))) = (wrap64 (a0 * a1)) then ((foolscaplaw15_lives.f kj3).bind fun t218 => (some t218)) else (some false)) else (some false))) else (some false))) else (some false)) else (some false)) else (some false))) else (some false))) else (some false)) else (some false)) else (some false)) = some r := H
        have A15 := Aside0.mk A150
        clear A150
        by_cases c16 : t207 = 0
        · rw [if_pos c16] at H
          have c16b0 : (t207 == 0) = true := beq_iff_eq.mpr c16
          have c16b1 : (t207 != 0) = false := bne_eq_false_iff_eq.mpr c16
          clear c16
          by_cases c17 : t212 = 0
          · rw [if_pos c17] at H
            have c17b0 : (t212 == 0) = true := beq_iff_eq.mpr c17
            have c17b1 : (t212 != 0) = false := bne_eq_false_iff_eq.mpr c17
            clear c17
            by_cases c18 : t217 = 0
            · rw [if_pos c18] at H
              have c18b0 : (t217 == 0) = true := beq_iff_eq.mpr c18
              have c18b1 : (t217 != 0) = false := bne_eq_false_iff_eq.mpr c18
              clear c18
              by_cases c19 : t206 < 1000000
              · rw [if_pos c19] at H
                have c19b0 : decide (t206 < 1000000) = true := decide_eq_true c19
                clear c19
                obtain rfl := Option.some.inj H
                exact absurd HR_.out (by decide)
              · rw [if_neg c19] at H
                have c19b0 : decide (t206 < 1000000) = false := decide_eq_false c19
                clear c19
                by_cases c20 : (Int.tmod t206 1000000) = 0
                · rw [if_pos c20] at H
                  have c20b0 : ((Int.tmod t206 1000000) == 0) = true := beq_iff_eq.mpr c20
                  have c20b1 : ((Int.tmod t206 1000000) != 0) = false := bne_eq_false_iff_eq.mpr c20
                  clear c20
                  by_cases c21 : (wrap64 (Int.tdiv t206 1000000)) = 0
                  · rw [if_pos c21] at H
                    exact absurd H (by simp)
                  · rw [if_neg c21] at H
                    have c21b0 : ((wrap64 (Int.tdiv t206 1000000)) == 0) = false := beq_eq_false_iff_ne.mpr c21
                    have c21b1 : ((wrap64 (Int.tdiv t206 1000000)) != 0) = true := bne_iff_ne.mpr c21
                    by_cases c22 : (Int.tmod a0 (wrap64 (Int.tdiv t206 1000000))) = 0
                    · rw [if_pos c22] at H
                      have c22b0 : ((Int.tmod a0 (wrap64 (Int.tdiv t206 1000000))) == 0) = true := beq_iff_eq.mpr c22
                      have c22b1 : ((Int.tmod a0 (wrap64 (Int.tdiv t206 1000000))) != 0) = false := bne_eq_false_iff_eq.mpr c22
                      clear c22
                      by_cases c23 : (Int.tmod a1 (wrap64 (Int.tdiv t206 1000000))) = 0
                      · rw [if_pos c23] at H
                        have c23b0 : ((Int.tmod a1 (wrap64 (Int.tdiv t206 1000000))) == 0) = true := beq_iff_eq.mpr c23
                        have c23b1 : ((Int.tmod a1 (wrap64 (Int.tdiv t206 1000000))) != 0) = false := bne_eq_false_iff_eq.mpr c23
                        clear c23
                        by_cases c24 : (Int.tmod a2 (wrap64 (Int.tdiv t206 1000000))) = 0
                        · rw [if_pos c24] at H
                          have c24b0 : ((Int.tmod a2 (wrap64 (Int.tdiv t206 1000000))) == 0) = true := beq_iff_eq.mpr c24
                          have c24b1 : ((Int.tmod a2 (wrap64 (Int.tdiv t206 1000000))) != 0) = false := bne_eq_false_iff_eq.mpr c24
                          clear c24
                          by_cases c25 : (wrap64 (a0 * 1000000)) = 0
                          · rw [if_pos c25] at H
                            exact absurd H (by simp)
                          · rw [if_neg c25] at H
                            have c25b0 : ((wrap64 (a0 * 1000000)) == 0) = false := beq_eq_false_iff_ne.mpr c25
                            have c25b1 : ((wrap64 (a0 * 1000000)) != 0) = true := bne_iff_ne.mpr c25
                            by_cases c26 : (Int.tmod t211 (wrap64 (a0 * 1000000))) = 0
                            · rw [if_pos c26] at H
                              have c26b0 : ((Int.tmod t211 (wrap64 (a0 * 1000000))) == 0) = true := beq_iff_eq.mpr c26
                              have c26b1 : ((Int.tmod t211 (wrap64 (a0 * 1000000))) != 0) = false := bne_eq_false_iff_eq.mpr c26
                              clear c26
                              by_cases c27 : (wrap64 (a1 * 1000000)) = 0
                              · rw [if_pos c27] at H
                                exact absurd H (by simp)
                              · rw [if_neg c27] at H
                                have c27b0 : ((wrap64 (a1 * 1000000)) == 0) = false := beq_eq_false_iff_ne.mpr c27
                                have c27b1 : ((wrap64 (a1 * 1000000)) != 0) = true := bne_iff_ne.mpr c27
                                by_cases c28 : (Int.tmod t211 (wrap64 (a1 * 1000000))) = 0
                                · rw [if_pos c28] at H
                                  have c28b0 : ((Int.tmod t211 (wrap64 (a1 * 1000000))) == 0) = true := beq_iff_eq.mpr c28
                                  have c28b1 : ((Int.tmod t211 (wrap64 (a1 * 1000000))) != 0) = false := bne_eq_false_iff_eq.mpr c28
                                  clear c28
                                  by_cases c29 : (wrap64 ((wrap64 (Int.tdiv t211 1000000)) * (wrap64 (Int.tdiv t216 1000000)))) = (wrap64 (a0 * a1))
                                  · rw [if_pos c29] at H
                                    have c29b0 : ((wrap64 ((wrap64 (Int.tdiv t211 1000000)) * (wrap64 (Int.tdiv t216 1000000)))) == (wrap64 (a0 * a1))) = true := beq_iff_eq.mpr c29
                                    have c29b1 : ((wrap64 ((wrap64 (Int.tdiv t211 1000000)) * (wrap64 (Int.tdiv t216 1000000)))) != (wrap64 (a0 * a1))) = false := bne_eq_false_iff_eq.mpr c29
                                    clear c29
                                    replace H := Option.bind_eq_some_iff.mp H
                                    obtain ⟨t218, A300, H⟩ := H
                                    replace H : (some t218) = some r := H
                                    have A30 := Aside0.mk A300
                                    clear A300
                                    obtain rfl := Option.some.inj H
                                    simp only [Option.some.injEq, Prod.mk.injEq] at H
                                    obtain ⟨rfl⟩ := H
                                    go_wp2_with (first | ((with_reducible refine gate_dst (N := 44) rfl ?_); refine Kd.R_lit (Kd.int .i64) _ 3 ?hg (N := 44) ?hd (xs := ([wrap64 (a0 * 1000000), wrap64 (a1 * 1000000), wrap64 (a2 * 1000000)] : List Int)) (inner := [.int .i64 (wrap64 (a0 * 1000000)), .int .i64 (wrap64 (a1 * 1000000)), .int .i64 (wrap64 (a2 * 1000000))]) (ok := fun _ => True) (okp := fun _ => True) ?hr ?hp (fun _ hk => hk) trivial (Below.refl _ _) (Nat.le_refl _) (by simp) ?_; (case hd => rfl); (case hg => rfl); (case hr => first | (go_simp; done) | (go_simp; rfl)); (case hp => exact (Reps.one (show Kd.M (Kd.int .i64) _ _ _ (wrap64 (a0 * 1000000)) [.int .i64 (wrap64 (a0 * 1000000))] from rfl) (Reps.one (show Kd.M (Kd.int .i64) _ _ _ (wrap64 (a1 * 1000000)) [.int .i64 (wrap64 (a1 * 1000000))] from rfl) (Reps.one (show Kd.M (Kd.int .i64) _ _ _ (wrap64 (a2 * 1000000)) [.int .i64 (wrap64 (a2 * 1000000))] from rfl) (Reps.none _ _))))); intro v204 w31 ho32 hb hg_ hnew_; clear hg_ hnew_; (first | rw [← Ny203.out] at ho32 | (simp only [Int.reduceToNat] at ho32; rw [← Ny203.out] at ho32)); have n0_ := Aside0.mk (Kd.R_lower ho32 (below_size (by repeat (first | (with_reducible first | exact HB.out | apply below_alloc | apply pw_below_drewN | apply below_drew1) | exact HB.out)))); have n1_ := Aside0.mk (below_step (by repeat (first | (with_reducible first | exact HB.out | apply below_alloc | apply pw_below_drewN | apply below_drew1) | exact HB.out)) hb); clear HB; have HO205 := n0_; have HB := n1_; clear n0_ n1_; clear hb ho32; obtain ⟨Ao33, co33, eo33⟩ := Kd.R_slice HO205.out; subst eo33) | ((with_reducible refine gate_callee (f := 22) rfl ?_); refine goesL_ (some 45) rfl rfl Try.func22 (by kernel_rfl) rfl #[.slice Ao33 y203.length co33] rfl (by (try simp only [List.map_toArray, List.map_cons, List.map_nil]); first | done | rfl | (simp only [List.length_drop, List.length_take]; rfl)) ?_; (with_reducible refine (maths_Gcd.calls kj3 _ _ y203 t206 t207 _ ?side1 ?side2 A13.out).mono ?_); (case side1 => repeat (first | exact (Kd.R_reads' HO205.out).2.2 | (with_reducible refine Kd.C_alloc ?_ _) | (with_reducible refine Kd.C_drewN ?_ _) | (with_reducible refine Kd.C_drew ?_))); (case side2 => exact (Kd.R_reads' HO205.out).2.1); rintro e w' ⟨rfl, ⟨nd, rfl⟩⟩; refine ⟨_, rfl, ?_⟩) | ((with_reducible refine gate_dst (N := 53) rfl ?_); refine Kd.R_lit (Kd.int .i64) _ 3 ?hg (N := 53) ?hd (xs := ([wrap64 (a0 * 1000000), wrap64 (a1 * 1000000)] : List Int)) (inner := [.int .i64 (wrap64 (a0 * 1000000)), .int .i64 (wrap64 (a1 * 1000000))]) (ok := fun _ => True) (okp := fun _ => True) ?hr ?hp (fun _ hk => hk) trivial (Below.refl _ _) (Nat.le_refl _) (by simp) ?_; (case hd => rfl); (case hg => rfl); (case hr => first | (go_simp; done) | (go_simp; rfl)); (case hp => exact (Reps.one (show Kd.M (Kd.int .i64) _ _ _ (wrap64 (a0 * 1000000)) [.int .i64 (wrap64 (a0 * 1000000))] from rfl) (Reps.one (show Kd.M (Kd.int .i64) _ _ _ (wrap64 (a1 * 1000000)) [.int .i64 (wrap64 (a1 * 1000000))] from rfl) (Reps.none _ _)))); intro v209 w34 ho35 hb hg_ hnew_; clear hg_ hnew_; (first | rw [← Ny208.out] at ho35 | (simp only [Int.reduceToNat] at ho35; rw [← Ny208.out] at ho35)); have n0_ := Aside0.mk (Kd.R_elder' (by (with_reducible repeat (first | apply Kd.R_alloc | apply Kd.R_drewN | apply Kd.R_drew)); exact HO205.out) (Kd.R_base ho35) hb); have n1_ := Aside0.mk (Kd.R_lower (Kd.R_new' ho35 (Kd.R_lt (by (with_reducible repeat (first | apply Kd.R_alloc | apply Kd.R_drewN | apply Kd.R_drew)); exact HO205.out))) (below_size (by repeat (first | (with_reducible first | exact HB.out | apply below_alloc | apply pw_below_drewN | apply below_drew1) | exact HB.out)))); have n2_ := Aside0.mk (below_step (by repeat (first | (with_reducible first | exact HB.out | apply below_alloc | apply pw_below_drewN | apply below_drew1) | exact HB.out)) hb); clear HO205; clear HB; have HO205 := n0_; have HO210 := n1_; have HB := n2_; clear n0_ n1_ n2_; clear hb ho35; obtain ⟨Ao36, co36, eo36⟩ := Kd.R_slice HO210.out; subst eo36) | ((with_reducible refine gate_callee (f := 24) rfl ?_); refine goesL_ (some 54) rfl rfl Try.func24 (by kernel_rfl) rfl #[.slice Ao36 y208.length co36] rfl (by (try simp only [List.map_toArray, List.map_cons, List.map_nil]); first | done | rfl | (simp only [List.length_drop, List.length_take]; rfl)) ?_; (with_reducible refine (maths_Lcm.calls kj3 _ _ y208 t211 t212 _ ?side1 ?side2 A14.out).mono ?_); (case side1 => repeat (first | exact (Kd.R_reads' HO210.out).2.2 | (with_reducible refine Kd.C_alloc ?_ _) | (with_reducible refine Kd.C_drewN ?_ _) | (with_reducible refine Kd.C_drew ?_))); (case side2 => exact (Kd.R_reads' HO210.out).2.1); rintro e w37 ⟨rfl, hb⟩; refine ⟨_, rfl, ?_⟩; have n0_ := Aside0.mk (Kd.R_below (by (with_reducible repeat (first | apply Kd.R_alloc | apply Kd.R_drewN | apply Kd.R_drew)); exact HO205.out) hb); have n1_ := Aside0.mk (Kd.R_below (by (with_reducible repeat (first | apply Kd.R_alloc | apply Kd.R_drewN | apply Kd.R_drew)); exact HO210.out) hb); have n2_ := Aside0.mk (below_step (by repeat (first | (with_reducible first | exact HB.out | apply below_alloc | apply pw_below_drewN | apply below_drew1) | exact HB.out)) hb); clear HO205; clear HO210; clear HB; have HO205 := n0_; have HO210 := n1_; have HB := n2_; clear n0_ n1_ n2_; (try clear hb); (try clear hb2); (try clear hk); (try clear hi)) | ((with_reducible refine gate_dst (N := 62) rfl ?_); refine Kd.R_lit (Kd.int .i64) _ 3 ?hg (N := 62) ?hd (xs := ([wrap64 (a0 * 1000000), wrap64 (a1 * 1000000)] : List Int)) (inner := [.int .i64 (wrap64 (a0 * 1000000)), .int .i64 (wrap64 (a1 * 1000000))]) (ok := fun _ => True) (okp := fun _ => True) ?hr ?hp (fun _ hk => hk) trivial (Below.refl _ _) (Nat.le_refl _) (by simp) ?_; (case hd => rfl); (case hg => rfl); (case hr => first | (go_simp; done) | (go_simp; rfl)); (case hp => exact (Reps.one (show Kd.M (Kd.int .i64) _ _ _ (wrap64 (a0 * 1000000)) [.int .i64 (wrap64 (a0 * 1000000))] from rfl) (Reps.one (show Kd.M (Kd.int .i64) _ _ _ (wrap64 (a1 * 1000000)) [.int .i64 (wrap64 (a1 * 1000000))] from rfl) (Reps.none _ _)))); intro v214 w38 ho39 hb hg_ hnew_; clear hg_ hnew_; (first | rw [← Ny213.out] at ho39 | (simp only [Int.reduceToNat] at ho39; rw [← Ny213.out] at ho39)); have n0_ := Aside0.mk (Kd.R_elder' (by (with_reducible repeat (first | apply Kd.R_alloc | apply Kd.R_drewN | apply Kd.R_drew)); exact HO205.out) (Kd.R_base ho39) hb); have n1_ := Aside0.mk (Kd.R_elder' (by (with_reducible repeat (first | apply Kd.R_alloc | apply Kd.R_drewN | apply Kd.R_drew)); exact HO210.out) (Kd.R_base ho39) hb); have n2_ := Aside0.mk (Kd.R_lower (Kd.R_new' (Kd.R_new' ho39 (Kd.R_lt (by (with_reducible repeat (first | apply Kd.R_alloc | apply Kd.R_drewN | apply Kd.R_drew)); exact HO205.out))) (Kd.R_lt (by (with_reducible repeat (first | apply Kd.R_alloc | apply Kd.R_drewN | apply Kd.R_drew)); exact HO210.out))) (below_size (by repeat (first | (with_reducible first | exact HB.out | apply below_alloc | apply pw_below_drewN | apply below_drew1) | exact HB.out)))); have n3_ := Aside0.mk (below_step (by repeat (first | (with_reducible first | exact HB.out | apply below_alloc | apply pw_below_drewN | apply below_drew1) | exact HB.out)) hb); clear HO205; clear HO210; clear HB; have HO205 := n0_; have HO210 := n1_; have HO215 := n2_; have HB := n3_; clear n0_ n1_ n2_ n3_; clear hb ho39; obtain ⟨Ao40, co40, eo40⟩ := Kd.R_slice HO215.out; subst eo40) | ((with_reducible refine gate_callee (f := 22) rfl ?_); refine goesL_ (some 63) rfl rfl Try.func22 (by kernel_rfl) rfl #[.slice Ao40 y213.length co40] rfl (by (try simp only [List.map_toArray, List.map_cons, List.map_nil]); first | done | rfl | (simp only [List.length_drop, List.length_take]; rfl)) ?_; (with_reducible refine (maths_Gcd.calls kj3 _ _ y213 t216 t217 _ ?side1 ?side2 A15.out).mono ?_); (case side1 => repeat (first | exact (Kd.R_reads' HO215.out).2.2 | (with_reducible refine Kd.C_alloc ?_ _) | (with_reducible refine Kd.C_drewN ?_ _) | (with_reducible refine Kd.C_drew ?_))); (case side2 => exact (Kd.R_reads' HO215.out).2.1); rintro e w' ⟨rfl, ⟨nd, rfl⟩⟩; refine ⟨_, rfl, ?_⟩) | (go_at_call 18; (with_reducible refine (foolscaplaw15_lives.calls kj3  t218 _ A30.out).mono ?_); rintro e w41 ⟨rfl, hb⟩; have n0_ := Aside0.mk (Kd.R_below (by (with_reducible repeat (first | apply Kd.R_alloc | apply Kd.R_drewN | apply Kd.R_drew)); exact HO205.out) hb); have n1_ := Aside0.mk (Kd.R_below (by (with_reducible repeat (first | apply Kd.R_alloc | apply Kd.R_drewN | apply Kd.R_drew)); exact HO210.out) hb); have n2_ := Aside0.mk (Kd.R_below (by (with_reducible repeat (first | apply Kd.R_alloc | apply Kd.R_drewN | apply Kd.R_drew)); exact HO215.out) hb); have n3_ := Aside0.mk (below_step (by repeat (first | (with_reducible first | exact HB.out | apply below_alloc | apply pw_below_drewN | apply below_drew1) | exact HB.out)) hb); clear HO205; clear HO210; clear HO215; clear HB; have HO205 := n0_; have HO210 := n1_; have HO215 := n2_; have HB := n3_; clear n0_ n1_ n2_ n3_; (try clear hb); (try clear hb2); (try clear hk); (try clear hi)))
                                    go_ret
                                    exact ⟨by first | rfl | (simp [errW_none, errW_some] <;> rfl) | (simp [*, errW_none, errW_some] <;> rfl), by repeat (first | (with_reducible first | exact HB.out | apply below_alloc | apply pw_below_drewN | apply below_drew1) | exact HB.out)⟩
                                  · rw [if_neg c29] at H
                                    have c29b0 : ((wrap64 ((wrap64 (Int.tdiv t211 1000000)) * (wrap64 (Int.tdiv t216 1000000)))) == (wrap64 (a0 * a1))) = false := beq_eq_false_iff_ne.mpr c29
                                    have c29b1 : ((wrap64 ((wrap64 (Int.tdiv t211 1000000)) * (wrap64 (Int.tdiv t216 1000000)))) != (wrap64 (a0 * a1))) = true := bne_iff_ne.mpr c29
                                    obtain rfl := Option.some.inj H
                                    exact absurd HR_.out (by decide)
                                · rw [if_neg c28] at H
                                  have c28b0 : ((Int.tmod t211 (wrap64 (a1 * 1000000))) == 0) = false := beq_eq_false_iff_ne.mpr c28
                                  have c28b1 : ((Int.tmod t211 (wrap64 (a1 * 1000000))) != 0) = true := bne_iff_ne.mpr c28
                                  obtain rfl := Option.some.inj H
                                  exact absurd HR_.out (by decide)
                            · rw [if_neg c26] at H
                              have c26b0 : ((Int.tmod t211 (wrap64 (a0 * 1000000))) == 0) = false := beq_eq_false_iff_ne.mpr c26
                              have c26b1 : ((Int.tmod t211 (wrap64 (a0 * 1000000))) != 0) = true := bne_iff_ne.mpr c26
                              obtain rfl := Option.some.inj H
                              exact absurd HR_.out (by decide)
                        · rw [if_neg c24] at H
                          have c24b0 : ((Int.tmod a2 (wrap64 (Int.tdiv t206 1000000))) == 0) = false := beq_eq_false_iff_ne.mpr c24
                          have c24b1 : ((Int.tmod a2 (wrap64 (Int.tdiv t206 1000000))) != 0) = true := bne_iff_ne.mpr c24
                          obtain rfl := Option.some.inj H
                          exact absurd HR_.out (by decide)
                      · rw [if_neg c23] at H
                        have c23b0 : ((Int.tmod a1 (wrap64 (Int.tdiv t206 1000000))) == 0) = false := beq_eq_false_iff_ne.mpr c23
                        have c23b1 : ((Int.tmod a1 (wrap64 (Int.tdiv t206 1000000))) != 0) = true := bne_iff_ne.mpr c23
                        obtain rfl := Option.some.inj H
                        exact absurd HR_.out (by decide)
                    · rw [if_neg c22] at H
                      have c22b0 : ((Int.tmod a0 (wrap64 (Int.tdiv t206 1000000))) == 0) = false := beq_eq_false_iff_ne.mpr c22
                      have c22b1 : ((Int.tmod a0 (wrap64 (Int.tdiv t206 1000000))) != 0) = true := bne_iff_ne.mpr c22
                      obtain rfl := Option.some.inj H
                      exact absurd HR_.out (by decide)
                · rw [if_neg c20] at H
                  have c20b0 : ((Int.tmod t206 1000000) == 0) = false := beq_eq_false_iff_ne.mpr c20
                  have c20b1 : ((Int.tmod t206 1000000) != 0) = true := bne_iff_ne.mpr c20
                  obtain rfl := Option.some.inj H
                  exact absurd HR_.out (by decide)
            · rw [if_neg c18] at H
              have c18b0 : (t217 == 0) = false := beq_eq_false_iff_ne.mpr c18
              have c18b1 : (t217 != 0) = true := bne_iff_ne.mpr c18
              obtain rfl := Option.some.inj H
              exact absurd HR_.out (by decide)
          · rw [if_neg c17] at H
            have c17b0 : (t212 == 0) = false := beq_eq_false_iff_ne.mpr c17
            have c17b1 : (t212 != 0) = true := bne_iff_ne.mpr c17
            obtain rfl := Option.some.inj H
            exact absurd HR_.out (by decide)
        · rw [if_neg c16] at H
          have c16b0 : (t207 == 0) = false := beq_eq_false_iff_ne.mpr c16
          have c16b1 : (t207 != 0) = true := bne_iff_ne.mpr c16
          obtain rfl := Option.some.inj H
          exact absurd HR_.out (by decide)

/-- THE ONE PURE STATEMENT of foolscaplaw15_MathsDivides: yours. -/
def foolscaplaw15_MathsDivides.Pure : Prop := ∀ (a0 : Int) (a1 : Int) (a2 : Int), (Lit.int .i64 a0).wf = true → (Lit.int .i64 a1).wf = true → (Lit.int .i64 a2).wf = true → ∃ k, foolscaplaw15_MathsDivides.f k a0 a1 a2 = some true
theorem foolscaplaw15_MathsDivides.walk (P : foolscaplaw15_MathsDivides.Pure) (a0 : Int) (a1 : Int) (a2 : Int) (w : World) (w0 : (Lit.int .i64 a0).wf = true) (w1 : (Lit.int .i64 a1).wf = true) (w2 : (Lit.int .i64 a2).wf = true) :
    Calls Try.prog 7 #[.int .i64 a0, .int .i64 a1, .int .i64 a2] w fun e w' => e = .returned (.bool true) ∧ Below w.heap.size w w' := by
  obtain ⟨k, h⟩ := P a0 a1 a2 w0 w1 w2
  refine (foolscaplaw15_MathsDivides.calls k a0 a1 a2 true w h rfl).mono ?_
  rintro e w' ⟨rfl, hd⟩
  exact ⟨rfl, hd⟩

end Go.Proofs.Ytklkanaabmehkaa.PL
