-- Written by this session's own program xprint.py, over the translation. Not trusted: Lean checks it.
import Derived.Test.YtklkanaabmehkaaPQx0
import Derived.Test.YtklkanaabmehkaaPQx1
import Derived.Test.YtklkanaabmehkaaPQx2
import Derived.Test.YtklkanaabmehkaaPQx7
namespace Go.Proofs.Ytklkanaabmehkaa.PQ
open Go.RowKit Go.Proofs.YtklkanaabmehkaaW.PrintWords Go.Proofs.YtklkanaabmehkaaW.PrintLast Go.Proofs.YtklkanaabmehkaaW.PrintMore
attribute [local go_sem] max2_int min2_int max_two min_two max_three min_three max_four min_four   -- for this text's walks alone
set_option linter.unusedVariables false
set_option linter.unusedSimpArgs false

/-! ### maths_Lcm: function 24 (a text of this session's own) -/
def maths_Lcm_1.f (nb : Bool) (k : Nat) (a0 : Int) (a1 : Int) : Option Int :=
  if nb = true then some 0 else (maths_gcd.f k a0 a1).bind fun t => if t = 0 then none else if wrap64 (Int.tdiv a1 t) = 0 then none else
    if a0 > wrap64 (Int.tdiv 1000000000000 (wrap64 (Int.tdiv a1 t))) then some (-1) else some (wrap64 (a0 * (wrap64 (Int.tdiv a1 t))))
theorem maths_Lcm_1.mono (nb : Bool) : ∀ a0 a1 k, LeO (maths_Lcm_1.f nb k a0 a1) (maths_Lcm_1.f nb (k + 1) a0 a1) := by
  intro a0 a1 k
  unfold maths_Lcm_1.f
  exact LeO.ite (LeO.refl _) (LeO.bind (maths_gcd.mono _ _ _) (fun t => LeO.refl _))
set_option maxHeartbeats 1000000 in
theorem maths_Lcm_1.calls (k g : Nat) (nb : Bool) (a0 : Int) (a1 : Int) (r : Int) (w : World) (hg : w.cell? ⟨g, 0, none⟩ = some (.bool nb)) (h : maths_Lcm_1.f nb k a0 a1 = some r) :
    Calls Try.prog 61 #[.int .i64 a0, .int .i64 a1, .pointer (some ⟨g, 0, none⟩)] w fun e w' => e = .returned (.int .i64 r) ∧ Drawn0 w w' := by
  unfold maths_Lcm_1.f at h
  cases nb with
  | true =>
    rw [if_pos rfl] at h
    obtain rfl := Option.some.inj h
    clear h
    go_enter Try.func61, Try.ntmps61
    go_wp2
    go_ret
    exact ⟨rfl, ⟨⟨0, rfl⟩⟩⟩
  | false =>
    rw [if_neg (by decide)] at h
    obtain ⟨t, ht, h⟩ := Option.bind_eq_some_iff.mp h
    have HT := Aside0.mk ht
    clear ht
    by_cases c1 : t = 0
    · rw [if_pos c1] at h; exact absurd h (by simp)
    rw [if_neg c1] at h
    have c1b : (t == 0) = false := beq_eq_false_iff_ne.mpr c1
    by_cases c2 : wrap64 (Int.tdiv a1 t) = 0
    · rw [if_pos c2] at h; exact absurd h (by simp)
    rw [if_neg c2] at h
    have c2b : (wrap64 (Int.tdiv a1 t) == 0) = false := beq_eq_false_iff_ne.mpr c2
    by_cases c3 : a0 > wrap64 (Int.tdiv 1000000000000 (wrap64 (Int.tdiv a1 t)))
    · rw [if_pos c3] at h
      have c3b : decide (wrap64 (Int.tdiv 1000000000000 (wrap64 (Int.tdiv a1 t))) < a0) = true := decide_eq_true c3
      clear c3
      obtain rfl := Option.some.inj h
      go_enter Try.func61, Try.ntmps61
      go_wp2_with fail
      refine (maths_gcd.calls k a0 a1 t _ HT.out).mono ?_; rintro e w' ⟨rfl, ⟨nd, rfl⟩⟩
      go_wp2
      go_ret
      exact ⟨rfl, ⟨⟨_, rfl⟩⟩⟩
    · rw [if_neg c3] at h
      have c3b : decide (wrap64 (Int.tdiv 1000000000000 (wrap64 (Int.tdiv a1 t))) < a0) = false := decide_eq_false c3
      clear c3
      obtain rfl := Option.some.inj h
      go_enter Try.func61, Try.ntmps61
      go_wp2_with fail
      refine (maths_gcd.calls k a0 a1 t _ HT.out).mono ?_; rintro e w' ⟨rfl, ⟨nd, rfl⟩⟩
      go_wp2
      go_ret
      exact ⟨rfl, ⟨⟨_, rfl⟩⟩⟩
mutual
def maths_foldedLcm.l0 (nb : Bool) : Nat → List Int → Int → List Int → Int → Int → Option (Int × Int)
  | 0, _, _, _, _, _ => none
  | k + 1, x0, x1, x13, x14, x15 => if x15 < x14 then (if 0 ≤ x15 then (if x15 < (x13.length : Int) then (if (rd x13 x15) < 0 then (some (0, 5)) else ((num_Fits.f (rd x13 x15)).bind fun t190 => (if t190 = true then (maths_foldedLcm.l0 nb k x0 x1 x13 x14 (wrap64 (x15 + 1))) else (some (0, 5))))) else (none)) else (none)) else (maths_foldedLcm.l1 nb k x1 x0 (x0.length : Int) 0)
def maths_foldedLcm.l1 (nb : Bool) : Nat → Int → List Int → Int → Int → Option (Int × Int)
  | 0, _, _, _, _ => none
  | k + 1, x10, x28, x29, x30 => if x30 < x29 then (if 0 ≤ x30 then (if x30 < (x28.length : Int) then ((maths_Lcm_1.f nb k x10 (wrap64 (Int.tdiv (rd x28 x30) 1000000))).bind fun t192 => (if t192 < 0 then (some (0, 5)) else (maths_foldedLcm.l1 nb k t192 x28 x29 (wrap64 (x30 + 1))))) else (none)) else (none)) else (some (wrap64 (x10 * 1000000), 0))
end
def maths_foldedLcm.f (nb : Bool) (k : Nat) (l0 : List Int) (a1 : Int)  : Option (Int × Int) := maths_foldedLcm.l0 nb k l0 a1 l0 (l0.length : Int) 0
theorem maths_foldedLcm.mono_l (nb : Bool) : ∀ k, (∀ y0 y1 y2 y3 y4, LeO (maths_foldedLcm.l0 nb k y0 y1 y2 y3 y4) (maths_foldedLcm.l0 nb (k + 1) y0 y1 y2 y3 y4)) ∧ (∀ y0 y1 y2 y3, LeO (maths_foldedLcm.l1 nb k y0 y1 y2 y3) (maths_foldedLcm.l1 nb (k + 1) y0 y1 y2 y3))
  | 0 => ⟨fun _ _ _ _ _ r h => by simp [maths_foldedLcm.l0] at h, fun _ _ _ _ r h => by simp [maths_foldedLcm.l1] at h⟩
  | k + 1 => by
    obtain ⟨ih0, ih1⟩ := maths_foldedLcm.mono_l nb k
    refine ⟨?_, ?_⟩
    · intro y0 y1 y2 y3 y4
      unfold maths_foldedLcm.l0
      repeat' first
      | (with_reducible exact ih0 _ _ _ _ _)
      | (with_reducible exact ih1 _ _ _ _)
      | (with_reducible exact maths_Lcm_1.mono _ _ _ _)
      | (with_reducible exact LeO.refl _)
      | (with_reducible exact LeO.none _)
      | (with_reducible refine LeO.ite ?_ ?_)
      | (with_reducible refine LeO.bind ?_ (fun _ => ?_))
      | exact ih0 _ _ _ _ _
      | exact ih1 _ _ _ _
      | exact maths_Lcm_1.mono _ _ _ _
      | exact LeO.none _
      | refine LeO.ite ?_ ?_
      | refine LeO.bind ?_ (fun _ => ?_)
    · intro y0 y1 y2 y3
      unfold maths_foldedLcm.l1
      repeat' first
      | (with_reducible exact ih0 _ _ _ _ _)
      | (with_reducible exact ih1 _ _ _ _)
      | (with_reducible exact maths_Lcm_1.mono _ _ _ _)
      | (with_reducible exact LeO.refl _)
      | (with_reducible exact LeO.none _)
      | (with_reducible refine LeO.ite ?_ ?_)
      | (with_reducible refine LeO.bind ?_ (fun _ => ?_))
      | exact ih0 _ _ _ _ _
      | exact ih1 _ _ _ _
      | exact maths_Lcm_1.mono _ _ _ _
      | exact LeO.none _
      | refine LeO.ite ?_ ?_
      | refine LeO.bind ?_ (fun _ => ?_)
theorem maths_foldedLcm.mono (nb : Bool) : ∀ a0 a1 k, LeO (maths_foldedLcm.f nb k a0 a1) (maths_foldedLcm.f nb (k + 1) a0 a1) := by
  intro a0 a1 k
  obtain ⟨ih0, ih1⟩ := maths_foldedLcm.mono_l nb k
  unfold maths_foldedLcm.f
  repeat' first
      | (with_reducible exact ih0 _ _ _ _ _)
      | (with_reducible exact ih1 _ _ _ _)
      | (with_reducible exact maths_Lcm_1.mono _ _ _ _)
      | (with_reducible exact LeO.refl _)
      | (with_reducible exact LeO.none _)
      | (with_reducible refine LeO.ite ?_ ?_)
      | (with_reducible refine LeO.bind ?_ (fun _ => ?_))
      | exact ih0 _ _ _ _ _
      | exact ih1 _ _ _ _
      | exact maths_Lcm_1.mono _ _ _ _
      | exact LeO.none _
      | refine LeO.ite ?_ ?_
      | refine LeO.bind ?_ (fun _ => ?_)
set_option maxHeartbeats 8000000 in
set_option maxRecDepth 100000 in
theorem maths_foldedLcm.calls (k : Nat) (A0 : Option Addr) (c0 : Nat) (l0 : List Int) (a1 : Int)  (r1 : Int) (r2 : Int) (w : World) (g : Nat) (nb : Bool) (hg : w.cell? ⟨g, 0, none⟩ = some (.bool nb)) (hr0 : Kd.C (Kd.int .i64) w A0 l0.length l0) (hc0 : l0.length ≤ c0) (h : maths_foldedLcm.f nb k l0 a1 = some (r1, r2)) :
    Calls Try.prog 57 #[.slice A0 l0.length c0, .int .i64 a1, .func (.func 61) #[] #[.pointer (some ⟨g, 0, none⟩)]] w fun e w' => e = .returned (.tuple #[.int .i64 r1, .int .i64 r2]) ∧ Drawn0 w w' := by
  have HG := Aside0.mk hg
  clear hg
  have HR0 := Aside0.mk hr0
  have HC0 := Aside0.mk hc0
  clear hr0 hc0
  have H : (maths_foldedLcm.l0 nb k l0 a1 l0 (l0.length : Int) 0) = some (r1, r2) := h
  clear h
  have H' := Aside0.mk H
  clear H
  go_enter Try.func57, Try.ntmps57
  go_wp2
  go_loopg [15] k (fun kq v15 w' => ∃ (x15_1 : Int), v15 = .int .i64 x15_1 ∧ Aside0 (maths_foldedLcm.l0 nb kq l0 a1 l0 (l0.length : Int) x15_1 = some (r1, r2)) ∧ Aside0 (kq ≤ k) ∧ Drawn0 w w')
  case atStart => exact ⟨(0), (by first | rfl | (simp; done) | (simp [*]; done)), H', ⟨Nat.le_refl _⟩, by repeat (first | exact Drawn0.refl _ | apply Drawn0.step)⟩
  case round =>
    clear H'
    try clear p2
    obtain ⟨x15_1, rfl, HA, HK1, ⟨m1, rfl⟩⟩ := hrel
    cases gk with
    | zero => exact absurd HA.out (by simp [maths_foldedLcm.l0])
    | succ k1 =>
      have H := HA.out
      clear HA
      simp only [maths_foldedLcm.l0] at H
      by_cases c4 : x15_1 < (l0.length : Int)
      · rw [if_pos c4] at H
        have c4b0 : decide (x15_1 < (l0.length : Int)) = true := decide_eq_true c4
        clear c4
        by_cases c5 : 0 ≤ x15_1
        · rw [if_pos c5] at H
          have c5b0 : decide (0 ≤ x15_1) = true := decide_eq_true c5
          clear c5
          by_cases c6 : x15_1 < (l0.length : Int)
          · rw [if_pos c6] at H
            have c6b0 : decide (x15_1 < (l0.length : Int)) = true := decide_eq_true c6
            clear c6
            by_cases c7 : (rd l0 x15_1) < 0
            · rw [if_pos c7] at H
              have c7b0 : decide ((rd l0 x15_1) < 0) = true := decide_eq_true c7
              clear c7
              simp only [Option.some.injEq, Prod.mk.injEq] at H
              obtain ⟨rfl, rfl⟩ := H
              have p189 : 0 ≤ (x15_1 : Int) := of_decide_eq_true (by first | (with_reducible assumption) | assumption)
              have q189 : x15_1 < (l0.length : Int) := of_decide_eq_true (by first | (with_reducible assumption) | assumption)
              obtain ⟨ad189, e189, hx189_0⟩ := Kd.at_int HR0.out x15_1 p189 q189
              cases e189
              replace p189 := eq_true p189
              replace q189 := eq_true q189
              go_wp2
              go_ret2
              exact ⟨by first | rfl | (simp; done) | (simp [*]; done), by repeat (first | exact Drawn0.refl _ | apply Drawn0.step)⟩
            · rw [if_neg c7] at H
              have c7b0 : decide ((rd l0 x15_1) < 0) = false := decide_eq_false c7
              clear c7
              replace H := Option.bind_eq_some_iff.mp H
              obtain ⟨t190, A80, H⟩ := H
              replace H : (if t190 = true then (maths_foldedLcm.l0 nb k1 l0 a1 l0 (l0.length : Int) (wrap64 (x15_1 + 1))) else (some (0, 5))) = some (r1, r2) := H
              have A8 := Aside0.mk A80
              clear A80
              by_cases c9 : t190 = true
              · subst c9
                have H1 : (maths_foldedLcm.l0 nb k1 l0 a1 l0 (l0.length : Int) (wrap64 (x15_1 + 1))) = some (r1, r2) := by rw [if_pos rfl] at H; exact H
                clear H
                have H := H1
                clear H1
                have H' := Aside0.mk H
                clear H
                have p189 : 0 ≤ (x15_1 : Int) := of_decide_eq_true (by first | (with_reducible assumption) | assumption)
                have q189 : x15_1 < (l0.length : Int) := of_decide_eq_true (by first | (with_reducible assumption) | assumption)
                obtain ⟨ad189, e189, hx189_0⟩ := Kd.at_int HR0.out x15_1 p189 q189
                cases e189
                replace p189 := eq_true p189
                replace q189 := eq_true q189
                go_wp2_with (first | (go_at_call 19; (with_reducible refine (num_Fits.calls (rd l0 x15_1) true _ A8.out).mono ?_); rintro e w' ⟨rfl, ⟨nd, rfl⟩⟩))
                go_roundg k1
                case measure => have := HK1.out; omega
                case rel => exact ⟨(wrap64 (x15_1 + 1)), (by first | rfl | (simp; done) | (simp [*]; done)), H', ⟨by have := HK1.out; omega⟩, by repeat (first | exact Drawn0.refl _ | apply Drawn0.step)⟩
              · replace c9 := Bool.eq_false_iff.mpr c9
                subst c9
                have H1 : (some (0, 5)) = some (r1, r2) := by rw [if_neg (show ¬ (false = true) by decide)] at H; exact H
                clear H
                have H := H1
                clear H1
                simp only [Option.some.injEq, Prod.mk.injEq] at H
                obtain ⟨rfl, rfl⟩ := H
                have p189 : 0 ≤ (x15_1 : Int) := of_decide_eq_true (by first | (with_reducible assumption) | assumption)
                have q189 : x15_1 < (l0.length : Int) := of_decide_eq_true (by first | (with_reducible assumption) | assumption)
                obtain ⟨ad189, e189, hx189_0⟩ := Kd.at_int HR0.out x15_1 p189 q189
                cases e189
                replace p189 := eq_true p189
                replace q189 := eq_true q189
                go_wp2_with (first | (go_at_call 19; (with_reducible refine (num_Fits.calls (rd l0 x15_1) false _ A8.out).mono ?_); rintro e w' ⟨rfl, ⟨nd, rfl⟩⟩))
                go_ret2
                exact ⟨by first | rfl | (simp; done) | (simp [*]; done), by repeat (first | exact Drawn0.refl _ | apply Drawn0.step)⟩
          · rw [if_neg c6] at H
            exact absurd H (by simp)
        · rw [if_neg c5] at H
          exact absurd H (by simp)
      · rw [if_neg c4] at H
        have c4b0 : decide (x15_1 < (l0.length : Int)) = false := decide_eq_false c4
        clear c4
        have H' := Aside0.mk H
        clear H
        go_wp2
        go_loopg [10, 30] k1 (fun kq v10 v30 w' => ∃ (x10_2 : Int) (x30_2 : Int), v10 = .int .i64 x10_2 ∧ v30 = .int .i64 x30_2 ∧ Aside0 (maths_foldedLcm.l1 nb kq x10_2 l0 (l0.length : Int) x30_2 = some (r1, r2)) ∧ Aside0 (kq ≤ k1) ∧ Drawn0 w w')
        case atStart => exact ⟨(a1), (0), (by first | rfl | (simp; done) | (simp [*]; done)), (by first | rfl | (simp; done) | (simp [*]; done)), H', ⟨Nat.le_refl _⟩, by repeat (first | exact Drawn0.refl _ | apply Drawn0.step)⟩
        case round =>
          clear H'
          try clear p1
          try clear q1
          try clear hx1
          try clear p2
          try clear c4
          try clear c4b0
          try clear c5
          try clear c5b0
          try clear c6
          try clear c6b0
          try clear p6
          try clear c7
          try clear c7b0
          try clear c9
          try clear hx189_0
          try clear p189
          try clear p2
          try clear q189
          obtain ⟨x10_2, x30_2, rfl, rfl, HA, HK2, ⟨m2, rfl⟩⟩ := hrel
          cases gk with
          | zero => exact absurd HA.out (by simp [maths_foldedLcm.l1])
          | succ k2 =>
            have H := HA.out
            clear HA
            simp only [maths_foldedLcm.l1] at H
            by_cases c10 : x30_2 < (l0.length : Int)
            · rw [if_pos c10] at H
              have c10b0 : decide (x30_2 < (l0.length : Int)) = true := decide_eq_true c10
              clear c10
              by_cases c11 : 0 ≤ x30_2
              · rw [if_pos c11] at H
                have c11b0 : decide (0 ≤ x30_2) = true := decide_eq_true c11
                clear c11
                by_cases c12 : x30_2 < (l0.length : Int)
                · rw [if_pos c12] at H
                  have c12b0 : decide (x30_2 < (l0.length : Int)) = true := decide_eq_true c12
                  clear c12
                  replace H := Option.bind_eq_some_iff.mp H
                  obtain ⟨t192, A130, H⟩ := H
                  replace H : (if t192 < 0 then (some (0, 5)) else (maths_foldedLcm.l1 nb k2 t192 l0 (l0.length : Int) (wrap64 (x30_2 + 1)))) = some (r1, r2) := H
                  have A13 := Aside0.mk A130
                  clear A130
                  by_cases c14 : t192 < 0
                  · rw [if_pos c14] at H
                    have c14b0 : decide (t192 < 0) = true := decide_eq_true c14
                    clear c14
                    simp only [Option.some.injEq, Prod.mk.injEq] at H
                    obtain ⟨rfl, rfl⟩ := H
                    have p191 : 0 ≤ (x30_2 : Int) := of_decide_eq_true (by first | (with_reducible assumption) | assumption)
                    have q191 : x30_2 < (l0.length : Int) := of_decide_eq_true (by first | (with_reducible assumption) | assumption)
                    obtain ⟨ad191, e191, hx191_0⟩ := Kd.at_int HR0.out x30_2 p191 q191
                    cases e191
                    replace p191 := eq_true p191
                    replace q191 := eq_true q191
                    go_wp2_with (first | (go_at_call 61; (with_reducible refine (maths_Lcm_1.calls k2 g nb x10_2 (wrap64 (Int.tdiv (rd l0 x30_2) 1000000)) t192 _ ?sideg A13.out).mono ?_); (case sideg => exact HG.out); rintro e w' ⟨rfl, ⟨nd, rfl⟩⟩))
                    go_ret2
                    exact ⟨by first | rfl | (simp; done) | (simp [*]; done), by repeat (first | exact Drawn0.refl _ | apply Drawn0.step)⟩
                  · rw [if_neg c14] at H
                    have c14b0 : decide (t192 < 0) = false := decide_eq_false c14
                    clear c14
                    have H' := Aside0.mk H
                    clear H
                    have p191 : 0 ≤ (x30_2 : Int) := of_decide_eq_true (by first | (with_reducible assumption) | assumption)
                    have q191 : x30_2 < (l0.length : Int) := of_decide_eq_true (by first | (with_reducible assumption) | assumption)
                    obtain ⟨ad191, e191, hx191_0⟩ := Kd.at_int HR0.out x30_2 p191 q191
                    cases e191
                    replace p191 := eq_true p191
                    replace q191 := eq_true q191
                    go_wp2_with (first | (go_at_call 61; (with_reducible refine (maths_Lcm_1.calls k2 g nb x10_2 (wrap64 (Int.tdiv (rd l0 x30_2) 1000000)) t192 _ ?sideg A13.out).mono ?_); (case sideg => exact HG.out); rintro e w' ⟨rfl, ⟨nd, rfl⟩⟩))
                    go_roundg k2
                    case measure => have := HK1.out; have := HK2.out; omega
                    case rel => exact ⟨(t192), (wrap64 (x30_2 + 1)), (by first | rfl | (simp; done) | (simp [*]; done)), (by first | rfl | (simp; done) | (simp [*]; done)), H', ⟨by have := HK1.out; have := HK2.out; omega⟩, by repeat (first | exact Drawn0.refl _ | apply Drawn0.step)⟩
                · rw [if_neg c12] at H
                  exact absurd H (by simp)
              · rw [if_neg c11] at H
                exact absurd H (by simp)
            · rw [if_neg c10] at H
              have c10b0 : decide (x30_2 < (l0.length : Int)) = false := decide_eq_false c10
              clear c10
              simp only [Option.some.injEq, Prod.mk.injEq] at H
              obtain ⟨rfl, rfl⟩ := H
              go_wp2
              go_ret2
              exact ⟨by first | rfl | (simp; done) | (simp [*]; done), by repeat (first | exact Drawn0.refl _ | apply Drawn0.step)⟩
def maths_Lcm.l0 : Nat → List Int → Int → Bool → Option (Int × Int)
  | 0, _, _, _ => none
  | k + 1, l, i, b => if i < (l.length : Int) then (if 0 ≤ i then maths_Lcm.l0 k l (wrap64 (i + 1)) (b || (decide (rd l i ≥ 0) && decide (rd l i < 1000000))) else none) else (maths_foldedLcm.f b k l 1).bind fun q => some (q.1, q.2)
def maths_Lcm.f (k : Nat) (l0 : List Int) : Option (Int × Int) := maths_Lcm.l0 k l0 0 false
theorem maths_Lcm.mono_l : ∀ k l i b, LeO (maths_Lcm.l0 k l i b) (maths_Lcm.l0 (k + 1) l i b) := by
  intro k
  induction k with
  | zero => intro l i b r h; simp [maths_Lcm.l0] at h
  | succ k ih =>
    intro l i b
    unfold maths_Lcm.l0
    exact LeO.ite (LeO.ite (ih _ _ _) (LeO.refl _)) (LeO.bind (maths_foldedLcm.mono _ _ _ _) (fun _ => LeO.refl _))
theorem maths_Lcm.mono : ∀ a0 k, LeO (maths_Lcm.f k a0) (maths_Lcm.f (k + 1) a0) := fun a0 k => maths_Lcm.mono_l k a0 0 false
set_option maxHeartbeats 4000000 in
set_option maxRecDepth 100000 in
theorem maths_Lcm.calls (k : Nat) (A0 : Option Addr) (c0 : Nat) (l0 : List Int) (r1 : Int) (r2 : Int) (w : World) (hr0 : Kd.C (Kd.int .i64) w A0 l0.length l0) (hc0 : l0.length ≤ c0) (h : maths_Lcm.f k l0 = some (r1, r2)) :
    Calls Try.prog 24 #[.slice A0 l0.length c0] w fun e w' => e = .returned (.tuple #[.int .i64 r1, .int .i64 r2]) ∧ Below w.heap.size w w' := by
  have HR0 := Aside0.mk hr0
  have HC0 := Aside0.mk hc0
  clear hr0 hc0
  have H' := Aside0.mk (show maths_Lcm.l0 k l0 0 false = some (r1, r2) from h)
  clear h
  have hmf : ∀ (fn : Fn) (first cap : Array Value) (w : World), (Instr.makeFunc fn first cap).run Try.prog w = .ok (.func fn first cap) w := fun _ _ _ _ => rfl
  go_enter Try.func24, Try.ntmps24
  go_wp2
  go_loopg [9] k (fun kq v9 w' => ∃ (i : Int) (b : Bool), v9 = .int .i64 i ∧ Aside0 (maths_Lcm.l0 kq l0 i b = some (r1, r2)) ∧ Aside0 (kq ≤ k) ∧ Aside0 (w'.heap[w.heap.size]? = some (.cells #[.bool b] 4 (0, 0))) ∧ Aside0 (Below w.heap.size w w'))
  case atStart => exact ⟨0, false, rfl, H', ⟨Nat.le_refl _⟩, ⟨by show (w.heap.push _)[w.heap.size]? = _; exact Array.getElem?_push_size⟩, ⟨(Below.refl _ _).alloc (Nat.le_refl _) _⟩⟩
  case round =>
    clear H'
    obtain ⟨i, b, rfl, HA, HK1, HCELL, HB⟩ := hrel
    have HR1 := Aside0.mk (Kd.C_below HR0.out HB.out)
    have hcell : wr.cell? ⟨w.heap.size, 0, none⟩ = some (.bool b) := blk_cell HCELL.out 0
    have hfro := blk_frozen HCELL.out 0
    cases gk with
    | zero => exact absurd HA.out (by simp [maths_Lcm.l0])
    | succ k1 =>
      have H := HA.out
      clear HA
      simp only [maths_Lcm.l0] at H
      by_cases c4 : i < (l0.length : Int)
      · rw [if_pos c4] at H
        have c4b0 : decide (i < (l0.length : Int)) = true := decide_eq_true c4
        by_cases c5 : 0 ≤ i
        · rw [if_pos c5] at H
          have HN := Aside0.mk H
          clear H
          obtain ⟨ad, ead, hx⟩ := Kd.at_int HR1.out i c5 c4
          cases ead
          generalize hv : rd l0 i = v at *
          clear hv
          cases b with
          | true =>
            go_wp2
            go_roundg k1
            case measure => have := HK1.out; omega
            case rel => exact ⟨wrap64 (i + 1), true, rfl, ⟨by simpa using HN.out⟩, ⟨by have := HK1.out; omega⟩, ⟨(Joins.block_setCell HCELL.out _).trans rfl⟩, ⟨HB.out.setCell (Nat.le_refl _) _⟩⟩
          | false =>
            by_cases c6 : v ≥ 0
            · have c6b : decide (0 ≤ v) = true := decide_eq_true c6
              have HN2 := HN.out
              rw [Bool.false_or, decide_eq_true c6, Bool.true_and] at HN2
              have HN3 := Aside0.mk HN2
              clear HN HN2 c6
              go_wp2
              all_goals
                go_roundg k1
                case measure => have := HK1.out; omega
                case rel => exact ⟨wrap64 (i + 1), decide (v < 1000000), rfl, HN3, ⟨by have := HK1.out; omega⟩, ⟨(Joins.block_setCell HCELL.out _).trans rfl⟩, ⟨HB.out.setCell (Nat.le_refl _) _⟩⟩
            · have c6b : decide (0 ≤ v) = false := decide_eq_false c6
              have HN2 := HN.out
              rw [Bool.false_or, decide_eq_false c6, Bool.false_and] at HN2
              have HN3 := Aside0.mk HN2
              clear HN HN2 c6
              go_wp2
              all_goals
                go_roundg k1
                case measure => have := HK1.out; omega
                case rel => exact ⟨wrap64 (i + 1), false, rfl, HN3, ⟨by have := HK1.out; omega⟩, ⟨(Joins.block_setCell HCELL.out _).trans rfl⟩, ⟨HB.out.setCell (Nat.le_refl _) _⟩⟩
        · rw [if_neg c5] at H
          exact absurd H (by simp)
      · rw [if_neg c4] at H
        have c4b0 : decide (i < (l0.length : Int)) = false := decide_eq_false c4
        clear c4
        obtain ⟨⟨q1, q2⟩, hq, H⟩ := Option.bind_eq_some_iff.mp H
        have HQ := Aside0.mk hq
        clear hq
        simp only [Option.some.injEq, Prod.mk.injEq] at H
        obtain ⟨rfl, rfl⟩ := H
        have HCE := Aside0.mk hcell
        clear hcell hfro
        go_wp2_with fail
        refine (maths_foldedLcm.calls k1 A0 c0 l0 1 q1 q2 _ w.heap.size b HCE.out HR1.out HC0.out HQ.out).mono ?_; rintro e w' ⟨rfl, ⟨nd, rfl⟩⟩
        go_wp2
        go_ret2
        exact ⟨rfl, pw_below_drewN HB.out _⟩

/-! ### maths_steps: function 63 -/
mutual
def maths_steps.j0 : Nat → Int → Bool → Option (Int)
  | 0, _, _ => none
  | k + 1, x0, x9 => if x9 = true then (some 0) else (maths_steps.l0 k 1 (wrap64 (6 - x0)) 0)
def maths_steps.l0 : Nat → Int → Int → Int → Option (Int)
  | 0, _, _, _ => none
  | k + 1, x3, x11, x12 => if x12 < x11 then (maths_steps.l0 k (wrap64 (x3 * 10)) x11 (wrap64 (x12 + 1))) else (some x3)
end
def maths_steps.f (k : Nat) (a0 : Int) : Option (Int) := if a0 < (-12) then (maths_steps.j0 k a0 true) else (maths_steps.j0 k a0 (decide (a0 > 6)))
theorem maths_steps.mono_l : ∀ k, (∀ y0 y1, LeO (maths_steps.j0 k y0 y1) (maths_steps.j0 (k + 1) y0 y1)) ∧ (∀ y0 y1 y2, LeO (maths_steps.l0 k y0 y1 y2) (maths_steps.l0 (k + 1) y0 y1 y2))
  | 0 => ⟨fun _ _ r h => by simp [maths_steps.j0] at h, fun _ _ _ r h => by simp [maths_steps.l0] at h⟩
  | k + 1 => by
    obtain ⟨ih0, ih1⟩ := maths_steps.mono_l k
    refine ⟨?_, ?_⟩
    · intro y0 y1
      unfold maths_steps.j0
      repeat' first
      | (with_reducible exact ih0 _ _)
      | (with_reducible exact ih1 _ _ _)
      | (with_reducible exact LeO.refl _)
      | (with_reducible exact LeO.none _)
      | (with_reducible refine LeO.ite ?_ ?_)
      | (with_reducible refine LeO.bind ?_ (fun _ => ?_))
      | exact ih0 _ _
      | exact ih1 _ _ _
      | exact LeO.none _
      | refine LeO.ite ?_ ?_
      | refine LeO.bind ?_ (fun _ => ?_)
    · intro y0 y1 y2
      unfold maths_steps.l0
      repeat' first
      | (with_reducible exact ih0 _ _)
      | (with_reducible exact ih1 _ _ _)
      | (with_reducible exact LeO.refl _)
      | (with_reducible exact LeO.none _)
      | (with_reducible refine LeO.ite ?_ ?_)
      | (with_reducible refine LeO.bind ?_ (fun _ => ?_))
      | exact ih0 _ _
      | exact ih1 _ _ _
      | exact LeO.none _
      | refine LeO.ite ?_ ?_
      | refine LeO.bind ?_ (fun _ => ?_)
theorem maths_steps.mono : ∀ a0 k, LeO (maths_steps.f k a0) (maths_steps.f (k + 1) a0) := by
  intro a0 k
  obtain ⟨ih0, ih1⟩ := maths_steps.mono_l k
  unfold maths_steps.f
  repeat' first
      | (with_reducible exact ih0 _ _)
      | (with_reducible exact ih1 _ _ _)
      | (with_reducible exact LeO.refl _)
      | (with_reducible exact LeO.none _)
      | (with_reducible refine LeO.ite ?_ ?_)
      | (with_reducible refine LeO.bind ?_ (fun _ => ?_))
      | exact ih0 _ _
      | exact ih1 _ _ _
      | exact LeO.none _
      | refine LeO.ite ?_ ?_
      | refine LeO.bind ?_ (fun _ => ?_)
set_option maxHeartbeats 8000000 in
set_option maxRecDepth 100000 in
theorem maths_steps.calls (k : Nat) (a0 : Int) (r : Int) (w : World) (h : maths_steps.f k a0 = some r) :
    Calls Try.prog 63 #[.int .i64 a0] w fun e w' => e = .returned (.int .i64 r) ∧ Drawn0 w w' := by
  have H : (if a0 < (-12) then (maths_steps.j0 k a0 true) else (maths_steps.j0 k a0 (decide (a0 > 6)))) = some r := h
  clear h
  have HC2 := Aside0.mk H
  clear H
  go_enter Try.func63, Try.ntmps63
  go_upto_region 1 with (fail)
  go_cut [9] (fun v9 wc => ∃ (kq : Nat) (x9_1 : Bool), v9 = .bool x9_1 ∧ Aside0 (maths_steps.j0 kq a0 x9_1 = some r) ∧ Aside0 (kq ≤ k) ∧ Drawn0 w wc)
  case first =>
    have H := HC2.out
    clear HC2
    by_cases c3 : a0 < (-12)
    · rw [if_pos c3] at H
      have c3b0 : decide (a0 < (-12)) = true := decide_eq_true c3
      clear c3
      (first | rw [c3b0] | (simp only [i64_w, i32_w]; rw [c3b0]) | skip)
      have H' := Aside0.mk H
      clear H
      go_wp2
      go_meet
      case rel => exact ⟨_, (true), (by first | rfl | (simp; done) | (simp [*]; done)), H', ⟨by first | omega | exact Nat.le_refl _⟩, by repeat (first | exact Drawn0.refl _ | apply Drawn0.step)⟩
    · rw [if_neg c3] at H
      have c3b0 : decide (a0 < (-12)) = false := decide_eq_false c3
      clear c3
      (first | rw [c3b0] | (simp only [i64_w, i32_w]; rw [c3b0]) | skip)
      have H' := Aside0.mk H
      clear H
      go_wp2
      go_meet
      case rel => exact ⟨_, (decide (a0 > 6)), (by first | rfl | (simp; done) | (simp [*]; done)), H', ⟨by first | omega | exact Nat.le_refl _⟩, by repeat (first | exact Drawn0.refl _ | apply Drawn0.step)⟩
  case rest =>
    clear HC2
    try clear p2
    try clear c3
    try clear c3b0
    obtain ⟨kq, x9_1, rfl, HA, HJ1, ⟨mc1, rfl⟩⟩ := hcut
    cases kq with
    | zero => exact absurd HA.out (by simp [maths_steps.j0])
    | succ kj1 =>
      have H := HA.out
      clear HA
      simp only [maths_steps.j0] at H
      by_cases c4 : x9_1 = true
      · subst c4
        have H1 : (some 0) = some r := by rw [if_pos rfl] at H; exact H
        clear H
        have H := H1
        clear H1
        obtain rfl := Option.some.inj H
        simp only [Option.some.injEq, Prod.mk.injEq] at H
        obtain ⟨rfl⟩ := H
        go_wp2
        go_ret
        exact ⟨by first | rfl | (simp; done) | (simp [*]; done), by repeat (first | exact Drawn0.refl _ | apply Drawn0.step)⟩
      · replace c4 := Bool.eq_false_iff.mpr c4
        subst c4
        have H1 : (maths_steps.l0 kj1 1 (wrap64 (6 - a0)) 0) = some r := by rw [if_neg (show ¬ (false = true) by decide)] at H; exact H
        clear H
        have H := H1
        clear H1
        have H' := Aside0.mk H
        clear H
        go_wp2
        go_loopg [3, 12] kj1 (fun kq v3 v12 w' => ∃ (x3_2 : Int) (x12_2 : Int), v3 = .int .i64 x3_2 ∧ v12 = .int .i64 x12_2 ∧ Aside0 (maths_steps.l0 kq x3_2 (wrap64 (6 - a0)) x12_2 = some r) ∧ Aside0 (kq ≤ kj1) ∧ Drawn0 w w')
        case atStart => exact ⟨(1), (0), (by first | rfl | (simp; done) | (simp [*]; done)), (by first | rfl | (simp; done) | (simp [*]; done)), H', ⟨Nat.le_refl _⟩, by repeat (first | exact Drawn0.refl _ | apply Drawn0.step)⟩
        case round =>
          clear H'
          try clear c1
          try clear p2
          try clear c3
          try clear c3b0
          try clear c4
          try clear p2
          obtain ⟨x3_2, x12_2, rfl, rfl, HA, HK2, ⟨m2, rfl⟩⟩ := hrel
          cases gk with
          | zero => exact absurd HA.out (by simp [maths_steps.l0])
          | succ k2 =>
            have H := HA.out
            clear HA
            simp only [maths_steps.l0] at H
            by_cases c5 : x12_2 < (wrap64 (6 - a0))
            · rw [if_pos c5] at H
              have c5b0 : decide (x12_2 < (wrap64 (6 - a0))) = true := decide_eq_true c5
              clear c5
              have H' := Aside0.mk H
              clear H
              go_wp2
              go_roundg k2
              case measure => have := HJ1.out; have := HK2.out; omega
              case rel => exact ⟨(wrap64 (x3_2 * 10)), (wrap64 (x12_2 + 1)), (by first | rfl | (simp; done) | (simp [*]; done)), (by first | rfl | (simp; done) | (simp [*]; done)), H', ⟨by have := HJ1.out; have := HK2.out; omega⟩, by repeat (first | exact Drawn0.refl _ | apply Drawn0.step)⟩
            · rw [if_neg c5] at H
              have c5b0 : decide (x12_2 < (wrap64 (6 - a0))) = false := decide_eq_false c5
              clear c5
              obtain rfl := Option.some.inj H
              simp only [Option.some.injEq, Prod.mk.injEq] at H
              obtain ⟨rfl⟩ := H
              go_wp2
              go_ret
              exact ⟨by first | rfl | (simp; done) | (simp [*]; done), by repeat (first | exact Drawn0.refl _ | apply Drawn0.step)⟩

/-! ### maths_told: function 78 -/
def maths_told.f (a0 : Int) : Option (Int × Int) := (num_Fits.f a0).bind fun t193 => (if t193 = true then (some (a0, 0)) else (some (0, 5)))
set_option maxHeartbeats 8000000 in
set_option maxRecDepth 100000 in
theorem maths_told.calls (a0 : Int) (r1 : Int) (r2 : Int) (w : World) (h : maths_told.f a0 = some (r1, r2)) :
    Calls Try.prog 78 #[.int .i64 a0] w fun e w' => e = .returned (.tuple #[.int .i64 r1, .int .i64 r2]) ∧ Drawn0 w w' := by
  have H : ((num_Fits.f a0).bind fun t193 => (if t193 = true then (some (a0, 0)) else (some (0, 5)))) = some (r1, r2) := h
  clear h
  replace H := Option.bind_eq_some_iff.mp H
  obtain ⟨t193, A20, H⟩ := H
  replace H : (if t193 = true then (some (a0, 0)) else (some (0, 5))) = some (r1, r2) := H
  have A2 := Aside0.mk A20
  clear A20
  by_cases c3 : t193 = true
  · subst c3
    have H1 : (some (a0, 0)) = some (r1, r2) := by rw [if_pos rfl] at H; exact H
    clear H
    have H := H1
    clear H1
    simp only [Option.some.injEq, Prod.mk.injEq] at H
    obtain ⟨rfl, rfl⟩ := H
    go_enter Try.func78, Try.ntmps78
    go_wp2_with (first | ((with_reducible refine gate_callee (f := 19) rfl ?_); refine goesL_ (some 5) rfl rfl Try.func19 (by kernel_rfl) rfl #[.int .i64 a0] rfl (by (try simp only [List.map_toArray, List.map_cons, List.map_nil]); first | done | rfl | (simp only [List.length_drop, List.length_take]; rfl)) ?_; (with_reducible refine (num_Fits.calls a0 true _ A2.out).mono ?_); rintro e w' ⟨rfl, ⟨nd, rfl⟩⟩; refine ⟨_, rfl, ?_⟩))
    go_ret2
    exact ⟨by first | rfl | (simp; done) | (simp [*]; done), by repeat (first | exact Drawn0.refl _ | apply Drawn0.step)⟩
  · replace c3 := Bool.eq_false_iff.mpr c3
    subst c3
    have H1 : (some (0, 5)) = some (r1, r2) := by rw [if_neg (show ¬ (false = true) by decide)] at H; exact H
    clear H
    have H := H1
    clear H1
    simp only [Option.some.injEq, Prod.mk.injEq] at H
    obtain ⟨rfl, rfl⟩ := H
    go_enter Try.func78, Try.ntmps78
    go_wp2_with (first | ((with_reducible refine gate_callee (f := 19) rfl ?_); refine goesL_ (some 5) rfl rfl Try.func19 (by kernel_rfl) rfl #[.int .i64 a0] rfl (by (try simp only [List.map_toArray, List.map_cons, List.map_nil]); first | done | rfl | (simp only [List.length_drop, List.length_take]; rfl)) ?_; (with_reducible refine (num_Fits.calls a0 false _ A2.out).mono ?_); rintro e w' ⟨rfl, ⟨nd, rfl⟩⟩; refine ⟨_, rfl, ?_⟩))
    go_ret2
    exact ⟨by first | rfl | (simp; done) | (simp [*]; done), by repeat (first | exact Drawn0.refl _ | apply Drawn0.step)⟩

/-! ### maths_away: function 65 -/
def maths_away.f (a0 : Int) (a1 : Int) (a2 : Int) : Option (Int × Int) := if a2 < 0 then ((maths_told.f (wrap64 (a0 + (wrap64 (-a1))))).bind fun bt194 => (some (bt194.1, bt194.2))) else ((maths_told.f (wrap64 (a0 + a1))).bind fun bt196 => (some (bt196.1, bt196.2)))
set_option maxHeartbeats 8000000 in
set_option maxRecDepth 100000 in
theorem maths_away.calls (a0 : Int) (a1 : Int) (a2 : Int) (r1 : Int) (r2 : Int) (w : World) (h : maths_away.f a0 a1 a2 = some (r1, r2)) :
    Calls Try.prog 65 #[.int .i64 a0, .int .i64 a1, .int .i64 a2] w fun e w' => e = .returned (.tuple #[.int .i64 r1, .int .i64 r2]) ∧ Drawn0 w w' := by
  have H : (if a2 < 0 then ((maths_told.f (wrap64 (a0 + (wrap64 (-a1))))).bind fun bt194 => (some (bt194.1, bt194.2))) else ((maths_told.f (wrap64 (a0 + a1))).bind fun bt196 => (some (bt196.1, bt196.2)))) = some (r1, r2) := h
  clear h
  by_cases c4 : a2 < 0
  · rw [if_pos c4] at H
    have c4b0 : decide (a2 < 0) = true := decide_eq_true c4
    clear c4
    replace H := Option.bind_eq_some_iff.mp H
    obtain ⟨⟨t194, t195⟩, A50, H⟩ := H
    replace H : (some (t194, t195)) = some (r1, r2) := H
    have A5 := Aside0.mk A50
    clear A50
    simp only [Option.some.injEq, Prod.mk.injEq] at H
    obtain ⟨rfl, rfl⟩ := H
    go_enter Try.func65, Try.ntmps65
    go_wp2_with (first | ((with_reducible refine gate_callee (f := 78) rfl ?_); refine goesL_ (some 15) rfl rfl Try.func78 (by kernel_rfl) rfl #[.int .i64 (wrap64 (a0 + (wrap64 (-a1))))] rfl (by (try simp only [List.map_toArray, List.map_cons, List.map_nil]); first | done | rfl | (simp only [List.length_drop, List.length_take]; rfl)) ?_; (with_reducible refine (maths_told.calls (wrap64 (a0 + (wrap64 (-a1)))) t194 t195 _ A5.out).mono ?_); rintro e w' ⟨rfl, ⟨nd, rfl⟩⟩; refine ⟨_, rfl, ?_⟩))
    go_ret2
    exact ⟨by first | rfl | (simp; done) | (simp [*]; done), by repeat (first | exact Drawn0.refl _ | apply Drawn0.step)⟩
  · rw [if_neg c4] at H
    have c4b0 : decide (a2 < 0) = false := decide_eq_false c4
    clear c4
    replace H := Option.bind_eq_some_iff.mp H
    obtain ⟨⟨t196, t197⟩, A60, H⟩ := H
    replace H : (some (t196, t197)) = some (r1, r2) := H
    have A6 := Aside0.mk A60
    clear A60
    simp only [Option.some.injEq, Prod.mk.injEq] at H
    obtain ⟨rfl, rfl⟩ := H
    go_enter Try.func65, Try.ntmps65
    go_wp2_with (first | ((with_reducible refine gate_callee (f := 78) rfl ?_); refine goesL_ (some 15) rfl rfl Try.func78 (by kernel_rfl) rfl #[.int .i64 (wrap64 (a0 + a1))] rfl (by (try simp only [List.map_toArray, List.map_cons, List.map_nil]); first | done | rfl | (simp only [List.length_drop, List.length_take]; rfl)) ?_; (with_reducible refine (maths_told.calls (wrap64 (a0 + a1)) t196 t197 _ A6.out).mono ?_); rintro e w' ⟨rfl, ⟨nd, rfl⟩⟩; refine ⟨_, rfl, ?_⟩))
    go_ret2
    exact ⟨by first | rfl | (simp; done) | (simp [*]; done), by repeat (first | exact Drawn0.refl _ | apply Drawn0.step)⟩

/-! ### maths_Up_1: function 64 -/
def maths_Up_1.f (a0 : Int) (a1 : Int) : Option (Int × Int) := if a1 = 0 then (some (0, 5)) else (if (Int.tmod a0 a1) = 0 then (some (a0, 0)) else ((maths_away.f (wrap64 (a0 - (Int.tmod a0 a1))) a1 a0).bind fun bt198 => (some (bt198.1, bt198.2))))
set_option maxHeartbeats 8000000 in
set_option maxRecDepth 100000 in
theorem maths_Up_1.calls (a0 : Int) (a1 : Int) (r1 : Int) (r2 : Int) (w : World) (h : maths_Up_1.f a0 a1 = some (r1, r2)) :
    Calls Try.prog 64 #[.int .i64 a0, .int .i64 a1] w fun e w' => e = .returned (.tuple #[.int .i64 r1, .int .i64 r2]) ∧ Drawn0 w w' := by
  have H : (if a1 = 0 then (some (0, 5)) else (if (Int.tmod a0 a1) = 0 then (some (a0, 0)) else ((maths_away.f (wrap64 (a0 - (Int.tmod a0 a1))) a1 a0).bind fun bt198 => (some (bt198.1, bt198.2))))) = some (r1, r2) := h
  clear h
  by_cases c3 : a1 = 0
  · rw [if_pos c3] at H
    have c3b0 : (a1 == 0) = true := beq_iff_eq.mpr c3
    have c3b1 : (a1 != 0) = false := bne_eq_false_iff_eq.mpr c3
    clear c3
    simp only [Option.some.injEq, Prod.mk.injEq] at H
    obtain ⟨rfl, rfl⟩ := H
    go_enter Try.func64, Try.ntmps64
    go_wp2
    go_ret2
    exact ⟨by first | rfl | (simp; done) | (simp [*]; done), by repeat (first | exact Drawn0.refl _ | apply Drawn0.step)⟩
  · rw [if_neg c3] at H
    have c3b0 : (a1 == 0) = false := beq_eq_false_iff_ne.mpr c3
    have c3b1 : (a1 != 0) = true := bne_iff_ne.mpr c3
    by_cases c4 : (Int.tmod a0 a1) = 0
    · rw [if_pos c4] at H
      have c4b0 : ((Int.tmod a0 a1) == 0) = true := beq_iff_eq.mpr c4
      have c4b1 : ((Int.tmod a0 a1) != 0) = false := bne_eq_false_iff_eq.mpr c4
      clear c4
      simp only [Option.some.injEq, Prod.mk.injEq] at H
      obtain ⟨rfl, rfl⟩ := H
      go_enter Try.func64, Try.ntmps64
      go_wp2
      go_ret2
      exact ⟨by first | rfl | (simp; done) | (simp [*]; done), by repeat (first | exact Drawn0.refl _ | apply Drawn0.step)⟩
    · rw [if_neg c4] at H
      have c4b0 : ((Int.tmod a0 a1) == 0) = false := beq_eq_false_iff_ne.mpr c4
      have c4b1 : ((Int.tmod a0 a1) != 0) = true := bne_iff_ne.mpr c4
      replace H := Option.bind_eq_some_iff.mp H
      obtain ⟨⟨t198, t199⟩, A50, H⟩ := H
      replace H : (some (t198, t199)) = some (r1, r2) := H
      have A5 := Aside0.mk A50
      clear A50
      simp only [Option.some.injEq, Prod.mk.injEq] at H
      obtain ⟨rfl, rfl⟩ := H
      go_enter Try.func64, Try.ntmps64
      go_wp2_with (first | ((with_reducible refine gate_callee (f := 65) rfl ?_); refine goesL_ (some 22) rfl rfl Try.func65 (by kernel_rfl) rfl #[.int .i64 (wrap64 (a0 - (Int.tmod a0 a1))), .int .i64 a1, .int .i64 a0] rfl (by (try simp only [List.map_toArray, List.map_cons, List.map_nil]); first | done | rfl | (simp only [List.length_drop, List.length_take]; rfl)) ?_; (with_reducible refine (maths_away.calls (wrap64 (a0 - (Int.tmod a0 a1))) a1 a0 t198 t199 _ A5.out).mono ?_); rintro e w' ⟨rfl, ⟨nd, rfl⟩⟩; refine ⟨_, rfl, ?_⟩))
      go_ret2
      exact ⟨by first | rfl | (simp; done) | (simp [*]; done), by repeat (first | exact Drawn0.refl _ | apply Drawn0.step)⟩

/-! ### maths_Up: function 26 (a text of this session's own) -/
theorem maths_withUp.yes (a0 a1 r1 r2 : Int) (w : World) (hf : num_Fits.f a0 = some true) (hc : maths_Up_1.f a0 a1 = some (r1, r2)) :
    Calls Try.prog 62 #[.int .i64 a0, .int .i64 a1, .func (.func 64) #[] #[]] w fun e w' => e = .returned (.tuple #[.int .i64 r1, .int .i64 r2]) ∧ Drawn0 w w' := by
  have HF := Aside0.mk hf
  have HC := Aside0.mk hc
  clear hf hc
  go_enter Try.func62, Try.ntmps62
  go_wp2_with fail
  refine (num_Fits.same a0 true _ HF.out).mono ?_; rintro e w' ⟨rfl, rfl⟩
  go_wp2_with fail
  refine (maths_Up_1.calls a0 a1 r1 r2 _ HC.out).mono ?_; rintro e w' ⟨rfl, ⟨nd, rfl⟩⟩
  go_wp2
  go_ret2
  exact ⟨rfl, ⟨⟨_, rfl⟩⟩⟩
theorem maths_withUp.no (a0 a1 : Int) (w : World) (hf : num_Fits.f a0 = some false) :
    Calls Try.prog 62 #[.int .i64 a0, .int .i64 a1, .func (.func 64) #[] #[]] w fun e w' => e = .returned (.tuple #[.int .i64 0, .int .i64 5]) ∧ Drawn0 w w' := by
  have HF := Aside0.mk hf
  clear hf
  go_enter Try.func62, Try.ntmps62
  go_wp2_with fail
  refine (num_Fits.same a0 false _ HF.out).mono ?_; rintro e w' ⟨rfl, rfl⟩
  go_wp2
  go_ret2
  exact ⟨rfl, Drawn0.refl _⟩
def maths_Up.f (k : Nat) (a0 : Int) (a1 : Int) : Option (Int × Int) :=
  (maths_steps.f k a1).bind fun s => (num_Fits.f a0).bind fun t => if t = true then maths_Up_1.f a0 s else some (0, 5)
theorem maths_Up.mono : ∀ a0 a1 k, LeO (maths_Up.f k a0 a1) (maths_Up.f (k + 1) a0 a1) := by
  intro a0 a1 k
  unfold maths_Up.f
  exact LeO.bind (maths_steps.mono _ _) (fun s => LeO.refl _)
theorem maths_Up.calls (k : Nat) (a0 : Int) (a1 : Int) (r1 : Int) (r2 : Int) (w : World) (h : maths_Up.f k a0 a1 = some (r1, r2)) :
    Calls Try.prog 26 #[.int .i64 a0, .int .i64 a1] w fun e w' => e = .returned (.tuple #[.int .i64 r1, .int .i64 r2]) ∧ Drawn0 w w' := by
  unfold maths_Up.f at h
  obtain ⟨s, hs, h⟩ := Option.bind_eq_some_iff.mp h
  obtain ⟨t, ht, h⟩ := Option.bind_eq_some_iff.mp h
  have HS := Aside0.mk hs
  have HT := Aside0.mk ht
  clear hs ht
  cases t with
  | false =>
    rw [if_neg (by decide)] at h
    simp only [Option.some.injEq, Prod.mk.injEq] at h
    obtain ⟨rfl, rfl⟩ := h
    go_enter Try.func26, Try.ntmps26
    go_wp2_with fail
    refine (maths_steps.calls k a1 s _ HS.out).mono ?_; rintro e w' ⟨rfl, ⟨nd, rfl⟩⟩
    go_wp2_with fail
    refine (maths_withUp.no a0 s _ HT.out).mono ?_; rintro e w' ⟨rfl, ⟨nd2, rfl⟩⟩
    go_wp2
    go_ret2
    exact ⟨rfl, ⟨⟨_, rfl⟩⟩⟩
  | true =>
    rw [if_pos rfl] at h
    have H := Aside0.mk h
    clear h
    go_enter Try.func26, Try.ntmps26
    go_wp2_with fail
    refine (maths_steps.calls k a1 s _ HS.out).mono ?_; rintro e w' ⟨rfl, ⟨nd, rfl⟩⟩
    go_wp2_with fail
    refine (maths_withUp.yes a0 s r1 r2 _ HT.out H.out).mono ?_; rintro e w' ⟨rfl, ⟨nd2, rfl⟩⟩
    go_wp2
    go_ret2
    exact ⟨rfl, ⟨⟨_, rfl⟩⟩⟩

end Go.Proofs.Ytklkanaabmehkaa.PQ
