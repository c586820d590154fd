-- Written by this session's own program xprint.py, over the translation. Not trusted: Lean checks it.
import Derived.Test.YtklkanaabmehkaaPRx0
import Derived.Test.YtklkanaabmehkaaPRx1
import Derived.Test.YtklkanaabmehkaaPRx5
import Derived.Test.YtklkanaabmehkaaPRx6
import Derived.Test.YtklkanaabmehkaaPRx7
namespace Go.Proofs.Ytklkanaabmehkaa.PR
open Go.RowKit Go.Proofs.YtklkanaabmehkaaW.PrintWords Go.Proofs.YtklkanaabmehkaaW.PrintLast Go.Proofs.YtklkanaabmehkaaW.PrintMore
attribute [local go_sem] max2_int min2_int max_two min_two max_three min_three max_four min_four   -- for this text's walks alone
set_option linter.unusedVariables false
set_option linter.unusedSimpArgs false

/-! ### foolscaplaw15_MathsMirror: function 9 -/
def foolscaplaw15_MathsMirror.j0 : Nat → Int → Int → Int → Bool → Option (Bool)
  | 0, _, _, _, _ => none
  | k + 1, x0, x1, x2, x34 => if x34 = true then ((foolscaplaw15_lives.f k).bind fun t199 => (some t199)) else ((maths_Up.f k x0 x1).bind fun bt200 => ((maths_Up.f k (wrap64 (-x0)) x1).bind fun bt202 => ((maths_Even.f k x0).bind fun bt204 => ((maths_Even.f k (wrap64 (-x0))).bind fun bt206 => ((maths_Floor.f k x0 x2).bind fun bt208 => ((maths_Ceiling.f k (wrap64 (-x0)) x2).bind fun bt210 => (if bt200.1 = (wrap64 (-bt202.1)) then (if bt200.2 = bt202.2 then (if bt204.1 = (wrap64 (-bt206.1)) then (if bt204.2 = bt206.2 then (if bt208.1 = (wrap64 (-bt210.1)) then (if bt208.2 = bt210.2 then ((foolscaplaw15_lives.f k).bind fun t212 => (some t212)) else (some false)) else (some false)) else (some false)) else (some false)) else (some false)) else (some false))))))))
def foolscaplaw15_MathsMirror.f (k : Nat) (a0 : Int) (a1 : Int) (a2 : Int) : Option (Bool) := (num_Fits.f a0).bind fun t197 => (if t197 = true then (if a0 = 0 then (foolscaplaw15_MathsMirror.j0 k a0 a1 a2 true) else (if a2 < 1 then (foolscaplaw15_MathsMirror.j0 k a0 a1 a2 true) else ((num_Fits.f a2).bind fun t198 => (foolscaplaw15_MathsMirror.j0 k a0 a1 a2 (!t198))))) else (foolscaplaw15_MathsMirror.j0 k a0 a1 a2 true))
theorem foolscaplaw15_MathsMirror.mono_l : ∀ k, (∀ y0 y1 y2 y3, LeO (foolscaplaw15_MathsMirror.j0 k y0 y1 y2 y3) (foolscaplaw15_MathsMirror.j0 (k + 1) y0 y1 y2 y3))
  | 0 => fun _ _ _ _ r h => by simp [foolscaplaw15_MathsMirror.j0] at h
  | k + 1 => by
    have ih0 := foolscaplaw15_MathsMirror.mono_l k
    · intro y0 y1 y2 y3
      unfold foolscaplaw15_MathsMirror.j0
      repeat' first
      | (with_reducible exact ih0 _ _ _ _)
      | (with_reducible exact foolscaplaw15_lives.mono _)
      | (with_reducible exact maths_Ceiling.mono _ _ _)
      | (with_reducible exact maths_Even.mono _ _)
      | (with_reducible exact maths_Floor.mono _ _ _)
      | (with_reducible exact maths_Up.mono _ _ _)
      | (with_reducible exact LeO.refl _)
      | (with_reducible exact LeO.none _)
      | (with_reducible refine LeO.ite ?_ ?_)
      | (with_reducible refine LeO.bind ?_ (fun _ => ?_))
      | exact ih0 _ _ _ _
      | exact foolscaplaw15_lives.mono _
      | exact maths_Ceiling.mono _ _ _
      | exact maths_Even.mono _ _
      | exact maths_Floor.mono _ _ _
      | exact maths_Up.mono _ _ _
      | exact LeO.none _
      | refine LeO.ite ?_ ?_
      | refine LeO.bind ?_ (fun _ => ?_)
theorem foolscaplaw15_MathsMirror.mono : ∀ a0 a1 a2 k, LeO (foolscaplaw15_MathsMirror.f k a0 a1 a2) (foolscaplaw15_MathsMirror.f (k + 1) a0 a1 a2) := by
  intro a0 a1 a2 k
  have ih0 := foolscaplaw15_MathsMirror.mono_l k
  unfold foolscaplaw15_MathsMirror.f
  repeat' first
      | (with_reducible exact ih0 _ _ _ _)
      | (with_reducible exact foolscaplaw15_lives.mono _)
      | (with_reducible exact maths_Ceiling.mono _ _ _)
      | (with_reducible exact maths_Even.mono _ _)
      | (with_reducible exact maths_Floor.mono _ _ _)
      | (with_reducible exact maths_Up.mono _ _ _)
      | (with_reducible exact LeO.refl _)
      | (with_reducible exact LeO.none _)
      | (with_reducible refine LeO.ite ?_ ?_)
      | (with_reducible refine LeO.bind ?_ (fun _ => ?_))
      | exact ih0 _ _ _ _
      | exact foolscaplaw15_lives.mono _
      | exact maths_Ceiling.mono _ _ _
      | exact maths_Even.mono _ _
      | exact maths_Floor.mono _ _ _
      | exact maths_Up.mono _ _ _
      | exact LeO.none _
      | refine LeO.ite ?_ ?_
      | refine LeO.bind ?_ (fun _ => ?_)
set_option maxHeartbeats 8000000 in
set_option maxRecDepth 100000 in
theorem foolscaplaw15_MathsMirror.calls (k : Nat) (a0 : Int) (a1 : Int) (a2 : Int) (r : Bool) (w : World) (h : foolscaplaw15_MathsMirror.f k a0 a1 a2 = some r) (hR_ : r = true) :
    Calls Try.prog 9 #[.int .i64 a0, .int .i64 a1, .int .i64 a2] w fun e w' => e = .returned (.bool r) ∧ Below w.heap.size w w' := by
  have HR_ := Aside0.mk hR_
  clear hR_
  have HB := Aside0.mk (Below.refl w.heap.size w)
  have H : ((num_Fits.f a0).bind fun t197 => (if t197 = true then (if a0 = 0 then (foolscaplaw15_MathsMirror.j0 k a0 a1 a2 true) else (if a2 < 1 then (foolscaplaw15_MathsMirror.j0 k a0 a1 a2 true) else ((num_Fits.f a2).bind fun t198 => (foolscaplaw15_MathsMirror.j0 k a0 a1 a2 (!t198))))) else (foolscaplaw15_MathsMirror.j0 k a0 a1 a2 true))) = some r := h
  clear h
  have HC4 := Aside0.mk H
  clear H
  go_enter Try.func9, Try.ntmps9
  go_upto_region 1 with (fail)
  go_cut [34] (fun v34 wc => ∃ (kq : Nat) (x34_3 : Bool), v34 = .bool x34_3 ∧ Aside0 (foolscaplaw15_MathsMirror.j0 kq a0 a1 a2 x34_3 = some r) ∧ Aside0 (kq ≤ k) ∧ Aside0 (Below w.heap.size w wc))
  case first =>
    have H := HC4.out
    clear HC4
    replace H := Option.bind_eq_some_iff.mp H
    obtain ⟨t197, A50, H⟩ := H
    replace H : (if t197 = true then (if a0 = 0 then (foolscaplaw15_MathsMirror.j0 k a0 a1 a2 true) else (if a2 < 1 then (foolscaplaw15_MathsMirror.j0 k a0 a1 a2 true) else ((num_Fits.f a2).bind fun t198 => (foolscaplaw15_MathsMirror.j0 k a0 a1 a2 (!t198))))) else (foolscaplaw15_MathsMirror.j0 k a0 a1 a2 true)) = some r := H
    have A5 := Aside0.mk A50
    clear A50
    by_cases c6 : t197 = true
    · subst c6
      have H1 : (if a0 = 0 then (foolscaplaw15_MathsMirror.j0 k a0 a1 a2 true) else (if a2 < 1 then (foolscaplaw15_MathsMirror.j0 k a0 a1 a2 true) else ((num_Fits.f a2).bind fun t198 => (foolscaplaw15_MathsMirror.j0 k a0 a1 a2 (!t198))))) = some r := by rw [if_pos rfl] at H; exact H
      clear H
      have H := H1
      clear H1
      by_cases c7 : a0 = 0
      · rw [if_pos c7] at H
        have c7b0 : (a0 == 0) = true := beq_iff_eq.mpr c7
        have c7b1 : (a0 != 0) = false := bne_eq_false_iff_eq.mpr c7
        clear c7
        (first | rw [c7b0] | (simp only [i64_w, i32_w]; rw [c7b0]) | skip)
        have H' := Aside0.mk H
        clear H
        go_wp2_with (first | ((with_reducible refine gate_callee (f := 19) rfl ?_); refine goesL_ (some 20) rfl rfl Try.func19 (by kernel_rfl) rfl #[.int .i64 a0] rfl (by (try simp only [List.map_toArray, List.map_cons, List.map_nil]); first | done | rfl | (simp only [List.length_drop, List.length_take]; rfl)) ?_; (with_reducible refine (num_Fits.calls a0 true _ A5.out).mono ?_); rintro e w' ⟨rfl, ⟨nd, rfl⟩⟩; refine ⟨_, rfl, ?_⟩))
        go_meet
        case rel => exact ⟨_, (true), (by first | rfl | (simp; done) | (simp [*]; done)), H', ⟨by first | omega | exact Nat.le_refl _⟩, ⟨by repeat (first | (with_reducible first | exact HB.out | apply below_alloc | apply pw_below_drewN | apply below_drew1) | exact HB.out)⟩⟩
      · rw [if_neg c7] at H
        have c7b0 : (a0 == 0) = false := beq_eq_false_iff_ne.mpr c7
        have c7b1 : (a0 != 0) = true := bne_iff_ne.mpr c7
        (first | rw [c7b0] | (simp only [i64_w, i32_w]; rw [c7b0]) | skip)
        by_cases c8 : a2 < 1
        · rw [if_pos c8] at H
          have c8b0 : decide (a2 < 1) = true := decide_eq_true c8
          clear c8
          have H' := Aside0.mk H
          clear H
          go_wp2_with (first | ((with_reducible refine gate_callee (f := 19) rfl ?_); refine goesL_ (some 20) rfl rfl Try.func19 (by kernel_rfl) rfl #[.int .i64 a0] rfl (by (try simp only [List.map_toArray, List.map_cons, List.map_nil]); first | done | rfl | (simp only [List.length_drop, List.length_take]; rfl)) ?_; (with_reducible refine (num_Fits.calls a0 true _ A5.out).mono ?_); rintro e w' ⟨rfl, ⟨nd, rfl⟩⟩; refine ⟨_, rfl, ?_⟩))
          go_meet
          case rel => exact ⟨_, (true), (by first | rfl | (simp; done) | (simp [*]; done)), H', ⟨by first | omega | exact Nat.le_refl _⟩, ⟨by repeat (first | (with_reducible first | exact HB.out | apply below_alloc | apply pw_below_drewN | apply below_drew1) | exact HB.out)⟩⟩
        · rw [if_neg c8] at H
          have c8b0 : decide (a2 < 1) = false := decide_eq_false c8
          clear c8
          replace H := Option.bind_eq_some_iff.mp H
          obtain ⟨t198, A90, H⟩ := H
          replace H : (foolscaplaw15_MathsMirror.j0 k a0 a1 a2 (!t198)) = some r := H
          have A9 := Aside0.mk A90
          clear A90
          have H' := Aside0.mk H
          clear H
          go_wp2_with (first | ((with_reducible refine gate_callee (f := 19) rfl ?_); refine goesL_ (some 20) rfl rfl Try.func19 (by kernel_rfl) rfl #[.int .i64 a0] rfl (by (try simp only [List.map_toArray, List.map_cons, List.map_nil]); first | done | rfl | (simp only [List.length_drop, List.length_take]; rfl)) ?_; (with_reducible refine (num_Fits.calls a0 true _ A5.out).mono ?_); rintro e w' ⟨rfl, ⟨nd, rfl⟩⟩; refine ⟨_, rfl, ?_⟩) | (go_at_call 19; (with_reducible refine (num_Fits.calls a2 t198 _ A9.out).mono ?_); rintro e w' ⟨rfl, ⟨nd, rfl⟩⟩))
          go_meet
          case rel => exact ⟨_, (!t198), (by first | rfl | (simp; done) | (simp [*]; done)), H', ⟨by first | omega | exact Nat.le_refl _⟩, ⟨by repeat (first | (with_reducible first | exact HB.out | apply below_alloc | apply pw_below_drewN | apply below_drew1) | exact HB.out)⟩⟩
    · replace c6 := Bool.eq_false_iff.mpr c6
      subst c6
      have H1 : (foolscaplaw15_MathsMirror.j0 k a0 a1 a2 true) = some r := by rw [if_neg (show ¬ (false = true) by decide)] at H; exact H
      clear H
      have H := H1
      clear H1
      have H' := Aside0.mk H
      clear H
      go_wp2_with (first | ((with_reducible refine gate_callee (f := 19) rfl ?_); refine goesL_ (some 20) rfl rfl Try.func19 (by kernel_rfl) rfl #[.int .i64 a0] rfl (by (try simp only [List.map_toArray, List.map_cons, List.map_nil]); first | done | rfl | (simp only [List.length_drop, List.length_take]; rfl)) ?_; (with_reducible refine (num_Fits.calls a0 false _ A5.out).mono ?_); rintro e w' ⟨rfl, ⟨nd, rfl⟩⟩; refine ⟨_, rfl, ?_⟩))
      go_meet
      case rel => exact ⟨_, (true), (by first | rfl | (simp; done) | (simp [*]; done)), H', ⟨by first | omega | exact Nat.le_refl _⟩, ⟨by repeat (first | (with_reducible first | exact HB.out | apply below_alloc | apply pw_below_drewN | apply below_drew1) | exact HB.out)⟩⟩
  case rest =>
    clear HC4
    try clear c1
    try clear p2
    try clear c6
    try clear c7
    try clear c7b0
    try clear c7b1
    try clear c8
    try clear c8b0
    try clear c9
    obtain ⟨kq, x34_3, rfl, HA, HJ3, HB⟩ := hcut
    cases kq with
    | zero => exact absurd HA.out (by simp [foolscaplaw15_MathsMirror.j0])
    | succ kj3 =>
      have H := HA.out
      clear HA
      simp only [foolscaplaw15_MathsMirror.j0] at H
      by_cases c10 : x34_3 = true
      · subst c10
        have H1 : ((foolscaplaw15_lives.f kj3).bind fun t199 => (some t199)) = some r := by rw [if_pos rfl] at H; exact H
        clear H
        have H := H1
        clear H1
        replace H := Option.bind_eq_some_iff.mp H
        obtain ⟨t199, A110, H⟩ := H
        replace H : (some t199) = some r := H
        have A11 := Aside0.mk A110
        clear A110
        obtain rfl := Option.some.inj H
        simp only [Option.some.injEq, Prod.mk.injEq] at H
        obtain ⟨rfl⟩ := H
        go_wp2_with (first | ((with_reducible refine gate_callee (f := 18) rfl ?_); refine goesL_ (some 35) rfl rfl Try.func18 (by kernel_rfl) rfl #[] rfl (by (try simp only [List.map_toArray, List.map_cons, List.map_nil]); first | done | rfl | (simp only [List.length_drop, List.length_take]; rfl)) ?_; (with_reducible refine (foolscaplaw15_lives.calls kj3  t199 _ A11.out).mono ?_); rintro e w12 ⟨rfl, hb⟩; refine ⟨_, rfl, ?_⟩; have n0_ := Aside0.mk (below_step (by repeat (first | (with_reducible first | exact HB.out | apply below_alloc | apply pw_below_drewN | apply below_drew1) | exact HB.out)) hb); clear HB; have HB := n0_; clear n0_; (try clear hb); (try clear hb2); (try clear hk); (try clear hi)))
        go_ret
        exact ⟨by first | rfl | (simp [errW_none, errW_some] <;> rfl) | (simp [*, errW_none, errW_some] <;> rfl), by repeat (first | (with_reducible first | exact HB.out | apply below_alloc | apply pw_below_drewN | apply below_drew1) | exact HB.out)⟩
      · replace c10 := Bool.eq_false_iff.mpr c10
        subst c10
        have H1 : ((maths_Up.f kj3 a0 a1).bind fun bt200 => ((maths_Up.f kj3 (wrap64 (-a0)) a1).bind fun bt202 => ((maths_Even.f kj3 a0).bind fun bt204 => ((maths_Even.f kj3 (wrap64 (-a0))).bind fun bt206 => ((maths_Floor.f kj3 a0 a2).bind fun bt208 => ((maths_Ceiling.f kj3 (wrap64 (-a0)) a2).bind fun bt210 => (if bt200.1 = (wrap64 (-bt202.1)) then (if bt200.2 = bt202.2 then (if bt204.1 = (wrap64 (-bt206.1)) then (if bt204.2 = bt206.2 then (if bt208.1 = (wrap64 (-bt210.1)) then (if bt208.2 = bt210.2 then ((foolscaplaw15_lives.f kj3).bind fun t212 => (some t212)) else (some false)) else (some false)) else (some false)) else (some false)) else (some false)) else (some false)))))))) = some r := by rw [if_neg (show ¬ (false = true) by decide)] at H; exact H
        clear H
        have H := H1
        clear H1
        replace H := Option.bind_eq_some_iff.mp H
        obtain ⟨⟨t200, t201⟩, A130, H⟩ := H
        replace H : ((maths_Up.f kj3 (wrap64 (-a0)) a1).bind fun bt202 => ((maths_Even.f kj3 a0).bind fun bt204 => ((maths_Even.f kj3 (wrap64 (-a0))).bind fun bt206 => ((maths_Floor.f kj3 a0 a2).bind fun bt208 => ((maths_Ceiling.f kj3 (wrap64 (-a0)) a2).bind fun bt210 => (if t200 = (wrap64 (-bt202.1)) then (if t201 = bt202.2 then (if bt204.1 = (wrap64 (-bt206.1)) then (if bt204.2 = bt206.2 then (if bt208.1 = (wrap64 (-bt210.1)) then (if bt208.2 = bt210.2 then ((foolscaplaw15_lives.f kj3).bind fun t212 => (some t212)) else (some false)) else (some false)) else (some false)) else (some false)) else (some false)) else (some false))))))) = some r := H
        have A13 := Aside0.mk A130
        clear A130
        replace H := Option.bind_eq_some_iff.mp H
        obtain ⟨⟨t202, t203⟩, A140, H⟩ := H
        replace H : ((maths_Even.f kj3 a0).bind fun bt204 => ((maths_Even.f kj3 (wrap64 (-a0))).bind fun bt206 => ((maths_Floor.f kj3 a0 a2).bind fun bt208 => ((maths_Ceiling.f kj3 (wrap64 (-a0)) a2).bind fun bt210 => (if t200 = (wrap64 (-t202)) then (if t201 = t203 then (if bt204.1 = (wrap64 (-bt206.1)) then (if bt204.2 = bt206.2 then (if bt208.1 = (wrap64 (-bt210.1)) then (if bt208.2 = bt210.2 then ((foolscaplaw15_lives.f kj3).bind fun t212 => (some t212)) else (some false)) else (some false)) else (some false)) else (some false)) else (some false)) else (some false)))))) = some r := H
        have A14 := Aside0.mk A140
        clear A140
        replace H := Option.bind_eq_some_iff.mp H
        obtain ⟨⟨t204, t205⟩, A150, H⟩ := H
        replace H : ((maths_Even.f kj3 (wrap64 (-a0))).bind fun bt206 => ((maths_Floor.f kj3 a0 a2).bind fun bt208 => ((maths_Ceiling.f kj3 (wrap64 (-a0)) a2).bind fun bt210 => (if t200 = (wrap64 (-t202)) then (if t201 = t203 then (if t204 = (wrap64 (-bt206.1)) then (if t205 = bt206.2 then (if bt208.1 = (wrap64 (-bt210.1)) then (if bt208.2 = bt210.2 then ((foolscaplaw15_lives.f kj3).bind fun t212 => (some t212)) else (some false)) else (some false)) else (some false)) else (some false)) else (some false)) else (some false))))) = some r := H
        have A15 := Aside0.mk A150
        clear A150
        replace H := Option.bind_eq_some_iff.mp H
        obtain ⟨⟨t206, t207⟩, A160, H⟩ := H
        replace H : ((maths_Floor.f kj3 a0 a2).bind fun bt208 => ((maths_Ceiling.f kj3 (wrap64 (-a0)) a2).bind fun bt210 => (if t200 = (wrap64 (-t202)) then (if t201 = t203 then (if t204 = (wrap64 (-t206)) then (if t205 = t207 then (if bt208.1 = (wrap64 (-bt210.1)) then (if bt208.2 = bt210.2 then ((foolscaplaw15_lives.f kj3).bind fun t212 => (some t212)) else (some false)) else (some false)) else (some false)) else (some false)) else (some false)) else (some false)))) = some r := H
        have A16 := Aside0.mk A160
        clear A160
        replace H := Option.bind_eq_some_iff.mp H
        obtain ⟨⟨t208, t209⟩, A170, H⟩ := H
        replace H : ((maths_Ceiling.f kj3 (wrap64 (-a0)) a2).bind fun bt210 => (if t200 = (wrap64 (-t202)) then (if t201 = t203 then (if t204 = (wrap64 (-t206)) then (if t205 = t207 then (if t208 = (wrap64 (-bt210.1)) then (if t209 = bt210.2 then ((foolscaplaw15_lives.f kj3).bind fun t212 => (some t212)) else (some false)) else (some false)) else (some false)) else (some false)) else (some false)) else (some false))) = some r := H
        have A17 := Aside0.mk A170
        clear A170
        replace H := Option.bind_eq_some_iff.mp H
        obtain ⟨⟨t210, t211⟩, A180, H⟩ := H
        replace H : (if t200 = (wrap64 (-t202)) then (if t201 = t203 then (if t204 = (wrap64 (-t206)) then (if t205 = t207 then (if t208 = (wrap64 (-t210)) then (if t209 = t211 then ((foolscaplaw15_lives.f kj3).bind fun t212 => (some t212)) else (some false)) else (some false)) else (some false)) else (some false)) else (some false)) else (some false)) = some r := H
        have A18 := Aside0.mk A180
        clear A180
        by_cases c19 : t200 = (wrap64 (-t202))
        · rw [if_pos c19] at H
          have c19b0 : (t200 == (wrap64 (-t202))) = true := beq_iff_eq.mpr c19
          have c19b1 : (t200 != (wrap64 (-t202))) = false := bne_eq_false_iff_eq.mpr c19
          clear c19
          by_cases c20 : t201 = t203
          · rw [if_pos c20] at H
            have c20b0 : (t201 == t203) = true := beq_iff_eq.mpr c20
            have c20b1 : (t201 != t203) = false := bne_eq_false_iff_eq.mpr c20
            clear c20
            by_cases c21 : t204 = (wrap64 (-t206))
            · rw [if_pos c21] at H
              have c21b0 : (t204 == (wrap64 (-t206))) = true := beq_iff_eq.mpr c21
              have c21b1 : (t204 != (wrap64 (-t206))) = false := bne_eq_false_iff_eq.mpr c21
              clear c21
              by_cases c22 : t205 = t207
              · rw [if_pos c22] at H
                have c22b0 : (t205 == t207) = true := beq_iff_eq.mpr c22
                have c22b1 : (t205 != t207) = false := bne_eq_false_iff_eq.mpr c22
                clear c22
                by_cases c23 : t208 = (wrap64 (-t210))
                · rw [if_pos c23] at H
                  have c23b0 : (t208 == (wrap64 (-t210))) = true := beq_iff_eq.mpr c23
                  have c23b1 : (t208 != (wrap64 (-t210))) = false := bne_eq_false_iff_eq.mpr c23
                  clear c23
                  by_cases c24 : t209 = t211
                  · rw [if_pos c24] at H
                    have c24b0 : (t209 == t211) = true := beq_iff_eq.mpr c24
                    have c24b1 : (t209 != t211) = false := bne_eq_false_iff_eq.mpr c24
                    clear c24
                    replace H := Option.bind_eq_some_iff.mp H
                    obtain ⟨t212, A250, H⟩ := H
                    replace H : (some t212) = some r := H
                    have A25 := Aside0.mk A250
                    clear A250
                    obtain rfl := Option.some.inj H
                    simp only [Option.some.injEq, Prod.mk.injEq] at H
                    obtain ⟨rfl⟩ := H
                    go_wp2_with (first | ((with_reducible refine gate_callee (f := 26) rfl ?_); refine goesL_ (some 39) rfl rfl Try.func26 (by kernel_rfl) rfl #[.int .i64 a0, .int .i64 a1] rfl (by (try simp only [List.map_toArray, List.map_cons, List.map_nil]); first | done | rfl | (simp only [List.length_drop, List.length_take]; rfl)) ?_; (with_reducible refine (maths_Up.calls kj3 a0 a1 t200 t201 _ A13.out).mono ?_); rintro e w' ⟨rfl, ⟨nd, rfl⟩⟩; refine ⟨_, rfl, ?_⟩) | ((with_reducible refine gate_callee (f := 26) rfl ?_); refine goesL_ (some 46) rfl rfl Try.func26 (by kernel_rfl) rfl #[.int .i64 (wrap64 (-a0)), .int .i64 a1] rfl (by (try simp only [List.map_toArray, List.map_cons, List.map_nil]); first | done | rfl | (simp only [List.length_drop, List.length_take]; rfl)) ?_; (with_reducible refine (maths_Up.calls kj3 (wrap64 (-a0)) a1 t202 t203 _ A14.out).mono ?_); rintro e w' ⟨rfl, ⟨nd, rfl⟩⟩; refine ⟨_, rfl, ?_⟩) | ((with_reducible refine gate_callee (f := 30) rfl ?_); refine goesL_ (some 51) rfl rfl Try.func30 (by kernel_rfl) rfl #[.int .i64 a0] rfl (by (try simp only [List.map_toArray, List.map_cons, List.map_nil]); first | done | rfl | (simp only [List.length_drop, List.length_take]; rfl)) ?_; (with_reducible refine (maths_Even.calls kj3 a0 t204 t205 _ A15.out).mono ?_); rintro e w26 ⟨rfl, hb⟩; refine ⟨_, rfl, ?_⟩; have n0_ := Aside0.mk (below_step (by repeat (first | (with_reducible first | exact HB.out | apply below_alloc | apply pw_below_drewN | apply below_drew1) | exact HB.out)) hb); clear HB; have HB := n0_; clear n0_; (try clear hb); (try clear hb2); (try clear hk); (try clear hi)) | ((with_reducible refine gate_callee (f := 30) rfl ?_); refine goesL_ (some 57) rfl rfl Try.func30 (by kernel_rfl) rfl #[.int .i64 (wrap64 (-a0))] rfl (by (try simp only [List.map_toArray, List.map_cons, List.map_nil]); first | done | rfl | (simp only [List.length_drop, List.length_take]; rfl)) ?_; (with_reducible refine (maths_Even.calls kj3 (wrap64 (-a0)) t206 t207 _ A16.out).mono ?_); rintro e w27 ⟨rfl, hb⟩; refine ⟨_, rfl, ?_⟩; have n0_ := Aside0.mk (below_step (by repeat (first | (with_reducible first | exact HB.out | apply below_alloc | apply pw_below_drewN | apply below_drew1) | exact HB.out)) hb); clear HB; have HB := n0_; clear n0_; (try clear hb); (try clear hb2); (try clear hk); (try clear hi)) | ((with_reducible refine gate_callee (f := 28) rfl ?_); refine goesL_ (some 63) rfl rfl Try.func28 (by kernel_rfl) rfl #[.int .i64 a0, .int .i64 a2] rfl (by (try simp only [List.map_toArray, List.map_cons, List.map_nil]); first | done | rfl | (simp only [List.length_drop, List.length_take]; rfl)) ?_; (with_reducible refine (maths_Floor.calls kj3 a0 a2 t208 t209 _ A17.out).mono ?_); rintro e w28 ⟨rfl, hb⟩; refine ⟨_, rfl, ?_⟩; have n0_ := Aside0.mk (below_step (by repeat (first | (with_reducible first | exact HB.out | apply below_alloc | apply pw_below_drewN | apply below_drew1) | exact HB.out)) hb); clear HB; have HB := n0_; clear n0_; (try clear hb); (try clear hb2); (try clear hk); (try clear hi)) | ((with_reducible refine gate_callee (f := 29) rfl ?_); refine goesL_ (some 70) rfl rfl Try.func29 (by kernel_rfl) rfl #[.int .i64 (wrap64 (-a0)), .int .i64 a2] rfl (by (try simp only [List.map_toArray, List.map_cons, List.map_nil]); first | done | rfl | (simp only [List.length_drop, List.length_take]; rfl)) ?_; (with_reducible refine (maths_Ceiling.calls kj3 (wrap64 (-a0)) a2 t210 t211 _ A18.out).mono ?_); rintro e w29 ⟨rfl, hb⟩; refine ⟨_, rfl, ?_⟩; have n0_ := Aside0.mk (below_step (by repeat (first | (with_reducible first | exact HB.out | apply below_alloc | apply pw_below_drewN | apply below_drew1) | exact HB.out)) hb); clear HB; have HB := n0_; clear n0_; (try clear hb); (try clear hb2); (try clear hk); (try clear hi)) | (go_at_call 18; (with_reducible refine (foolscaplaw15_lives.calls kj3  t212 _ A25.out).mono ?_); rintro e w30 ⟨rfl, hb⟩; have n0_ := Aside0.mk (below_step (by repeat (first | (with_reducible first | exact HB.out | apply below_alloc | apply pw_below_drewN | apply below_drew1) | exact HB.out)) hb); clear HB; have HB := n0_; clear n0_; (try clear hb); (try clear hb2); (try clear hk); (try clear hi)))
                    go_ret
                    exact ⟨by first | rfl | (simp [errW_none, errW_some] <;> rfl) | (simp [*, errW_none, errW_some] <;> rfl), by repeat (first | (with_reducible first | exact HB.out | apply below_alloc | apply pw_below_drewN | apply below_drew1) | exact HB.out)⟩
                  · rw [if_neg c24] at H
                    have c24b0 : (t209 == t211) = false := beq_eq_false_iff_ne.mpr c24
                    have c24b1 : (t209 != t211) = true := bne_iff_ne.mpr c24
                    obtain rfl := Option.some.inj H
                    exact absurd HR_.out (by decide)
                · rw [if_neg c23] at H
                  have c23b0 : (t208 == (wrap64 (-t210))) = false := beq_eq_false_iff_ne.mpr c23
                  have c23b1 : (t208 != (wrap64 (-t210))) = true := bne_iff_ne.mpr c23
                  obtain rfl := Option.some.inj H
                  exact absurd HR_.out (by decide)
              · rw [if_neg c22] at H
                have c22b0 : (t205 == t207) = false := beq_eq_false_iff_ne.mpr c22
                have c22b1 : (t205 != t207) = true := bne_iff_ne.mpr c22
                obtain rfl := Option.some.inj H
                exact absurd HR_.out (by decide)
            · rw [if_neg c21] at H
              have c21b0 : (t204 == (wrap64 (-t206))) = false := beq_eq_false_iff_ne.mpr c21
              have c21b1 : (t204 != (wrap64 (-t206))) = true := bne_iff_ne.mpr c21
              obtain rfl := Option.some.inj H
              exact absurd HR_.out (by decide)
          · rw [if_neg c20] at H
            have c20b0 : (t201 == t203) = false := beq_eq_false_iff_ne.mpr c20
            have c20b1 : (t201 != t203) = true := bne_iff_ne.mpr c20
            obtain rfl := Option.some.inj H
            exact absurd HR_.out (by decide)
        · rw [if_neg c19] at H
          have c19b0 : (t200 == (wrap64 (-t202))) = false := beq_eq_false_iff_ne.mpr c19
          have c19b1 : (t200 != (wrap64 (-t202))) = true := bne_iff_ne.mpr c19
          obtain rfl := Option.some.inj H
          exact absurd HR_.out (by decide)

/-- THE ONE PURE STATEMENT of foolscaplaw15_MathsMirror: yours. -/
def foolscaplaw15_MathsMirror.Pure : Prop := ∀ (a0 : Int) (a1 : Int) (a2 : Int), (Lit.int .i64 a0).wf = true → (Lit.int .i64 a1).wf = true → (Lit.int .i64 a2).wf = true → ∃ k, foolscaplaw15_MathsMirror.f k a0 a1 a2 = some true
theorem foolscaplaw15_MathsMirror.walk (P : foolscaplaw15_MathsMirror.Pure) (a0 : Int) (a1 : Int) (a2 : Int) (w : World) (w0 : (Lit.int .i64 a0).wf = true) (w1 : (Lit.int .i64 a1).wf = true) (w2 : (Lit.int .i64 a2).wf = true) :
    Calls Try.prog 9 #[.int .i64 a0, .int .i64 a1, .int .i64 a2] w fun e w' => e = .returned (.bool true) ∧ Below w.heap.size w w' := by
  obtain ⟨k, h⟩ := P a0 a1 a2 w0 w1 w2
  refine (foolscaplaw15_MathsMirror.calls k a0 a1 a2 true w h rfl).mono ?_
  rintro e w' ⟨rfl, hd⟩
  exact ⟨rfl, hd⟩

/-! ### foolscapref01_Fits: function 46 -/
def foolscapref01_Fits.f (a0 : Int) : Option (Bool) := if a0 ≥ (-1000000000000000000) then (some (decide (a0 ≤ 1000000000000000000))) else (some false)
set_option maxHeartbeats 8000000 in
set_option maxRecDepth 100000 in
theorem foolscapref01_Fits.calls (a0 : Int) (r : Bool) (w : World) (h : foolscapref01_Fits.f a0 = some r) :
    Calls Try.prog 46 #[.int .i64 a0] w fun e w' => e = .returned (.bool r) ∧ Drawn0 w w' := by
  have H : (if a0 ≥ (-1000000000000000000) then (some (decide (a0 ≤ 1000000000000000000))) else (some false)) = some r := h
  clear h
  by_cases c2 : a0 ≥ (-1000000000000000000)
  · rw [if_pos c2] at H
    have c2b0 : decide ((-1000000000000000000) ≤ a0) = true := decide_eq_true c2
    clear c2
    obtain rfl := Option.some.inj H
    simp only [Option.some.injEq, Prod.mk.injEq] at H
    obtain ⟨rfl⟩ := H
    go_enter Try.func46, Try.ntmps46
    go_wp2
    go_ret
    exact ⟨by first | rfl | (simp; done) | (simp [*]; done), by repeat (first | exact Drawn0.refl _ | apply Drawn0.step)⟩
  · rw [if_neg c2] at H
    have c2b0 : decide ((-1000000000000000000) ≤ a0) = false := decide_eq_false c2
    clear c2
    obtain rfl := Option.some.inj H
    simp only [Option.some.injEq, Prod.mk.injEq] at H
    obtain ⟨rfl⟩ := H
    go_enter Try.func46, Try.ntmps46
    go_wp2
    go_ret
    exact ⟨by first | rfl | (simp; done) | (simp [*]; done), by repeat (first | exact Drawn0.refl _ | apply Drawn0.step)⟩

/-! ### foolscapref01_Size: function 47 -/
def foolscapref01_Size.f (a0 : Int) : Option (Int) := some (mx a0 (wrap64 (-a0)))
set_option maxHeartbeats 8000000 in
set_option maxRecDepth 100000 in
theorem foolscapref01_Size.calls (a0 : Int) (r : Int) (w : World) (h : foolscapref01_Size.f a0 = some r) :
    Calls Try.prog 47 #[.int .i64 a0] w fun e w' => e = .returned (.int .i64 r) ∧ Below w.heap.size w w' := by
  have HB := Aside0.mk (Below.refl w.heap.size w)
  have H : (some (mx a0 (wrap64 (-a0)))) = some r := h
  clear h
  obtain ⟨ji2, hji2⟩ : ∃ j_ : Int, (mx a0 (wrap64 (-a0))) = j_ := ⟨_, rfl⟩
  replace H : (some ji2) = some r := by first | (rw [hji2] at H; exact H) | (simp only [hji2] at H ⊢; exact H)
  have hji2_ : (if a0 < (wrap64 (-a0)) then (wrap64 (-a0)) else a0) = ji2 := hji2
  obtain rfl := Option.some.inj H
  simp only [Option.some.injEq, Prod.mk.injEq] at H
  obtain ⟨rfl⟩ := H
  go_enter Try.func47, Try.ntmps47
  go_wp2
  go_ret
  exact ⟨by first | rfl | (simp [errW_none, errW_some] <;> rfl) | (simp only [← hji2]; first | rfl | (simp [errW_none, errW_some] <;> rfl)) | (simp [*, errW_none, errW_some] <;> rfl), by repeat (first | (with_reducible first | exact HB.out | apply below_alloc | apply pw_below_drewN | apply below_drew1) | exact HB.out)⟩

/-! ### foolscapref15_told: function 69 -/
def foolscapref15_told.f (a0 : Int) : Option (Int × Int) := (foolscapref01_Fits.f a0).bind fun t213 => (if t213 = true then (some (a0, 0)) else (some (0, 5)))
set_option maxHeartbeats 8000000 in
set_option maxRecDepth 100000 in
theorem foolscapref15_told.calls (a0 : Int) (r1 : Int) (r2 : Int) (w : World) (h : foolscapref15_told.f a0 = some (r1, r2)) :
    Calls Try.prog 69 #[.int .i64 a0] w fun e w' => e = .returned (.tuple #[.int .i64 r1, .int .i64 r2]) ∧ Drawn0 w w' := by
  have H : ((foolscapref01_Fits.f a0).bind fun t213 => (if t213 = true then (some (a0, 0)) else (some (0, 5)))) = some (r1, r2) := h
  clear h
  replace H := Option.bind_eq_some_iff.mp H
  obtain ⟨t213, A20, H⟩ := H
  replace H : (if t213 = true then (some (a0, 0)) else (some (0, 5))) = some (r1, r2) := H
  have A2 := Aside0.mk A20
  clear A20
  by_cases c3 : t213 = true
  · subst c3
    have H1 : (some (a0, 0)) = some (r1, r2) := by rw [if_pos rfl] at H; exact H
    clear H
    have H := H1
    clear H1
    simp only [Option.some.injEq, Prod.mk.injEq] at H
    obtain ⟨rfl, rfl⟩ := H
    go_enter Try.func69, Try.ntmps69
    go_wp2_with (first | ((with_reducible refine gate_callee (f := 46) rfl ?_); refine goesL_ (some 5) rfl rfl Try.func46 (by kernel_rfl) rfl #[.int .i64 a0] rfl (by (try simp only [List.map_toArray, List.map_cons, List.map_nil]); first | done | rfl | (simp only [List.length_drop, List.length_take]; rfl)) ?_; (with_reducible refine (foolscapref01_Fits.calls a0 true _ A2.out).mono ?_); rintro e w' ⟨rfl, ⟨nd, rfl⟩⟩; refine ⟨_, rfl, ?_⟩))
    go_ret2
    exact ⟨by first | rfl | (simp; done) | (simp [*]; done), by repeat (first | exact Drawn0.refl _ | apply Drawn0.step)⟩
  · replace c3 := Bool.eq_false_iff.mpr c3
    subst c3
    have H1 : (some (0, 5)) = some (r1, r2) := by rw [if_neg (show ¬ (false = true) by decide)] at H; exact H
    clear H
    have H := H1
    clear H1
    simp only [Option.some.injEq, Prod.mk.injEq] at H
    obtain ⟨rfl, rfl⟩ := H
    go_enter Try.func69, Try.ntmps69
    go_wp2_with (first | ((with_reducible refine gate_callee (f := 46) rfl ?_); refine goesL_ (some 5) rfl rfl Try.func46 (by kernel_rfl) rfl #[.int .i64 a0] rfl (by (try simp only [List.map_toArray, List.map_cons, List.map_nil]); first | done | rfl | (simp only [List.length_drop, List.length_take]; rfl)) ?_; (with_reducible refine (foolscapref01_Fits.calls a0 false _ A2.out).mono ?_); rintro e w' ⟨rfl, ⟨nd, rfl⟩⟩; refine ⟨_, rfl, ?_⟩))
    go_ret2
    exact ⟨by first | rfl | (simp; done) | (simp [*]; done), by repeat (first | exact Drawn0.refl _ | apply Drawn0.step)⟩

/-! ### foolscapref15_Ceiling: function 31 -/
mutual
def foolscapref15_Ceiling.j0 : Nat → Int → Int → Bool → Option (Int × Int)
  | 0, _, _, _ => none
  | k + 1, x0, x1, x14 => if x14 = true then (some (0, 5)) else (if x0 = 0 then (some (0, 0)) else (if x1 = 0 then (some (0, 1)) else (if x0 > 0 then (foolscapref15_Ceiling.j1 k x0 x1 (decide (x1 < 0))) else (foolscapref15_Ceiling.j1 k x0 x1 false))))
def foolscapref15_Ceiling.j1 : Nat → Int → Int → Bool → Option (Int × Int)
  | 0, _, _, _ => none
  | k + 1, x0, x1, x24 => if x24 = true then (some (0, 5)) else ((foolscapref01_Size.f x1).bind fun t216 => (if t216 = 0 then (none) else (if (Int.tmod x0 t216) > 0 then ((foolscapref01_Size.f x1).bind fun t217 => ((foolscapref15_told.f (wrap64 (x0 - (wrap64 ((Int.tmod x0 t216) - t217))))).bind fun bt218 => (some (bt218.1, bt218.2)))) else ((foolscapref15_told.f (wrap64 (x0 - (Int.tmod x0 t216)))).bind fun bt220 => (some (bt220.1, bt220.2))))))
end
def foolscapref15_Ceiling.f (k : Nat) (a0 : Int) (a1 : Int) : Option (Int × Int) := (foolscapref01_Fits.f a0).bind fun t214 => (if t214 = true then ((foolscapref01_Fits.f a1).bind fun t215 => (foolscapref15_Ceiling.j0 k a0 a1 (!t215))) else (foolscapref15_Ceiling.j0 k a0 a1 true))
theorem foolscapref15_Ceiling.mono_l : ∀ k, (∀ y0 y1 y2, LeO (foolscapref15_Ceiling.j0 k y0 y1 y2) (foolscapref15_Ceiling.j0 (k + 1) y0 y1 y2)) ∧ (∀ y0 y1 y2, LeO (foolscapref15_Ceiling.j1 k y0 y1 y2) (foolscapref15_Ceiling.j1 (k + 1) y0 y1 y2))
  | 0 => ⟨fun _ _ _ r h => by simp [foolscapref15_Ceiling.j0] at h, fun _ _ _ r h => by simp [foolscapref15_Ceiling.j1] at h⟩
  | k + 1 => by
    obtain ⟨ih0, ih1⟩ := foolscapref15_Ceiling.mono_l k
    refine ⟨?_, ?_⟩
    · intro y0 y1 y2
      unfold foolscapref15_Ceiling.j0
      repeat' first
      | (with_reducible exact ih0 _ _ _)
      | (with_reducible exact ih1 _ _ _)
      | (with_reducible exact LeO.refl _)
      | (with_reducible exact LeO.none _)
      | (with_reducible refine LeO.ite ?_ ?_)
      | (with_reducible refine LeO.bind ?_ (fun _ => ?_))
      | exact ih0 _ _ _
      | exact ih1 _ _ _
      | exact LeO.none _
      | refine LeO.ite ?_ ?_
      | refine LeO.bind ?_ (fun _ => ?_)
    · intro y0 y1 y2
      unfold foolscapref15_Ceiling.j1
      repeat' first
      | (with_reducible exact ih0 _ _ _)
      | (with_reducible exact ih1 _ _ _)
      | (with_reducible exact LeO.refl _)
      | (with_reducible exact LeO.none _)
      | (with_reducible refine LeO.ite ?_ ?_)
      | (with_reducible refine LeO.bind ?_ (fun _ => ?_))
      | exact ih0 _ _ _
      | exact ih1 _ _ _
      | exact LeO.none _
      | refine LeO.ite ?_ ?_
      | refine LeO.bind ?_ (fun _ => ?_)
theorem foolscapref15_Ceiling.mono : ∀ a0 a1 k, LeO (foolscapref15_Ceiling.f k a0 a1) (foolscapref15_Ceiling.f (k + 1) a0 a1) := by
  intro a0 a1 k
  obtain ⟨ih0, ih1⟩ := foolscapref15_Ceiling.mono_l k
  unfold foolscapref15_Ceiling.f
  repeat' first
      | (with_reducible exact ih0 _ _ _)
      | (with_reducible exact ih1 _ _ _)
      | (with_reducible exact LeO.refl _)
      | (with_reducible exact LeO.none _)
      | (with_reducible refine LeO.ite ?_ ?_)
      | (with_reducible refine LeO.bind ?_ (fun _ => ?_))
      | exact ih0 _ _ _
      | exact ih1 _ _ _
      | exact LeO.none _
      | refine LeO.ite ?_ ?_
      | refine LeO.bind ?_ (fun _ => ?_)
set_option maxHeartbeats 8000000 in
set_option maxRecDepth 100000 in
theorem foolscapref15_Ceiling.calls (k : Nat) (a0 : Int) (a1 : Int) (r1 : Int) (r2 : Int) (w : World) (h : foolscapref15_Ceiling.f k a0 a1 = some (r1, r2)) :
    Calls Try.prog 31 #[.int .i64 a0, .int .i64 a1] w fun e w' => e = .returned (.tuple #[.int .i64 r1, .int .i64 r2]) ∧ Below w.heap.size w w' := by
  have HB := Aside0.mk (Below.refl w.heap.size w)
  have H : ((foolscapref01_Fits.f a0).bind fun t214 => (if t214 = true then ((foolscapref01_Fits.f a1).bind fun t215 => (foolscapref15_Ceiling.j0 k a0 a1 (!t215))) else (foolscapref15_Ceiling.j0 k a0 a1 true))) = some (r1, r2) := h
  clear h
  have HC3 := Aside0.mk H
  clear H
  go_enter Try.func31, Try.ntmps31
  go_upto_region 1 with (fail)
  go_cut [14] (fun v14 wc => ∃ (kq : Nat) (x14_2 : Bool), v14 = .bool x14_2 ∧ Aside0 (foolscapref15_Ceiling.j0 kq a0 a1 x14_2 = some (r1, r2)) ∧ Aside0 (kq ≤ k) ∧ Aside0 (Below w.heap.size w wc))
  case first =>
    have H := HC3.out
    clear HC3
    replace H := Option.bind_eq_some_iff.mp H
    obtain ⟨t214, A40, H⟩ := H
    replace H : (if t214 = true then ((foolscapref01_Fits.f a1).bind fun t215 => (foolscapref15_Ceiling.j0 k a0 a1 (!t215))) else (foolscapref15_Ceiling.j0 k a0 a1 true)) = some (r1, r2) := H
    have A4 := Aside0.mk A40
    clear A40
    by_cases c5 : t214 = true
    · subst c5
      have H1 : ((foolscapref01_Fits.f a1).bind fun t215 => (foolscapref15_Ceiling.j0 k a0 a1 (!t215))) = some (r1, r2) := by rw [if_pos rfl] at H; exact H
      clear H
      have H := H1
      clear H1
      replace H := Option.bind_eq_some_iff.mp H
      obtain ⟨t215, A60, H⟩ := H
      replace H : (foolscapref15_Ceiling.j0 k a0 a1 (!t215)) = some (r1, r2) := H
      have A6 := Aside0.mk A60
      clear A60
      have H' := Aside0.mk H
      clear H
      go_wp2_with (first | ((with_reducible refine gate_callee (f := 46) rfl ?_); refine goesL_ (some 8) rfl rfl Try.func46 (by kernel_rfl) rfl #[.int .i64 a0] rfl (by (try simp only [List.map_toArray, List.map_cons, List.map_nil]); first | done | rfl | (simp only [List.length_drop, List.length_take]; rfl)) ?_; (with_reducible refine (foolscapref01_Fits.calls a0 true _ A4.out).mono ?_); rintro e w' ⟨rfl, ⟨nd, rfl⟩⟩; refine ⟨_, rfl, ?_⟩) | (go_at_call 46; (with_reducible refine (foolscapref01_Fits.calls a1 t215 _ A6.out).mono ?_); rintro e w' ⟨rfl, ⟨nd, rfl⟩⟩))
      go_meet
      case rel => exact ⟨_, (!t215), (by first | rfl | (simp; done) | (simp [*]; done)), H', ⟨by first | omega | exact Nat.le_refl _⟩, ⟨by repeat (first | (with_reducible first | exact HB.out | apply below_alloc | apply pw_below_drewN | apply below_drew1) | exact HB.out)⟩⟩
    · replace c5 := Bool.eq_false_iff.mpr c5
      subst c5
      have H1 : (foolscapref15_Ceiling.j0 k a0 a1 true) = some (r1, r2) := by rw [if_neg (show ¬ (false = true) by decide)] at H; exact H
      clear H
      have H := H1
      clear H1
      have H' := Aside0.mk H
      clear H
      go_wp2_with (first | ((with_reducible refine gate_callee (f := 46) rfl ?_); refine goesL_ (some 8) rfl rfl Try.func46 (by kernel_rfl) rfl #[.int .i64 a0] rfl (by (try simp only [List.map_toArray, List.map_cons, List.map_nil]); first | done | rfl | (simp only [List.length_drop, List.length_take]; rfl)) ?_; (with_reducible refine (foolscapref01_Fits.calls a0 false _ A4.out).mono ?_); rintro e w' ⟨rfl, ⟨nd, rfl⟩⟩; refine ⟨_, rfl, ?_⟩))
      go_meet
      case rel => exact ⟨_, (true), (by first | rfl | (simp; done) | (simp [*]; done)), H', ⟨by first | omega | exact Nat.le_refl _⟩, ⟨by repeat (first | (with_reducible first | exact HB.out | apply below_alloc | apply pw_below_drewN | apply below_drew1) | exact HB.out)⟩⟩
  case rest =>
    clear HC3
    try clear p2
    try clear c3
    try clear c4
    try clear c5
    obtain ⟨kq, x14_2, rfl, HA, HJ2, HB⟩ := hcut
    cases kq with
    | zero => exact absurd HA.out (by simp [foolscapref15_Ceiling.j0])
    | succ kj2 =>
      have H := HA.out
      clear HA
      simp only [foolscapref15_Ceiling.j0] at H
      by_cases c7 : x14_2 = true
      · subst c7
        have H1 : (some (0, 5)) = some (r1, r2) := by rw [if_pos rfl] at H; exact H
        clear H
        have H := H1
        clear H1
        simp only [Option.some.injEq, Prod.mk.injEq] at H
        obtain ⟨rfl, rfl⟩ := H
        go_wp2
        go_ret2
        exact ⟨by first | rfl | (simp [errW_none, errW_some] <;> rfl) | (simp [*, errW_none, errW_some] <;> rfl), by repeat (first | (with_reducible first | exact HB.out | apply below_alloc | apply pw_below_drewN | apply below_drew1) | exact HB.out)⟩
      · replace c7 := Bool.eq_false_iff.mpr c7
        subst c7
        have H1 : (if a0 = 0 then (some (0, 0)) else (if a1 = 0 then (some (0, 1)) else (if a0 > 0 then (foolscapref15_Ceiling.j1 kj2 a0 a1 (decide (a1 < 0))) else (foolscapref15_Ceiling.j1 kj2 a0 a1 false)))) = some (r1, r2) := by rw [if_neg (show ¬ (false = true) by decide)] at H; exact H
        clear H
        have H := H1
        clear H1
        by_cases c8 : a0 = 0
        · rw [if_pos c8] at H
          have c8b0 : (a0 == 0) = true := beq_iff_eq.mpr c8
          have c8b1 : (a0 != 0) = false := bne_eq_false_iff_eq.mpr c8
          clear c8
          simp only [Option.some.injEq, Prod.mk.injEq] at H
          obtain ⟨rfl, rfl⟩ := H
          go_wp2
          go_ret2
          exact ⟨by first | rfl | (simp [errW_none, errW_some] <;> rfl) | (simp [*, errW_none, errW_some] <;> rfl), by repeat (first | (with_reducible first | exact HB.out | apply below_alloc | apply pw_below_drewN | apply below_drew1) | exact HB.out)⟩
        · rw [if_neg c8] at H
          have c8b0 : (a0 == 0) = false := beq_eq_false_iff_ne.mpr c8
          have c8b1 : (a0 != 0) = true := bne_iff_ne.mpr c8
          by_cases c9 : a1 = 0
          · rw [if_pos c9] at H
            have c9b0 : (a1 == 0) = true := beq_iff_eq.mpr c9
            have c9b1 : (a1 != 0) = false := bne_eq_false_iff_eq.mpr c9
            clear c9
            simp only [Option.some.injEq, Prod.mk.injEq] at H
            obtain ⟨rfl, rfl⟩ := H
            go_wp2
            go_ret2
            exact ⟨by first | rfl | (simp [errW_none, errW_some] <;> rfl) | (simp [*, errW_none, errW_some] <;> rfl), by repeat (first | (with_reducible first | exact HB.out | apply below_alloc | apply pw_below_drewN | apply below_drew1) | exact HB.out)⟩
          · rw [if_neg c9] at H
            have c9b0 : (a1 == 0) = false := beq_eq_false_iff_ne.mpr c9
            have c9b1 : (a1 != 0) = true := bne_iff_ne.mpr c9
            have HC10 := Aside0.mk H
            clear H
            go_upto_region 7 with (fail)
            go_cut [24] (fun v24 wc => ∃ (kq : Nat) (x24_9 : Bool), v24 = .bool x24_9 ∧ Aside0 (foolscapref15_Ceiling.j1 kq a0 a1 x24_9 = some (r1, r2)) ∧ Aside0 (kq ≤ kj2) ∧ Aside0 (Below w.heap.size w wc))
            case first =>
              have H := HC10.out
              clear HC10
              by_cases c11 : a0 > 0
              · rw [if_pos c11] at H
                have c11b0 : decide (0 < a0) = true := decide_eq_true c11
                clear c11
                (first | rw [c11b0] | (simp only [i64_w, i32_w]; rw [c11b0]) | skip)
                have H' := Aside0.mk H
                clear H
                go_wp2
                go_meet
                case rel => exact ⟨_, (decide (a1 < 0)), (by first | rfl | (simp; done) | (simp [*]; done)), H', ⟨by have := HJ2.out; first | omega | exact Nat.le_refl _⟩, ⟨by repeat (first | (with_reducible first | exact HB.out | apply below_alloc | apply pw_below_drewN | apply below_drew1) | exact HB.out)⟩⟩
              · rw [if_neg c11] at H
                have c11b0 : decide (0 < a0) = false := decide_eq_false c11
                clear c11
                (first | rw [c11b0] | (simp only [i64_w, i32_w]; rw [c11b0]) | skip)
                have H' := Aside0.mk H
                clear H
                go_wp2
                go_meet
                case rel => exact ⟨_, (false), (by first | rfl | (simp; done) | (simp [*]; done)), H', ⟨by have := HJ2.out; first | omega | exact Nat.le_refl _⟩, ⟨by repeat (first | (with_reducible first | exact HB.out | apply below_alloc | apply pw_below_drewN | apply below_drew1) | exact HB.out)⟩⟩
            case rest =>
              clear HC10
              try clear c1
              try clear p2
              try clear c3
              try clear c4
              try clear c5
              try clear c7
              try clear c8
              try clear c8b0
              try clear c8b1
              try clear c9
              try clear c9b0
              try clear c9b1
              try clear c11
              try clear c11b0
              try clear p2
              obtain ⟨kq, x24_9, rfl, HA, HJ9, HB⟩ := hcut
              cases kq with
              | zero => exact absurd HA.out (by simp [foolscapref15_Ceiling.j1])
              | succ kj9 =>
                have H := HA.out
                clear HA
                simp only [foolscapref15_Ceiling.j1] at H
                by_cases c12 : x24_9 = true
                · subst c12
                  have H1 : (some (0, 5)) = some (r1, r2) := by rw [if_pos rfl] at H; exact H
                  clear H
                  have H := H1
                  clear H1
                  simp only [Option.some.injEq, Prod.mk.injEq] at H
                  obtain ⟨rfl, rfl⟩ := H
                  go_wp2
                  go_ret2
                  exact ⟨by first | rfl | (simp [errW_none, errW_some] <;> rfl) | (simp [*, errW_none, errW_some] <;> rfl), by repeat (first | (with_reducible first | exact HB.out | apply below_alloc | apply pw_below_drewN | apply below_drew1) | exact HB.out)⟩
                · replace c12 := Bool.eq_false_iff.mpr c12
                  subst c12
                  have H1 : ((foolscapref01_Size.f a1).bind fun t216 => (if t216 = 0 then (none) else (if (Int.tmod a0 t216) > 0 then ((foolscapref01_Size.f a1).bind fun t217 => ((foolscapref15_told.f (wrap64 (a0 - (wrap64 ((Int.tmod a0 t216) - t217))))).bind fun bt218 => (some (bt218.1, bt218.2)))) else ((foolscapref15_told.f (wrap64 (a0 - (Int.tmod a0 t216)))).bind fun bt220 => (some (bt220.1, bt220.2)))))) = some (r1, r2) := by rw [if_neg (show ¬ (false = true) by decide)] at H; exact H
                  clear H
                  have H := H1
                  clear H1
                  replace H := Option.bind_eq_some_iff.mp H
                  obtain ⟨t216, A130, H⟩ := H
                  replace H : (if t216 = 0 then (none) else (if (Int.tmod a0 t216) > 0 then ((foolscapref01_Size.f a1).bind fun t217 => ((foolscapref15_told.f (wrap64 (a0 - (wrap64 ((Int.tmod a0 t216) - t217))))).bind fun bt218 => (some (bt218.1, bt218.2)))) else ((foolscapref15_told.f (wrap64 (a0 - (Int.tmod a0 t216)))).bind fun bt220 => (some (bt220.1, bt220.2))))) = some (r1, r2) := H
                  have A13 := Aside0.mk A130
                  clear A130
                  by_cases c14 : t216 = 0
                  · rw [if_pos c14] at H
                    exact absurd H (by simp)
                  · rw [if_neg c14] at H
                    have c14b0 : (t216 == 0) = false := beq_eq_false_iff_ne.mpr c14
                    have c14b1 : (t216 != 0) = true := bne_iff_ne.mpr c14
                    by_cases c15 : (Int.tmod a0 t216) > 0
                    · rw [if_pos c15] at H
                      have c15b0 : decide (0 < (Int.tmod a0 t216)) = true := decide_eq_true c15
                      clear c15
                      replace H := Option.bind_eq_some_iff.mp H
                      obtain ⟨t217, A160, H⟩ := H
                      replace H : ((foolscapref15_told.f (wrap64 (a0 - (wrap64 ((Int.tmod a0 t216) - t217))))).bind fun bt218 => (some (bt218.1, bt218.2))) = some (r1, r2) := H
                      have A16 := Aside0.mk A160
                      clear A160
                      replace H := Option.bind_eq_some_iff.mp H
                      obtain ⟨⟨t218, t219⟩, A170, H⟩ := H
                      replace H : (some (t218, t219)) = some (r1, r2) := H
                      have A17 := Aside0.mk A170
                      clear A170
                      simp only [Option.some.injEq, Prod.mk.injEq] at H
                      obtain ⟨rfl, rfl⟩ := H
                      go_wp2_with (first | ((with_reducible refine gate_callee (f := 47) rfl ?_); refine goesL_ (some 27) rfl rfl Try.func47 (by kernel_rfl) rfl #[.int .i64 a1] rfl (by (try simp only [List.map_toArray, List.map_cons, List.map_nil]); first | done | rfl | (simp only [List.length_drop, List.length_take]; rfl)) ?_; (with_reducible refine (foolscapref01_Size.calls a1 t216 _ A13.out).mono ?_); rintro e w18 ⟨rfl, hb⟩; refine ⟨_, rfl, ?_⟩; have n0_ := Aside0.mk (below_step (by repeat (first | (with_reducible first | exact HB.out | apply below_alloc | apply pw_below_drewN | apply below_drew1) | exact HB.out)) hb); clear HB; have HB := n0_; clear n0_; (try clear hb); (try clear hb2); (try clear hk); (try clear hi)) | ((with_reducible refine gate_callee (f := 47) rfl ?_); refine goesL_ (some 33) rfl rfl Try.func47 (by kernel_rfl) rfl #[.int .i64 a1] rfl (by (try simp only [List.map_toArray, List.map_cons, List.map_nil]); first | done | rfl | (simp only [List.length_drop, List.length_take]; rfl)) ?_; (with_reducible refine (foolscapref01_Size.calls a1 t217 _ A16.out).mono ?_); rintro e w19 ⟨rfl, hb⟩; refine ⟨_, rfl, ?_⟩; have n0_ := Aside0.mk (below_step (by repeat (first | (with_reducible first | exact HB.out | apply below_alloc | apply pw_below_drewN | apply below_drew1) | exact HB.out)) hb); clear HB; have HB := n0_; clear n0_; (try clear hb); (try clear hb2); (try clear hk); (try clear hi)) | ((with_reducible refine gate_callee (f := 69) rfl ?_); refine goesL_ (some 38) rfl rfl Try.func69 (by kernel_rfl) rfl #[.int .i64 (wrap64 (a0 - (wrap64 ((Int.tmod a0 t216) - t217))))] rfl (by (try simp only [List.map_toArray, List.map_cons, List.map_nil]); first | done | rfl | (simp only [List.length_drop, List.length_take]; rfl)) ?_; (with_reducible refine (foolscapref15_told.calls (wrap64 (a0 - (wrap64 ((Int.tmod a0 t216) - t217)))) t218 t219 _ A17.out).mono ?_); rintro e w' ⟨rfl, ⟨nd, rfl⟩⟩; refine ⟨_, rfl, ?_⟩))
                      go_ret2
                      exact ⟨by first | rfl | (simp [errW_none, errW_some] <;> rfl) | (simp [*, errW_none, errW_some] <;> rfl), by repeat (first | (with_reducible first | exact HB.out | apply below_alloc | apply pw_below_drewN | apply below_drew1) | exact HB.out)⟩
                    · rw [if_neg c15] at H
                      have c15b0 : decide (0 < (Int.tmod a0 t216)) = false := decide_eq_false c15
                      clear c15
                      replace H := Option.bind_eq_some_iff.mp H
                      obtain ⟨⟨t220, t221⟩, A200, H⟩ := H
                      replace H : (some (t220, t221)) = some (r1, r2) := H
                      have A20 := Aside0.mk A200
                      clear A200
                      simp only [Option.some.injEq, Prod.mk.injEq] at H
                      obtain ⟨rfl, rfl⟩ := H
                      go_wp2_with (first | ((with_reducible refine gate_callee (f := 47) rfl ?_); refine goesL_ (some 27) rfl rfl Try.func47 (by kernel_rfl) rfl #[.int .i64 a1] rfl (by (try simp only [List.map_toArray, List.map_cons, List.map_nil]); first | done | rfl | (simp only [List.length_drop, List.length_take]; rfl)) ?_; (with_reducible refine (foolscapref01_Size.calls a1 t216 _ A13.out).mono ?_); rintro e w21 ⟨rfl, hb⟩; refine ⟨_, rfl, ?_⟩; have n0_ := Aside0.mk (below_step (by repeat (first | (with_reducible first | exact HB.out | apply below_alloc | apply pw_below_drewN | apply below_drew1) | exact HB.out)) hb); clear HB; have HB := n0_; clear n0_; (try clear hb); (try clear hb2); (try clear hk); (try clear hi)) | ((with_reducible refine gate_callee (f := 69) rfl ?_); refine goesL_ (some 38) rfl rfl Try.func69 (by kernel_rfl) rfl #[.int .i64 (wrap64 (a0 - (Int.tmod a0 t216)))] rfl (by (try simp only [List.map_toArray, List.map_cons, List.map_nil]); first | done | rfl | (simp only [List.length_drop, List.length_take]; rfl)) ?_; (with_reducible refine (foolscapref15_told.calls (wrap64 (a0 - (Int.tmod a0 t216))) t220 t221 _ A20.out).mono ?_); rintro e w' ⟨rfl, ⟨nd, rfl⟩⟩; refine ⟨_, rfl, ?_⟩))
                      go_ret2
                      exact ⟨by first | rfl | (simp [errW_none, errW_some] <;> rfl) | (simp [*, errW_none, errW_some] <;> rfl), by repeat (first | (with_reducible first | exact HB.out | apply below_alloc | apply pw_below_drewN | apply below_drew1) | exact HB.out)⟩

end Go.Proofs.Ytklkanaabmehkaa.PR
