-- Written by this session's own program xprint.py, over the translation. Not trusted: Lean checks it.
import Derived.Test.YtklkanaabmehkaaPPx0
import Derived.Test.YtklkanaabmehkaaPPx1
import Derived.Test.YtklkanaabmehkaaPPx2
import Derived.Test.YtklkanaabmehkaaPPx6
import Derived.Test.YtklkanaabmehkaaPPx9
namespace Go.Proofs.Ytklkanaabmehkaa.PP
open Go.RowKit Go.Proofs.YtklkanaabmehkaaW.PrintWords Go.Proofs.YtklkanaabmehkaaW.PrintLast Go.Proofs.YtklkanaabmehkaaW.PrintMore
attribute [local go_sem] max2_int min2_int max_two min_two max_three min_three max_four min_four   -- for this text's walks alone
set_option linter.unusedVariables false
set_option linter.unusedSimpArgs false

/-! ### foolscaplaw15_MathsRoot: function 4 -/
def foolscaplaw15_MathsRoot.j0 : Nat → Int → Int → Int → Bool → Option (Bool)
  | 0, _, _, _, _ => none
  | k + 1, x0, x1, x5, x65 => if x65 = true then (some false) else ((maths_Root.f k x1).bind fun bt245 => (if bt245.2 = 0 then (if x0 > x1 then ((foolscaplaw15_lives.f k).bind fun t247 => (some t247)) else (if x5 ≤ bt245.1 then ((foolscaplaw15_lives.f k).bind fun t248 => (some t248)) else (some false))) else ((foolscaplaw15_lives.f k).bind fun t249 => (some t249))))
def foolscaplaw15_MathsRoot.f (k : Nat) (a0 : Int) (a1 : Int) : Option (Bool) := (maths_Root.f k a0).bind fun bt237 => (if bt237.2 = 0 then ((num_Mul.f k bt237.1 bt237.1).bind fun bt242 => (if bt237.1 < 0 then (foolscaplaw15_MathsRoot.j0 k a0 a1 bt237.1 true) else (if bt242.2 = 0 then ((foolscaplaw15_size.f (wrap64 (bt242.1 - a0))).bind fun t244 => (foolscaplaw15_MathsRoot.j0 k a0 a1 bt237.1 (decide (t244 > (wrap64 ((wrap64 (Int.tdiv bt237.1 1000000)) + 1)))))) else (if a0 < 999999000000000000 then (foolscaplaw15_MathsRoot.j0 k a0 a1 bt237.1 true) else (foolscaplaw15_MathsRoot.j0 k a0 a1 bt237.1 false))))) else (if bt237.1 = 0 then (if bt237.2 = 5 then (if a0 < 0 then ((foolscaplaw15_lives.f k).bind fun t239 => (some t239)) else ((num_Fits.f a0).bind fun t240 => (if t240 = true then (some false) else ((foolscaplaw15_lives.f k).bind fun t241 => (some t241))))) else (some false)) else (some false)))
theorem foolscaplaw15_MathsRoot.mono_l : ∀ k, (∀ y0 y1 y2 y3, LeO (foolscaplaw15_MathsRoot.j0 k y0 y1 y2 y3) (foolscaplaw15_MathsRoot.j0 (k + 1) y0 y1 y2 y3))
  | 0 => fun _ _ _ _ r h => by simp [foolscaplaw15_MathsRoot.j0] at h
  | k + 1 => by
    have ih0 := foolscaplaw15_MathsRoot.mono_l k
    · intro y0 y1 y2 y3
      unfold foolscaplaw15_MathsRoot.j0
      repeat' first
      | (with_reducible exact ih0 _ _ _ _)
      | (with_reducible exact foolscaplaw15_lives.mono _)
      | (with_reducible exact maths_Root.mono _ _)
      | (with_reducible exact num_Mul.mono _ _ _)
      | (with_reducible exact LeO.refl _)
      | (with_reducible exact LeO.none _)
      | (with_reducible refine LeO.ite ?_ ?_)
      | (with_reducible refine LeO.bind ?_ (fun _ => ?_))
      | exact ih0 _ _ _ _
      | exact foolscaplaw15_lives.mono _
      | exact maths_Root.mono _ _
      | exact num_Mul.mono _ _ _
      | exact LeO.none _
      | refine LeO.ite ?_ ?_
      | refine LeO.bind ?_ (fun _ => ?_)
theorem foolscaplaw15_MathsRoot.mono : ∀ a0 a1 k, LeO (foolscaplaw15_MathsRoot.f k a0 a1) (foolscaplaw15_MathsRoot.f (k + 1) a0 a1) := by
  intro a0 a1 k
  have ih0 := foolscaplaw15_MathsRoot.mono_l k
  unfold foolscaplaw15_MathsRoot.f
  repeat' first
      | (with_reducible exact ih0 _ _ _ _)
      | (with_reducible exact foolscaplaw15_lives.mono _)
      | (with_reducible exact maths_Root.mono _ _)
      | (with_reducible exact num_Mul.mono _ _ _)
      | (with_reducible exact LeO.refl _)
      | (with_reducible exact LeO.none _)
      | (with_reducible refine LeO.ite ?_ ?_)
      | (with_reducible refine LeO.bind ?_ (fun _ => ?_))
      | exact ih0 _ _ _ _
      | exact foolscaplaw15_lives.mono _
      | exact maths_Root.mono _ _
      | exact num_Mul.mono _ _ _
      | exact LeO.none _
      | refine LeO.ite ?_ ?_
      | refine LeO.bind ?_ (fun _ => ?_)
set_option maxHeartbeats 8000000 in
set_option maxRecDepth 100000 in
theorem foolscaplaw15_MathsRoot.calls (k : Nat) (a0 : Int) (a1 : Int) (r : Bool) (w : World) (h : foolscaplaw15_MathsRoot.f k a0 a1 = some r) (hR_ : r = true) :
    Calls Try.prog 4 #[.int .i64 a0, .int .i64 a1] w fun e w' => e = .returned (.bool r) ∧ Below w.heap.size w w' := by
  have HR_ := Aside0.mk hR_
  clear hR_
  have HB := Aside0.mk (Below.refl w.heap.size w)
  have H : ((maths_Root.f k a0).bind fun bt237 => (if bt237.2 = 0 then ((num_Mul.f k bt237.1 bt237.1).bind fun bt242 => (if bt237.1 < 0 then (foolscaplaw15_MathsRoot.j0 k a0 a1 bt237.1 true) else (if bt242.2 = 0 then ((foolscaplaw15_size.f (wrap64 (bt242.1 - a0))).bind fun t244 => (foolscaplaw15_MathsRoot.j0 k a0 a1 bt237.1 (decide (t244 > (wrap64 ((wrap64 (Int.tdiv bt237.1 1000000)) + 1)))))) else (if a0 < 999999000000000000 then (foolscaplaw15_MathsRoot.j0 k a0 a1 bt237.1 true) else (foolscaplaw15_MathsRoot.j0 k a0 a1 bt237.1 false))))) else (if bt237.1 = 0 then (if bt237.2 = 5 then (if a0 < 0 then ((foolscaplaw15_lives.f k).bind fun t239 => (some t239)) else ((num_Fits.f a0).bind fun t240 => (if t240 = true then (some false) else ((foolscaplaw15_lives.f k).bind fun t241 => (some t241))))) else (some false)) else (some false)))) = some r := h
  clear h
  replace H := Option.bind_eq_some_iff.mp H
  obtain ⟨⟨t237, t238⟩, A30, H⟩ := H
  replace H : (if t238 = 0 then ((num_Mul.f k t237 t237).bind fun bt242 => (if t237 < 0 then (foolscaplaw15_MathsRoot.j0 k a0 a1 t237 true) else (if bt242.2 = 0 then ((foolscaplaw15_size.f (wrap64 (bt242.1 - a0))).bind fun t244 => (foolscaplaw15_MathsRoot.j0 k a0 a1 t237 (decide (t244 > (wrap64 ((wrap64 (Int.tdiv t237 1000000)) + 1)))))) else (if a0 < 999999000000000000 then (foolscaplaw15_MathsRoot.j0 k a0 a1 t237 true) else (foolscaplaw15_MathsRoot.j0 k a0 a1 t237 false))))) else (if t237 = 0 then (if t238 = 5 then (if a0 < 0 then ((foolscaplaw15_lives.f k).bind fun t239 => (some t239)) else ((num_Fits.f a0).bind fun t240 => (if t240 = true then (some false) else ((foolscaplaw15_lives.f k).bind fun t241 => (some t241))))) else (some false)) else (some false))) = some r := H
  have A3 := Aside0.mk A30
  clear A30
  by_cases c4 : t238 = 0
  · rw [if_pos c4] at H
    have c4b0 : (t238 == 0) = true := beq_iff_eq.mpr c4
    have c4b1 : (t238 != 0) = false := bne_eq_false_iff_eq.mpr c4
    clear c4
    replace H := Option.bind_eq_some_iff.mp H
    obtain ⟨⟨t242, t243⟩, A50, H⟩ := H
    replace H : (if t237 < 0 then (foolscaplaw15_MathsRoot.j0 k a0 a1 t237 true) else (if t243 = 0 then ((foolscaplaw15_size.f (wrap64 (t242 - a0))).bind fun t244 => (foolscaplaw15_MathsRoot.j0 k a0 a1 t237 (decide (t244 > (wrap64 ((wrap64 (Int.tdiv t237 1000000)) + 1)))))) else (if a0 < 999999000000000000 then (foolscaplaw15_MathsRoot.j0 k a0 a1 t237 true) else (foolscaplaw15_MathsRoot.j0 k a0 a1 t237 false)))) = some r := H
    have A5 := Aside0.mk A50
    clear A50
    have HC6 := Aside0.mk H
    clear H
    go_enter Try.func4, Try.ntmps4
    go_upto_region 5 with (first | ((with_reducible refine gate_callee (f := 14) rfl ?_); refine goesL_ (some 13) rfl rfl Try.func14 (by kernel_rfl) rfl #[.int .i64 a0] rfl (by (try simp only [List.map_toArray, List.map_cons, List.map_nil]); first | done | rfl | (simp only [List.length_drop, List.length_take]; rfl)) ?_; (with_reducible refine (maths_Root.calls k a0 t237 t238 _ A3.out).mono ?_); rintro e w7 ⟨rfl, hb⟩; refine ⟨_, rfl, ?_⟩; have n0_ := Aside0.mk (below_step (by repeat (first | (with_reducible first | exact HB.out | apply below_alloc | apply pw_below_drewN | apply below_drew1) | exact HB.out)) hb); clear HB; have HB := n0_; clear n0_; (try clear hb); (try clear hb2); (try clear hk); (try clear hi)) | ((with_reducible refine gate_callee (f := 20) rfl ?_); refine goesL_ (some 39) rfl rfl Try.func20 (by kernel_rfl) rfl #[.int .i64 t237, .int .i64 t237] rfl (by (try simp only [List.map_toArray, List.map_cons, List.map_nil]); first | done | rfl | (simp only [List.length_drop, List.length_take]; rfl)) ?_; (with_reducible refine (num_Mul.calls k t237 t237 t242 t243 _ A5.out).mono ?_); rintro e w8 ⟨rfl, hb⟩; refine ⟨_, rfl, ?_⟩; have n0_ := Aside0.mk (below_step (by repeat (first | (with_reducible first | exact HB.out | apply below_alloc | apply pw_below_drewN | apply below_drew1) | exact HB.out)) hb); clear HB; have HB := n0_; clear n0_; (try clear hb); (try clear hb2); (try clear hk); (try clear hi)))
    (try simp only [Act.put, List.setIfInBounds_toArray, List.set_cons_zero, List.set_cons_succ])
    go_cut [65] (fun v65 wc => ∃ (kq : Nat) (x65_5 : Bool), v65 = .bool x65_5 ∧ Aside0 (foolscaplaw15_MathsRoot.j0 kq a0 a1 t237 x65_5 = some r) ∧ Aside0 (kq ≤ k) ∧ Aside0 (Below w.heap.size w wc))
    case first =>
      have H := HC6.out
      clear HC6
      by_cases c9 : t237 < 0
      · rw [if_pos c9] at H
        have c9b0 : decide (t237 < 0) = true := decide_eq_true c9
        clear c9
        (first | rw [c9b0] | (simp only [i64_w, i32_w]; rw [c9b0]) | skip)
        have H' := Aside0.mk H
        clear H
        go_wp2
        go_meet
        case rel => exact ⟨_, (true), (by first | rfl | (simp; done) | (simp [*]; done)), H', ⟨by first | omega | exact Nat.le_refl _⟩, ⟨by repeat (first | (with_reducible first | exact HB.out | apply below_alloc | apply pw_below_drewN | apply below_drew1) | exact HB.out)⟩⟩
      · rw [if_neg c9] at H
        have c9b0 : decide (t237 < 0) = false := decide_eq_false c9
        clear c9
        (first | rw [c9b0] | (simp only [i64_w, i32_w]; rw [c9b0]) | skip)
        by_cases c10 : t243 = 0
        · rw [if_pos c10] at H
          have c10b0 : (t243 == 0) = true := beq_iff_eq.mpr c10
          have c10b1 : (t243 != 0) = false := bne_eq_false_iff_eq.mpr c10
          clear c10
          replace H := Option.bind_eq_some_iff.mp H
          obtain ⟨t244, A110, H⟩ := H
          replace H : (foolscaplaw15_MathsRoot.j0 k a0 a1 t237 (decide (t244 > (wrap64 ((wrap64 (Int.tdiv t237 1000000)) + 1))))) = some r := H
          have A11 := Aside0.mk A110
          clear A110
          have H' := Aside0.mk H
          clear H
          go_wp2_with (first | (go_at_call 21; (with_reducible refine (foolscaplaw15_size.calls (wrap64 (t242 - a0)) t244 _ A11.out).mono ?_); rintro e w12 ⟨rfl, hb⟩; have n0_ := Aside0.mk (below_step (by repeat (first | (with_reducible first | exact HB.out | apply below_alloc | apply pw_below_drewN | apply below_drew1) | exact HB.out)) hb); clear HB; have HB := n0_; clear n0_; (try clear hb); (try clear hb2); (try clear hk); (try clear hi)))
          go_meet
          case rel => exact ⟨_, (decide (t244 > (wrap64 ((wrap64 (Int.tdiv t237 1000000)) + 1)))), (by first | rfl | (simp; done) | (simp [*]; done)), H', ⟨by first | omega | exact Nat.le_refl _⟩, ⟨by repeat (first | (with_reducible first | exact HB.out | apply below_alloc | apply pw_below_drewN | apply below_drew1) | exact HB.out)⟩⟩
        · rw [if_neg c10] at H
          have c10b0 : (t243 == 0) = false := beq_eq_false_iff_ne.mpr c10
          have c10b1 : (t243 != 0) = true := bne_iff_ne.mpr c10
          by_cases c13 : a0 < 999999000000000000
          · rw [if_pos c13] at H
            have c13b0 : decide (a0 < 999999000000000000) = true := decide_eq_true c13
            clear c13
            have H' := Aside0.mk H
            clear H
            go_wp2
            go_meet
            case rel => exact ⟨_, (true), (by first | rfl | (simp; done) | (simp [*]; done)), H', ⟨by first | omega | exact Nat.le_refl _⟩, ⟨by repeat (first | (with_reducible first | exact HB.out | apply below_alloc | apply pw_below_drewN | apply below_drew1) | exact HB.out)⟩⟩
          · rw [if_neg c13] at H
            have c13b0 : decide (a0 < 999999000000000000) = false := decide_eq_false c13
            clear c13
            have H' := Aside0.mk H
            clear H
            go_wp2
            go_meet
            case rel => exact ⟨_, (false), (by first | rfl | (simp; done) | (simp [*]; done)), H', ⟨by first | omega | exact Nat.le_refl _⟩, ⟨by repeat (first | (with_reducible first | exact HB.out | apply below_alloc | apply pw_below_drewN | apply below_drew1) | exact HB.out)⟩⟩
    case rest =>
      clear HC6
      try clear c1
      try clear c2
      try clear p2
      try clear c4
      try clear c4b0
      try clear c4b1
      try clear p6
      try clear c9
      try clear c9b0
      try clear c10
      try clear c10b0
      try clear c10b1
      try clear c13
      try clear c13b0
      obtain ⟨kq, x65_5, rfl, HA, HJ5, HB⟩ := hcut
      cases kq with
      | zero => exact absurd HA.out (by simp [foolscaplaw15_MathsRoot.j0])
      | succ kj5 =>
        have H := HA.out
        clear HA
        simp only [foolscaplaw15_MathsRoot.j0] at H
        by_cases c14 : x65_5 = true
        · subst c14
          have H1 : (some false) = some r := by rw [if_pos rfl] at H; exact H
          clear H
          have H := H1
          clear H1
          obtain rfl := Option.some.inj H
          exact absurd HR_.out (by decide)
        · replace c14 := Bool.eq_false_iff.mpr c14
          subst c14
          have H1 : ((maths_Root.f kj5 a1).bind fun bt245 => (if bt245.2 = 0 then (if a0 > a1 then ((foolscaplaw15_lives.f kj5).bind fun t247 => (some t247)) else (if t237 ≤ bt245.1 then ((foolscaplaw15_lives.f kj5).bind fun t248 => (some t248)) else (some false))) else ((foolscaplaw15_lives.f kj5).bind fun t249 => (some t249)))) = some r := by rw [if_neg (show ¬ (false = true) by decide)] at H; exact H
          clear H
          have H := H1
          clear H1
          replace H := Option.bind_eq_some_iff.mp H
          obtain ⟨⟨t245, t246⟩, A150, H⟩ := H
          replace H : (if t246 = 0 then (if a0 > a1 then ((foolscaplaw15_lives.f kj5).bind fun t247 => (some t247)) else (if t237 ≤ t245 then ((foolscaplaw15_lives.f kj5).bind fun t248 => (some t248)) else (some false))) else ((foolscaplaw15_lives.f kj5).bind fun t249 => (some t249))) = some r := H
          have A15 := Aside0.mk A150
          clear A150
          by_cases c16 : t246 = 0
          · rw [if_pos c16] at H
            have c16b0 : (t246 == 0) = true := beq_iff_eq.mpr c16
            have c16b1 : (t246 != 0) = false := bne_eq_false_iff_eq.mpr c16
            clear c16
            by_cases c17 : a0 > a1
            · rw [if_pos c17] at H
              have c17b0 : decide (a1 < a0) = true := decide_eq_true c17
              clear c17
              replace H := Option.bind_eq_some_iff.mp H
              obtain ⟨t247, A180, H⟩ := H
              replace H : (some t247) = some r := H
              have A18 := Aside0.mk A180
              clear A180
              obtain rfl := Option.some.inj H
              simp only [Option.some.injEq, Prod.mk.injEq] at H
              obtain ⟨rfl⟩ := H
              go_wp2_with (first | ((with_reducible refine gate_callee (f := 14) rfl ?_); refine goesL_ (some 68) rfl rfl Try.func14 (by kernel_rfl) rfl #[.int .i64 a1] rfl (by (try simp only [List.map_toArray, List.map_cons, List.map_nil]); first | done | rfl | (simp only [List.length_drop, List.length_take]; rfl)) ?_; (with_reducible refine (maths_Root.calls kj5 a1 t245 t246 _ A15.out).mono ?_); rintro e w19 ⟨rfl, hb⟩; refine ⟨_, rfl, ?_⟩; have n0_ := Aside0.mk (below_step (by repeat (first | (with_reducible first | exact HB.out | apply below_alloc | apply pw_below_drewN | apply below_drew1) | exact HB.out)) hb); clear HB; have HB := n0_; clear n0_; (try clear hb); (try clear hb2); (try clear hk); (try clear hi)) | (go_at_call 18; (with_reducible refine (foolscaplaw15_lives.calls kj5  t247 _ A18.out).mono ?_); rintro e w20 ⟨rfl, hb⟩; have n0_ := Aside0.mk (below_step (by repeat (first | (with_reducible first | exact HB.out | apply below_alloc | apply pw_below_drewN | apply below_drew1) | exact HB.out)) hb); clear HB; have HB := n0_; clear n0_; (try clear hb); (try clear hb2); (try clear hk); (try clear hi)))
              go_ret
              exact ⟨by first | rfl | (simp [errW_none, errW_some] <;> rfl) | (simp [*, errW_none, errW_some] <;> rfl), by repeat (first | (with_reducible first | exact HB.out | apply below_alloc | apply pw_below_drewN | apply below_drew1) | exact HB.out)⟩
            · rw [if_neg c17] at H
              have c17b0 : decide (a1 < a0) = false := decide_eq_false c17
              clear c17
              by_cases c21 : t237 ≤ t245
              · rw [if_pos c21] at H
                have c21b0 : decide (t237 ≤ t245) = true := decide_eq_true c21
                clear c21
                replace H := Option.bind_eq_some_iff.mp H
                obtain ⟨t248, A220, H⟩ := H
                replace H : (some t248) = some r := H
                have A22 := Aside0.mk A220
                clear A220
                obtain rfl := Option.some.inj H
                simp only [Option.some.injEq, Prod.mk.injEq] at H
                obtain ⟨rfl⟩ := H
                go_wp2_with (first | ((with_reducible refine gate_callee (f := 14) rfl ?_); refine goesL_ (some 68) rfl rfl Try.func14 (by kernel_rfl) rfl #[.int .i64 a1] rfl (by (try simp only [List.map_toArray, List.map_cons, List.map_nil]); first | done | rfl | (simp only [List.length_drop, List.length_take]; rfl)) ?_; (with_reducible refine (maths_Root.calls kj5 a1 t245 t246 _ A15.out).mono ?_); rintro e w23 ⟨rfl, hb⟩; refine ⟨_, rfl, ?_⟩; have n0_ := Aside0.mk (below_step (by repeat (first | (with_reducible first | exact HB.out | apply below_alloc | apply pw_below_drewN | apply below_drew1) | exact HB.out)) hb); clear HB; have HB := n0_; clear n0_; (try clear hb); (try clear hb2); (try clear hk); (try clear hi)) | (go_at_call 18; (with_reducible refine (foolscaplaw15_lives.calls kj5  t248 _ A22.out).mono ?_); rintro e w24 ⟨rfl, hb⟩; have n0_ := Aside0.mk (below_step (by repeat (first | (with_reducible first | exact HB.out | apply below_alloc | apply pw_below_drewN | apply below_drew1) | exact HB.out)) hb); clear HB; have HB := n0_; clear n0_; (try clear hb); (try clear hb2); (try clear hk); (try clear hi)))
                go_ret
                exact ⟨by first | rfl | (simp [errW_none, errW_some] <;> rfl) | (simp [*, errW_none, errW_some] <;> rfl), by repeat (first | (with_reducible first | exact HB.out | apply below_alloc | apply pw_below_drewN | apply below_drew1) | exact HB.out)⟩
              · rw [if_neg c21] at H
                have c21b0 : decide (t237 ≤ t245) = false := decide_eq_false c21
                clear c21
                obtain rfl := Option.some.inj H
                exact absurd HR_.out (by decide)
          · rw [if_neg c16] at H
            have c16b0 : (t246 == 0) = false := beq_eq_false_iff_ne.mpr c16
            have c16b1 : (t246 != 0) = true := bne_iff_ne.mpr c16
            replace H := Option.bind_eq_some_iff.mp H
            obtain ⟨t249, A250, H⟩ := H
            replace H : (some t249) = some r := H
            have A25 := Aside0.mk A250
            clear A250
            obtain rfl := Option.some.inj H
            simp only [Option.some.injEq, Prod.mk.injEq] at H
            obtain ⟨rfl⟩ := H
            go_wp2_with (first | ((with_reducible refine gate_callee (f := 14) rfl ?_); refine goesL_ (some 68) rfl rfl Try.func14 (by kernel_rfl) rfl #[.int .i64 a1] rfl (by (try simp only [List.map_toArray, List.map_cons, List.map_nil]); first | done | rfl | (simp only [List.length_drop, List.length_take]; rfl)) ?_; (with_reducible refine (maths_Root.calls kj5 a1 t245 t246 _ A15.out).mono ?_); rintro e w26 ⟨rfl, hb⟩; refine ⟨_, rfl, ?_⟩; have n0_ := Aside0.mk (below_step (by repeat (first | (with_reducible first | exact HB.out | apply below_alloc | apply pw_below_drewN | apply below_drew1) | exact HB.out)) hb); clear HB; have HB := n0_; clear n0_; (try clear hb); (try clear hb2); (try clear hk); (try clear hi)) | (go_at_call 18; (with_reducible refine (foolscaplaw15_lives.calls kj5  t249 _ A25.out).mono ?_); rintro e w27 ⟨rfl, hb⟩; have n0_ := Aside0.mk (below_step (by repeat (first | (with_reducible first | exact HB.out | apply below_alloc | apply pw_below_drewN | apply below_drew1) | exact HB.out)) hb); clear HB; have HB := n0_; clear n0_; (try clear hb); (try clear hb2); (try clear hk); (try clear hi)))
            go_ret
            exact ⟨by first | rfl | (simp [errW_none, errW_some] <;> rfl) | (simp [*, errW_none, errW_some] <;> rfl), by repeat (first | (with_reducible first | exact HB.out | apply below_alloc | apply pw_below_drewN | apply below_drew1) | exact HB.out)⟩
  · rw [if_neg c4] at H
    have c4b0 : (t238 == 0) = false := beq_eq_false_iff_ne.mpr c4
    have c4b1 : (t238 != 0) = true := bne_iff_ne.mpr c4
    by_cases c28 : t237 = 0
    · rw [if_pos c28] at H
      have c28b0 : (t237 == 0) = true := beq_iff_eq.mpr c28
      have c28b1 : (t237 != 0) = false := bne_eq_false_iff_eq.mpr c28
      clear c28
      by_cases c29 : t238 = 5
      · rw [if_pos c29] at H
        have c29b0 : (t238 == 5) = true := beq_iff_eq.mpr c29
        have c29b1 : (t238 != 5) = false := bne_eq_false_iff_eq.mpr c29
        clear c29
        by_cases c30 : a0 < 0
        · rw [if_pos c30] at H
          have c30b0 : decide (a0 < 0) = true := decide_eq_true c30
          clear c30
          replace H := Option.bind_eq_some_iff.mp H
          obtain ⟨t239, A310, H⟩ := H
          replace H : (some t239) = some r := H
          have A31 := Aside0.mk A310
          clear A310
          obtain rfl := Option.some.inj H
          simp only [Option.some.injEq, Prod.mk.injEq] at H
          obtain ⟨rfl⟩ := H
          go_enter Try.func4, Try.ntmps4
          go_wp2_with (first | ((with_reducible refine gate_callee (f := 14) rfl ?_); refine goesL_ (some 13) rfl rfl Try.func14 (by kernel_rfl) rfl #[.int .i64 a0] rfl (by (try simp only [List.map_toArray, List.map_cons, List.map_nil]); first | done | rfl | (simp only [List.length_drop, List.length_take]; rfl)) ?_; (with_reducible refine (maths_Root.calls k a0 t237 t238 _ A3.out).mono ?_); rintro e w32 ⟨rfl, hb⟩; refine ⟨_, rfl, ?_⟩; have n0_ := Aside0.mk (below_step (by repeat (first | (with_reducible first | exact HB.out | apply below_alloc | apply pw_below_drewN | apply below_drew1) | exact HB.out)) hb); clear HB; have HB := n0_; clear n0_; (try clear hb); (try clear hb2); (try clear hk); (try clear hi)) | (go_at_call 18; (with_reducible refine (foolscaplaw15_lives.calls k  t239 _ A31.out).mono ?_); rintro e w33 ⟨rfl, hb⟩; have n0_ := Aside0.mk (below_step (by repeat (first | (with_reducible first | exact HB.out | apply below_alloc | apply pw_below_drewN | apply below_drew1) | exact HB.out)) hb); clear HB; have HB := n0_; clear n0_; (try clear hb); (try clear hb2); (try clear hk); (try clear hi)))
          go_ret
          exact ⟨by first | rfl | (simp [errW_none, errW_some] <;> rfl) | (simp [*, errW_none, errW_some] <;> rfl), by repeat (first | (with_reducible first | exact HB.out | apply below_alloc | apply pw_below_drewN | apply below_drew1) | exact HB.out)⟩
        · rw [if_neg c30] at H
          have c30b0 : decide (a0 < 0) = false := decide_eq_false c30
          clear c30
          replace H := Option.bind_eq_some_iff.mp H
          obtain ⟨t240, A340, H⟩ := H
          replace H : (if t240 = true then (some false) else ((foolscaplaw15_lives.f k).bind fun t241 => (some t241))) = some r := H
          have A34 := Aside0.mk A340
          clear A340
          by_cases c35 : t240 = true
          · subst c35
            have H1 : (some false) = some r := by rw [if_pos rfl] at H; exact H
            clear H
            have H := H1
            clear H1
            obtain rfl := Option.some.inj H
            exact absurd HR_.out (by decide)
          · replace c35 := Bool.eq_false_iff.mpr c35
            subst c35
            have H1 : ((foolscaplaw15_lives.f k).bind fun t241 => (some t241)) = some r := by rw [if_neg (show ¬ (false = true) by decide)] at H; exact H
            clear H
            have H := H1
            clear H1
            replace H := Option.bind_eq_some_iff.mp H
            obtain ⟨t241, A360, H⟩ := H
            replace H : (some t241) = some r := H
            have A36 := Aside0.mk A360
            clear A360
            obtain rfl := Option.some.inj H
            simp only [Option.some.injEq, Prod.mk.injEq] at H
            obtain ⟨rfl⟩ := H
            go_enter Try.func4, Try.ntmps4
            go_wp2_with (first | ((with_reducible refine gate_callee (f := 14) rfl ?_); refine goesL_ (some 13) rfl rfl Try.func14 (by kernel_rfl) rfl #[.int .i64 a0] rfl (by (try simp only [List.map_toArray, List.map_cons, List.map_nil]); first | done | rfl | (simp only [List.length_drop, List.length_take]; rfl)) ?_; (with_reducible refine (maths_Root.calls k a0 t237 t238 _ A3.out).mono ?_); rintro e w37 ⟨rfl, hb⟩; refine ⟨_, rfl, ?_⟩; have n0_ := Aside0.mk (below_step (by repeat (first | (with_reducible first | exact HB.out | apply below_alloc | apply pw_below_drewN | apply below_drew1) | exact HB.out)) hb); clear HB; have HB := n0_; clear n0_; (try clear hb); (try clear hb2); (try clear hk); (try clear hi)) | (go_at_call 19; (with_reducible refine (num_Fits.calls a0 false _ A34.out).mono ?_); rintro e w' ⟨rfl, ⟨nd, rfl⟩⟩) | (go_at_call 18; (with_reducible refine (foolscaplaw15_lives.calls k  t241 _ A36.out).mono ?_); rintro e w38 ⟨rfl, hb⟩; have n0_ := Aside0.mk (below_step (by repeat (first | (with_reducible first | exact HB.out | apply below_alloc | apply pw_below_drewN | apply below_drew1) | exact HB.out)) hb); clear HB; have HB := n0_; clear n0_; (try clear hb); (try clear hb2); (try clear hk); (try clear hi)))
            go_ret
            exact ⟨by first | rfl | (simp [errW_none, errW_some] <;> rfl) | (simp [*, errW_none, errW_some] <;> rfl), by repeat (first | (with_reducible first | exact HB.out | apply below_alloc | apply pw_below_drewN | apply below_drew1) | exact HB.out)⟩
      · rw [if_neg c29] at H
        have c29b0 : (t238 == 5) = false := beq_eq_false_iff_ne.mpr c29
        have c29b1 : (t238 != 5) = true := bne_iff_ne.mpr c29
        obtain rfl := Option.some.inj H
        exact absurd HR_.out (by decide)
    · rw [if_neg c28] at H
      have c28b0 : (t237 == 0) = false := beq_eq_false_iff_ne.mpr c28
      have c28b1 : (t237 != 0) = true := bne_iff_ne.mpr c28
      obtain rfl := Option.some.inj H
      exact absurd HR_.out (by decide)

/-- THE ONE PURE STATEMENT of foolscaplaw15_MathsRoot: yours. -/
def foolscaplaw15_MathsRoot.Pure : Prop := ∀ (a0 : Int) (a1 : Int), (Lit.int .i64 a0).wf = true → (Lit.int .i64 a1).wf = true → ∃ k, foolscaplaw15_MathsRoot.f k a0 a1 = some true
theorem foolscaplaw15_MathsRoot.walk (P : foolscaplaw15_MathsRoot.Pure) (a0 : Int) (a1 : Int) (w : World) (w0 : (Lit.int .i64 a0).wf = true) (w1 : (Lit.int .i64 a1).wf = true) :
    Calls Try.prog 4 #[.int .i64 a0, .int .i64 a1] w fun e w' => e = .returned (.bool true) ∧ Below w.heap.size w w' := by
  obtain ⟨k, h⟩ := P a0 a1 w0 w1
  refine (foolscaplaw15_MathsRoot.calls k a0 a1 true w h rfl).mono ?_
  rintro e w' ⟨rfl, hd⟩
  exact ⟨rfl, hd⟩

/-! ### foolscaplaw15_MathsSquares: function 5 -/
def foolscaplaw15_MathsSquares.j0 : Nat → Int → Bool → Option (Bool)
  | 0, _, _ => none
  | k + 1, x0, x12 => if x12 = true then ((foolscaplaw15_lives.f k).bind fun t250 => (some t250)) else ((maths_Root.f k (wrap64 ((wrap64 (x0 * x0)) * 1000000))).bind fun bt251 => ((maths_Power.f k (wrap64 (x0 * 1000000)) 2000000).bind fun bt253 => (if bt251.1 = (wrap64 (x0 * 1000000)) then (if bt251.2 = 0 then (if bt253.1 = (wrap64 ((wrap64 (x0 * x0)) * 1000000)) then (if bt253.2 = 0 then ((foolscaplaw15_lives.f k).bind fun t255 => (some t255)) else (some false)) else (some false)) else (some false)) else (some false))))
def foolscaplaw15_MathsSquares.f (k : Nat) (a0 : Int) : Option (Bool) := if a0 < 0 then (foolscaplaw15_MathsSquares.j0 k a0 true) else (foolscaplaw15_MathsSquares.j0 k a0 (decide (a0 > 1000000)))
theorem foolscaplaw15_MathsSquares.mono_l : ∀ k, (∀ y0 y1, LeO (foolscaplaw15_MathsSquares.j0 k y0 y1) (foolscaplaw15_MathsSquares.j0 (k + 1) y0 y1))
  | 0 => fun _ _ r h => by simp [foolscaplaw15_MathsSquares.j0] at h
  | k + 1 => by
    have ih0 := foolscaplaw15_MathsSquares.mono_l k
    · intro y0 y1
      unfold foolscaplaw15_MathsSquares.j0
      repeat' first
      | (with_reducible exact ih0 _ _)
      | (with_reducible exact foolscaplaw15_lives.mono _)
      | (with_reducible exact maths_Power.mono _ _ _)
      | (with_reducible exact maths_Root.mono _ _)
      | (with_reducible exact LeO.refl _)
      | (with_reducible exact LeO.none _)
      | (with_reducible refine LeO.ite ?_ ?_)
      | (with_reducible refine LeO.bind ?_ (fun _ => ?_))
      | exact ih0 _ _
      | exact foolscaplaw15_lives.mono _
      | exact maths_Power.mono _ _ _
      | exact maths_Root.mono _ _
      | exact LeO.none _
      | refine LeO.ite ?_ ?_
      | refine LeO.bind ?_ (fun _ => ?_)
theorem foolscaplaw15_MathsSquares.mono : ∀ a0 k, LeO (foolscaplaw15_MathsSquares.f k a0) (foolscaplaw15_MathsSquares.f (k + 1) a0) := by
  intro a0 k
  have ih0 := foolscaplaw15_MathsSquares.mono_l k
  unfold foolscaplaw15_MathsSquares.f
  repeat' first
      | (with_reducible exact ih0 _ _)
      | (with_reducible exact foolscaplaw15_lives.mono _)
      | (with_reducible exact maths_Power.mono _ _ _)
      | (with_reducible exact maths_Root.mono _ _)
      | (with_reducible exact LeO.refl _)
      | (with_reducible exact LeO.none _)
      | (with_reducible refine LeO.ite ?_ ?_)
      | (with_reducible refine LeO.bind ?_ (fun _ => ?_))
      | exact ih0 _ _
      | exact foolscaplaw15_lives.mono _
      | exact maths_Power.mono _ _ _
      | exact maths_Root.mono _ _
      | exact LeO.none _
      | refine LeO.ite ?_ ?_
      | refine LeO.bind ?_ (fun _ => ?_)
set_option maxHeartbeats 8000000 in
set_option maxRecDepth 100000 in
theorem foolscaplaw15_MathsSquares.calls (k : Nat) (a0 : Int) (r : Bool) (w : World) (h : foolscaplaw15_MathsSquares.f k a0 = some r) (hR_ : r = true) :
    Calls Try.prog 5 #[.int .i64 a0] w fun e w' => e = .returned (.bool r) ∧ Below w.heap.size w w' := by
  have HR_ := Aside0.mk hR_
  clear hR_
  have HB := Aside0.mk (Below.refl w.heap.size w)
  have H : (if a0 < 0 then (foolscaplaw15_MathsSquares.j0 k a0 true) else (foolscaplaw15_MathsSquares.j0 k a0 (decide (a0 > 1000000)))) = some r := h
  clear h
  have HC2 := Aside0.mk H
  clear H
  go_enter Try.func5, Try.ntmps5
  go_upto_region 1 with (fail)
  go_cut [12] (fun v12 wc => ∃ (kq : Nat) (x12_1 : Bool), v12 = .bool x12_1 ∧ Aside0 (foolscaplaw15_MathsSquares.j0 kq a0 x12_1 = some r) ∧ Aside0 (kq ≤ k) ∧ Aside0 (Below w.heap.size w wc))
  case first =>
    have H := HC2.out
    clear HC2
    by_cases c3 : a0 < 0
    · rw [if_pos c3] at H
      have c3b0 : decide (a0 < 0) = true := decide_eq_true c3
      clear c3
      (first | rw [c3b0] | (simp only [i64_w, i32_w]; rw [c3b0]) | skip)
      have H' := Aside0.mk H
      clear H
      go_wp2
      go_meet
      case rel => exact ⟨_, (true), (by first | rfl | (simp; done) | (simp [*]; done)), H', ⟨by first | omega | exact Nat.le_refl _⟩, ⟨by repeat (first | (with_reducible first | exact HB.out | apply below_alloc | apply pw_below_drewN | apply below_drew1) | exact HB.out)⟩⟩
    · rw [if_neg c3] at H
      have c3b0 : decide (a0 < 0) = false := decide_eq_false c3
      clear c3
      (first | rw [c3b0] | (simp only [i64_w, i32_w]; rw [c3b0]) | skip)
      have H' := Aside0.mk H
      clear H
      go_wp2
      go_meet
      case rel => exact ⟨_, (decide (a0 > 1000000)), (by first | rfl | (simp; done) | (simp [*]; done)), H', ⟨by first | omega | exact Nat.le_refl _⟩, ⟨by repeat (first | (with_reducible first | exact HB.out | apply below_alloc | apply pw_below_drewN | apply below_drew1) | exact HB.out)⟩⟩
  case rest =>
    clear HC2
    try clear p2
    try clear c3
    try clear c3b0
    obtain ⟨kq, x12_1, rfl, HA, HJ1, HB⟩ := hcut
    cases kq with
    | zero => exact absurd HA.out (by simp [foolscaplaw15_MathsSquares.j0])
    | succ kj1 =>
      have H := HA.out
      clear HA
      simp only [foolscaplaw15_MathsSquares.j0] at H
      by_cases c4 : x12_1 = true
      · subst c4
        have H1 : ((foolscaplaw15_lives.f kj1).bind fun t250 => (some t250)) = some r := by rw [if_pos rfl] at H; exact H
        clear H
        have H := H1
        clear H1
        replace H := Option.bind_eq_some_iff.mp H
        obtain ⟨t250, A50, H⟩ := H
        replace H : (some t250) = some r := H
        have A5 := Aside0.mk A50
        clear A50
        obtain rfl := Option.some.inj H
        simp only [Option.some.injEq, Prod.mk.injEq] at H
        obtain ⟨rfl⟩ := H
        go_wp2_with (first | ((with_reducible refine gate_callee (f := 18) rfl ?_); refine goesL_ (some 13) rfl rfl Try.func18 (by kernel_rfl) rfl #[] rfl (by (try simp only [List.map_toArray, List.map_cons, List.map_nil]); first | done | rfl | (simp only [List.length_drop, List.length_take]; rfl)) ?_; (with_reducible refine (foolscaplaw15_lives.calls kj1  t250 _ A5.out).mono ?_); rintro e w6 ⟨rfl, hb⟩; refine ⟨_, rfl, ?_⟩; have n0_ := Aside0.mk (below_step (by repeat (first | (with_reducible first | exact HB.out | apply below_alloc | apply pw_below_drewN | apply below_drew1) | exact HB.out)) hb); clear HB; have HB := n0_; clear n0_; (try clear hb); (try clear hb2); (try clear hk); (try clear hi)))
        go_ret
        exact ⟨by first | rfl | (simp [errW_none, errW_some] <;> rfl) | (simp [*, errW_none, errW_some] <;> rfl), by repeat (first | (with_reducible first | exact HB.out | apply below_alloc | apply pw_below_drewN | apply below_drew1) | exact HB.out)⟩
      · replace c4 := Bool.eq_false_iff.mpr c4
        subst c4
        have H1 : ((maths_Root.f kj1 (wrap64 ((wrap64 (a0 * a0)) * 1000000))).bind fun bt251 => ((maths_Power.f kj1 (wrap64 (a0 * 1000000)) 2000000).bind fun bt253 => (if bt251.1 = (wrap64 (a0 * 1000000)) then (if bt251.2 = 0 then (if bt253.1 = (wrap64 ((wrap64 (a0 * a0)) * 1000000)) then (if bt253.2 = 0 then ((foolscaplaw15_lives.f kj1).bind fun t255 => (some t255)) else (some false)) else (some false)) else (some false)) else (some false)))) = some r := by rw [if_neg (show ¬ (false = true) by decide)] at H; exact H
        clear H
        have H := H1
        clear H1
        replace H := Option.bind_eq_some_iff.mp H
        obtain ⟨⟨t251, t252⟩, A70, H⟩ := H
        replace H : ((maths_Power.f kj1 (wrap64 (a0 * 1000000)) 2000000).bind fun bt253 => (if t251 = (wrap64 (a0 * 1000000)) then (if t252 = 0 then (if bt253.1 = (wrap64 ((wrap64 (a0 * a0)) * 1000000)) then (if bt253.2 = 0 then ((foolscaplaw15_lives.f kj1).bind fun t255 => (some t255)) else (some false)) else (some false)) else (some false)) else (some false))) = some r := H
        have A7 := Aside0.mk A70
        clear A70
        replace H := Option.bind_eq_some_iff.mp H
        obtain ⟨⟨t253, t254⟩, A80, H⟩ := H
        replace H : (if t251 = (wrap64 (a0 * 1000000)) then (if t252 = 0 then (if t253 = (wrap64 ((wrap64 (a0 * a0)) * 1000000)) then (if t254 = 0 then ((foolscaplaw15_lives.f kj1).bind fun t255 => (some t255)) else (some false)) else (some false)) else (some false)) else (some false)) = some r := H
        have A8 := Aside0.mk A80
        clear A80
        by_cases c9 : t251 = (wrap64 (a0 * 1000000))
        · rw [if_pos c9] at H
          have c9b0 : (t251 == (wrap64 (a0 * 1000000))) = true := beq_iff_eq.mpr c9
          have c9b1 : (t251 != (wrap64 (a0 * 1000000))) = false := bne_eq_false_iff_eq.mpr c9
          clear c9
          by_cases c10 : t252 = 0
          · rw [if_pos c10] at H
            have c10b0 : (t252 == 0) = true := beq_iff_eq.mpr c10
            have c10b1 : (t252 != 0) = false := bne_eq_false_iff_eq.mpr c10
            clear c10
            by_cases c11 : t253 = (wrap64 ((wrap64 (a0 * a0)) * 1000000))
            · rw [if_pos c11] at H
              have c11b0 : (t253 == (wrap64 ((wrap64 (a0 * a0)) * 1000000))) = true := beq_iff_eq.mpr c11
              have c11b1 : (t253 != (wrap64 ((wrap64 (a0 * a0)) * 1000000))) = false := bne_eq_false_iff_eq.mpr c11
              clear c11
              by_cases c12 : t254 = 0
              · rw [if_pos c12] at H
                have c12b0 : (t254 == 0) = true := beq_iff_eq.mpr c12
                have c12b1 : (t254 != 0) = false := bne_eq_false_iff_eq.mpr c12
                clear c12
                replace H := Option.bind_eq_some_iff.mp H
                obtain ⟨t255, A130, H⟩ := H
                replace H : (some t255) = some r := H
                have A13 := Aside0.mk A130
                clear A130
                obtain rfl := Option.some.inj H
                simp only [Option.some.injEq, Prod.mk.injEq] at H
                obtain ⟨rfl⟩ := H
                go_wp2_with (first | ((with_reducible refine gate_callee (f := 14) rfl ?_); refine goesL_ (some 19) rfl rfl Try.func14 (by kernel_rfl) rfl #[.int .i64 (wrap64 ((wrap64 (a0 * a0)) * 1000000))] rfl (by (try simp only [List.map_toArray, List.map_cons, List.map_nil]); first | done | rfl | (simp only [List.length_drop, List.length_take]; rfl)) ?_; (with_reducible refine (maths_Root.calls kj1 (wrap64 ((wrap64 (a0 * a0)) * 1000000)) t251 t252 _ A7.out).mono ?_); rintro e w14 ⟨rfl, hb⟩; refine ⟨_, rfl, ?_⟩; have n0_ := Aside0.mk (below_step (by repeat (first | (with_reducible first | exact HB.out | apply below_alloc | apply pw_below_drewN | apply below_drew1) | exact HB.out)) hb); clear HB; have HB := n0_; clear n0_; (try clear hb); (try clear hb2); (try clear hk); (try clear hi)) | ((with_reducible refine gate_callee (f := 12) rfl ?_); refine goesL_ (some 25) rfl rfl Try.func12 (by kernel_rfl) rfl #[.int .i64 (wrap64 (a0 * 1000000)), .int .i64 2000000] rfl (by (try simp only [List.map_toArray, List.map_cons, List.map_nil]); first | done | rfl | (simp only [List.length_drop, List.length_take]; rfl)) ?_; (with_reducible refine (maths_Power.calls kj1 (wrap64 (a0 * 1000000)) 2000000 t253 t254 _ A8.out).mono ?_); rintro e w15 ⟨rfl, hb⟩; refine ⟨_, rfl, ?_⟩; have n0_ := Aside0.mk (below_step (by repeat (first | (with_reducible first | exact HB.out | apply below_alloc | apply pw_below_drewN | apply below_drew1) | exact HB.out)) hb); clear HB; have HB := n0_; clear n0_; (try clear hb); (try clear hb2); (try clear hk); (try clear hi)) | (go_at_call 18; (with_reducible refine (foolscaplaw15_lives.calls kj1  t255 _ A13.out).mono ?_); rintro e w16 ⟨rfl, hb⟩; have n0_ := Aside0.mk (below_step (by repeat (first | (with_reducible first | exact HB.out | apply below_alloc | apply pw_below_drewN | apply below_drew1) | exact HB.out)) hb); clear HB; have HB := n0_; clear n0_; (try clear hb); (try clear hb2); (try clear hk); (try clear hi)))
                go_ret
                exact ⟨by first | rfl | (simp [errW_none, errW_some] <;> rfl) | (simp [*, errW_none, errW_some] <;> rfl), by repeat (first | (with_reducible first | exact HB.out | apply below_alloc | apply pw_below_drewN | apply below_drew1) | exact HB.out)⟩
              · rw [if_neg c12] at H
                have c12b0 : (t254 == 0) = false := beq_eq_false_iff_ne.mpr c12
                have c12b1 : (t254 != 0) = true := bne_iff_ne.mpr c12
                obtain rfl := Option.some.inj H
                exact absurd HR_.out (by decide)
            · rw [if_neg c11] at H
              have c11b0 : (t253 == (wrap64 ((wrap64 (a0 * a0)) * 1000000))) = false := beq_eq_false_iff_ne.mpr c11
              have c11b1 : (t253 != (wrap64 ((wrap64 (a0 * a0)) * 1000000))) = true := bne_iff_ne.mpr c11
              obtain rfl := Option.some.inj H
              exact absurd HR_.out (by decide)
          · rw [if_neg c10] at H
            have c10b0 : (t252 == 0) = false := beq_eq_false_iff_ne.mpr c10
            have c10b1 : (t252 != 0) = true := bne_iff_ne.mpr c10
            obtain rfl := Option.some.inj H
            exact absurd HR_.out (by decide)
        · rw [if_neg c9] at H
          have c9b0 : (t251 == (wrap64 (a0 * 1000000))) = false := beq_eq_false_iff_ne.mpr c9
          have c9b1 : (t251 != (wrap64 (a0 * 1000000))) = true := bne_iff_ne.mpr c9
          obtain rfl := Option.some.inj H
          exact absurd HR_.out (by decide)

/-- THE ONE PURE STATEMENT of foolscaplaw15_MathsSquares: yours. -/
def foolscaplaw15_MathsSquares.Pure : Prop := ∀ (a0 : Int), (Lit.int .i64 a0).wf = true → ∃ k, foolscaplaw15_MathsSquares.f k a0 = some true
theorem foolscaplaw15_MathsSquares.walk (P : foolscaplaw15_MathsSquares.Pure) (a0 : Int) (w : World) (w0 : (Lit.int .i64 a0).wf = true) :
    Calls Try.prog 5 #[.int .i64 a0] w fun e w' => e = .returned (.bool true) ∧ Below w.heap.size w w' := by
  obtain ⟨k, h⟩ := P a0 w0
  refine (foolscaplaw15_MathsSquares.calls k a0 true w h rfl).mono ?_
  rintro e w' ⟨rfl, hd⟩
  exact ⟨rfl, hd⟩

end Go.Proofs.Ytklkanaabmehkaa.PP
