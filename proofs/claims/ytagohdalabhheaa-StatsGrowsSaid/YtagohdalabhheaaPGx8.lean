-- Written by this session's own programs xprint.py and fixg.py, over the translation. Not trusted: Lean checks it.
import Derived.Test.YtagohdalabhheaaPGx0
import Derived.Test.YtagohdalabhheaaPGx1
import Derived.Test.YtagohdalabhheaaPGx3
import Derived.Test.YtagohdalabhheaaPGx7
namespace Go.Proofs.Ytagohdalabhheaa.PG
open Go.RowKit Go.Proofs.YtagohdalabhheaaW.PrintWords Go.Proofs.YtagohdalabhheaaW.PrintLast Go.Proofs.YtagohdalabhheaaW.PrintMore
attribute [local go_sem] max2_int min2_int max_two min_two max_three min_three max_four min_four   -- for this text's walks alone
set_option linter.unusedVariables false
set_option linter.unusedSimpArgs false

/-! ### num_told: function 43 -/
def num_told.f (a0 : Int) : Option (Int × Int) := (num_Fits.f a0).bind fun t236 => (if t236 = true then (some (a0, 0)) else (some (0, 3)))
set_option maxHeartbeats 8000000 in
set_option maxRecDepth 100000 in
theorem num_told.calls (a0 : Int) (r1 : Int) (r2 : Int) (w : World) (h : num_told.f a0 = some (r1, r2)) :
    Calls Try.prog 43 #[.int .i64 a0] w fun e w' => e = .returned (.tuple #[.int .i64 r1, .int .i64 r2]) ∧ Drawn0 w w' := by
  have H : ((num_Fits.f a0).bind fun t236 => (if t236 = true then (some (a0, 0)) else (some (0, 3)))) = some (r1, r2) := h
  clear h
  replace H := Option.bind_eq_some_iff.mp H
  obtain ⟨t236, A20, H⟩ := H
  replace H : (if t236 = true then (some (a0, 0)) else (some (0, 3))) = some (r1, r2) := H
  have A2 := Aside0.mk A20
  clear A20
  by_cases c3 : t236 = true
  · subst c3
    have H1 : (some (a0, 0)) = some (r1, r2) := by rw [if_pos rfl] at H; exact H
    clear H
    have H := H1
    clear H1
    simp only [Option.some.injEq, Prod.mk.injEq] at H
    obtain ⟨rfl, rfl⟩ := H
    go_enter Try.func43, Try.ntmps43
    go_wp2_with (first | ((with_reducible refine gate_callee (f := 23) rfl ?_); refine goesL_ (some 5) rfl rfl Try.func23 (by kernel_rfl) rfl #[.int .i64 a0] rfl (by (try simp only [List.map_toArray, List.map_cons, List.map_nil]); first | done | rfl | (simp only [List.length_drop, List.length_take]; rfl)) ?_; (with_reducible refine (num_Fits.calls a0 true _ A2.out).mono ?_); rintro e w' ⟨rfl, ⟨nd, rfl⟩⟩; refine ⟨_, rfl, ?_⟩))
    go_ret2
    exact ⟨by first | rfl | (simp; done) | (simp [*]; done), by repeat (first | exact Drawn0.refl _ | apply Drawn0.step)⟩
  · replace c3 := Bool.eq_false_iff.mpr c3
    subst c3
    have H1 : (some (0, 3)) = some (r1, r2) := by rw [if_neg (show ¬ (false = true) by decide)] at H; exact H
    clear H
    have H := H1
    clear H1
    simp only [Option.some.injEq, Prod.mk.injEq] at H
    obtain ⟨rfl, rfl⟩ := H
    go_enter Try.func43, Try.ntmps43
    go_wp2_with (first | ((with_reducible refine gate_callee (f := 23) rfl ?_); refine goesL_ (some 5) rfl rfl Try.func23 (by kernel_rfl) rfl #[.int .i64 a0] rfl (by (try simp only [List.map_toArray, List.map_cons, List.map_nil]); first | done | rfl | (simp only [List.length_drop, List.length_take]; rfl)) ?_; (with_reducible refine (num_Fits.calls a0 false _ A2.out).mono ?_); rintro e w' ⟨rfl, ⟨nd, rfl⟩⟩; refine ⟨_, rfl, ?_⟩))
    go_ret2
    exact ⟨by first | rfl | (simp; done) | (simp [*]; done), by repeat (first | exact Drawn0.refl _ | apply Drawn0.step)⟩

/-! ### num_Add: function 22 -/
def num_Add.f (a0 : Int) (a1 : Int) : Option (Int × Int) := (num_Fits.f a0).bind fun t237 => (if t237 = true then ((num_Fits.f a1).bind fun t238 => (if t238 = true then ((num_told.f (wrap64 (a0 + a1))).bind fun bt239 => (some (bt239.1, bt239.2))) else (some (0, 2)))) else (some (0, 2)))
set_option maxHeartbeats 8000000 in
set_option maxRecDepth 100000 in
theorem num_Add.calls (a0 : Int) (a1 : Int) (r1 : Int) (r2 : Int) (w : World) (h : num_Add.f a0 a1 = some (r1, r2)) :
    Calls Try.prog 22 #[.int .i64 a0, .int .i64 a1] w fun e w' => e = .returned (.tuple #[.int .i64 r1, .int .i64 r2]) ∧ Drawn0 w w' := by
  have H : ((num_Fits.f a0).bind fun t237 => (if t237 = true then ((num_Fits.f a1).bind fun t238 => (if t238 = true then ((num_told.f (wrap64 (a0 + a1))).bind fun bt239 => (some (bt239.1, bt239.2))) else (some (0, 2)))) else (some (0, 2)))) = some (r1, r2) := h
  clear h
  replace H := Option.bind_eq_some_iff.mp H
  obtain ⟨t237, A30, H⟩ := H
  replace H : (if t237 = true then ((num_Fits.f a1).bind fun t238 => (if t238 = true then ((num_told.f (wrap64 (a0 + a1))).bind fun bt239 => (some (bt239.1, bt239.2))) else (some (0, 2)))) else (some (0, 2))) = some (r1, r2) := H
  have A3 := Aside0.mk A30
  clear A30
  by_cases c4 : t237 = true
  · subst c4
    have H1 : ((num_Fits.f a1).bind fun t238 => (if t238 = true then ((num_told.f (wrap64 (a0 + a1))).bind fun bt239 => (some (bt239.1, bt239.2))) else (some (0, 2)))) = some (r1, r2) := by rw [if_pos rfl] at H; exact H
    clear H
    have H := H1
    clear H1
    replace H := Option.bind_eq_some_iff.mp H
    obtain ⟨t238, A50, H⟩ := H
    replace H : (if t238 = true then ((num_told.f (wrap64 (a0 + a1))).bind fun bt239 => (some (bt239.1, bt239.2))) else (some (0, 2))) = some (r1, r2) := H
    have A5 := Aside0.mk A50
    clear A50
    by_cases c6 : t238 = true
    · subst c6
      have H1 : ((num_told.f (wrap64 (a0 + a1))).bind fun bt239 => (some (bt239.1, bt239.2))) = some (r1, r2) := by rw [if_pos rfl] at H; exact H
      clear H
      have H := H1
      clear H1
      replace H := Option.bind_eq_some_iff.mp H
      obtain ⟨⟨t239, t240⟩, A70, H⟩ := H
      replace H : (some (t239, t240)) = some (r1, r2) := H
      have A7 := Aside0.mk A70
      clear A70
      simp only [Option.some.injEq, Prod.mk.injEq] at H
      obtain ⟨rfl, rfl⟩ := H
      go_enter Try.func22, Try.ntmps22
      go_wp2_with (first | ((with_reducible refine gate_callee (f := 23) rfl ?_); refine goesL_ (some 7) rfl rfl Try.func23 (by kernel_rfl) rfl #[.int .i64 a0] rfl (by (try simp only [List.map_toArray, List.map_cons, List.map_nil]); first | done | rfl | (simp only [List.length_drop, List.length_take]; rfl)) ?_; (with_reducible refine (num_Fits.calls a0 true _ A3.out).mono ?_); rintro e w' ⟨rfl, ⟨nd, rfl⟩⟩; refine ⟨_, rfl, ?_⟩) | (go_at_call 23; (with_reducible refine (num_Fits.calls a1 true _ A5.out).mono ?_); rintro e w' ⟨rfl, ⟨nd, rfl⟩⟩) | ((with_reducible refine gate_callee (f := 43) rfl ?_); refine goesL_ (some 17) rfl rfl Try.func43 (by kernel_rfl) rfl #[.int .i64 (wrap64 (a0 + a1))] rfl (by (try simp only [List.map_toArray, List.map_cons, List.map_nil]); first | done | rfl | (simp only [List.length_drop, List.length_take]; rfl)) ?_; (with_reducible refine (num_told.calls (wrap64 (a0 + a1)) t239 t240 _ A7.out).mono ?_); rintro e w' ⟨rfl, ⟨nd, rfl⟩⟩; refine ⟨_, rfl, ?_⟩))
      go_ret2
      exact ⟨by first | rfl | (simp; done) | (simp [*]; done), by repeat (first | exact Drawn0.refl _ | apply Drawn0.step)⟩
    · replace c6 := Bool.eq_false_iff.mpr c6
      subst c6
      have H1 : (some (0, 2)) = some (r1, r2) := by rw [if_neg (show ¬ (false = true) by decide)] at H; exact H
      clear H
      have H := H1
      clear H1
      simp only [Option.some.injEq, Prod.mk.injEq] at H
      obtain ⟨rfl, rfl⟩ := H
      go_enter Try.func22, Try.ntmps22
      go_wp2_with (first | ((with_reducible refine gate_callee (f := 23) rfl ?_); refine goesL_ (some 7) rfl rfl Try.func23 (by kernel_rfl) rfl #[.int .i64 a0] rfl (by (try simp only [List.map_toArray, List.map_cons, List.map_nil]); first | done | rfl | (simp only [List.length_drop, List.length_take]; rfl)) ?_; (with_reducible refine (num_Fits.calls a0 true _ A3.out).mono ?_); rintro e w' ⟨rfl, ⟨nd, rfl⟩⟩; refine ⟨_, rfl, ?_⟩) | (go_at_call 23; (with_reducible refine (num_Fits.calls a1 false _ A5.out).mono ?_); rintro e w' ⟨rfl, ⟨nd, rfl⟩⟩))
      go_ret2
      exact ⟨by first | rfl | (simp; done) | (simp [*]; done), by repeat (first | exact Drawn0.refl _ | apply Drawn0.step)⟩
  · replace c4 := Bool.eq_false_iff.mpr c4
    subst c4
    have H1 : (some (0, 2)) = some (r1, r2) := by rw [if_neg (show ¬ (false = true) by decide)] at H; exact H
    clear H
    have H := H1
    clear H1
    simp only [Option.some.injEq, Prod.mk.injEq] at H
    obtain ⟨rfl, rfl⟩ := H
    go_enter Try.func22, Try.ntmps22
    go_wp2_with (first | ((with_reducible refine gate_callee (f := 23) rfl ?_); refine goesL_ (some 7) rfl rfl Try.func23 (by kernel_rfl) rfl #[.int .i64 a0] rfl (by (try simp only [List.map_toArray, List.map_cons, List.map_nil]); first | done | rfl | (simp only [List.length_drop, List.length_take]; rfl)) ?_; (with_reducible refine (num_Fits.calls a0 false _ A3.out).mono ?_); rintro e w' ⟨rfl, ⟨nd, rfl⟩⟩; refine ⟨_, rfl, ?_⟩))
    go_ret2
    exact ⟨by first | rfl | (simp; done) | (simp [*]; done), by repeat (first | exact Drawn0.refl _ | apply Drawn0.step)⟩

/-! ### foolscaplaw16_StatsGrows: function 5 -/
mutual
def foolscaplaw16_StatsGrows.j0 : Nat → List Int → Int → Int → Bool → Option (Bool)
  | 0, _, _, _, _ => none
  | k + 1, x0, x1, x6, x64 => if x64 = true then (some false) else ((foolscaplaw16_own.f x0).bind fun t255 => (if t255.length < 17592186044416 then ((stats_Rank.f k x1 (t255 ++ [x1]) true).bind fun bt261 => ((foolscaplaw16_own.f x0).bind fun t263 => (if t263.length < 17592186044416 then ((stats_Rank.f k x1 (t263 ++ [x1]) false).bind fun bt269 => (if x6 = 5 then (foolscaplaw16_StatsGrows.j1 k x0 bt261.1 bt269.1 true) else (if bt261.2 = 0 then (foolscaplaw16_StatsGrows.j1 k x0 bt261.1 bt269.1 (bt269.2 != 0)) else (foolscaplaw16_StatsGrows.j1 k x0 bt261.1 bt269.1 true)))) else (none)))) else (none)))
def foolscaplaw16_StatsGrows.j1 : Nat → List Int → Int → Int → Bool → Option (Bool)
  | 0, _, _, _, _ => none
  | k + 1, x0, x11, x13, x94 => if x94 = true then ((foolscaplaw16_lives.f k).bind fun t271 => (some t271)) else (if x11 ≥ 1000000 then (if x13 ≥ 1000000 then (if (wrap64 (x11 + x13)) ≤ (wrap64 ((wrap64 ((x0.length : Int) + 2)) * 1000000)) then ((foolscaplaw16_lives.f k).bind fun t272 => (some t272)) else (some false)) else (some false)) else (some false))
end
def foolscaplaw16_StatsGrows.f (k : Nat) (l0 : List Int) (a1 : Int) : Option (Bool) := if (l0.length : Int) > 2000 then ((foolscaplaw16_lives.f k).bind fun t241 => (some t241)) else ((stats_Sum.f k l0).bind fun bt242 => ((foolscaplaw16_own.f l0).bind fun t244 => (if t244.length < 17592186044416 then ((stats_Sum.f k (t244 ++ [a1])).bind fun bt250 => ((num_Add.f bt242.1 a1).bind fun bt252 => (if bt242.2 = 0 then ((num_Fits.f a1).bind fun t254 => (if t254 = true then (if ((bt250.2 == 0) != (bt252.2 == 0)) = true then (foolscaplaw16_StatsGrows.j0 k l0 a1 bt242.2 true) else (if bt250.2 = 0 then (foolscaplaw16_StatsGrows.j0 k l0 a1 bt242.2 (bt250.1 != bt252.1)) else (foolscaplaw16_StatsGrows.j0 k l0 a1 bt242.2 false))) else (if bt250.2 = 0 then (foolscaplaw16_StatsGrows.j0 k l0 a1 bt242.2 (bt250.1 != bt252.1)) else (foolscaplaw16_StatsGrows.j0 k l0 a1 bt242.2 false)))) else (if bt250.2 = 0 then (foolscaplaw16_StatsGrows.j0 k l0 a1 bt242.2 false) else (foolscaplaw16_StatsGrows.j0 k l0 a1 bt242.2 false))))) else (none))))
theorem foolscaplaw16_StatsGrows.mono_l : ∀ k, (∀ y0 y1 y2 y3, LeO (foolscaplaw16_StatsGrows.j0 k y0 y1 y2 y3) (foolscaplaw16_StatsGrows.j0 (k + 1) y0 y1 y2 y3)) ∧ (∀ y0 y1 y2 y3, LeO (foolscaplaw16_StatsGrows.j1 k y0 y1 y2 y3) (foolscaplaw16_StatsGrows.j1 (k + 1) y0 y1 y2 y3))
  | 0 => ⟨fun _ _ _ _ r h => by simp [foolscaplaw16_StatsGrows.j0] at h, fun _ _ _ _ r h => by simp [foolscaplaw16_StatsGrows.j1] at h⟩
  | k + 1 => by
    obtain ⟨ih0, ih1⟩ := foolscaplaw16_StatsGrows.mono_l k
    refine ⟨?_, ?_⟩
    · intro y0 y1 y2 y3
      unfold foolscaplaw16_StatsGrows.j0
      repeat' first
      | (with_reducible exact ih0 _ _ _ _)
      | (with_reducible exact ih1 _ _ _ _)
      | (with_reducible exact foolscaplaw16_lives.mono _)
      | (with_reducible exact stats_Rank.mono _ _ _ _)
      | (with_reducible exact stats_Sum.mono _ _)
      | (with_reducible exact LeO.refl _)
      | (with_reducible exact LeO.none _)
      | (with_reducible refine LeO.ite ?_ ?_)
      | (with_reducible refine LeO.bind ?_ (fun _ => ?_))
      | exact ih0 _ _ _ _
      | exact ih1 _ _ _ _
      | exact foolscaplaw16_lives.mono _
      | exact stats_Rank.mono _ _ _ _
      | exact stats_Sum.mono _ _
      | exact LeO.none _
      | refine LeO.ite ?_ ?_
      | refine LeO.bind ?_ (fun _ => ?_)
    · intro y0 y1 y2 y3
      unfold foolscaplaw16_StatsGrows.j1
      repeat' first
      | (with_reducible exact ih0 _ _ _ _)
      | (with_reducible exact ih1 _ _ _ _)
      | (with_reducible exact foolscaplaw16_lives.mono _)
      | (with_reducible exact stats_Rank.mono _ _ _ _)
      | (with_reducible exact stats_Sum.mono _ _)
      | (with_reducible exact LeO.refl _)
      | (with_reducible exact LeO.none _)
      | (with_reducible refine LeO.ite ?_ ?_)
      | (with_reducible refine LeO.bind ?_ (fun _ => ?_))
      | exact ih0 _ _ _ _
      | exact ih1 _ _ _ _
      | exact foolscaplaw16_lives.mono _
      | exact stats_Rank.mono _ _ _ _
      | exact stats_Sum.mono _ _
      | exact LeO.none _
      | refine LeO.ite ?_ ?_
      | refine LeO.bind ?_ (fun _ => ?_)
theorem foolscaplaw16_StatsGrows.mono : ∀ a0 a1 k, LeO (foolscaplaw16_StatsGrows.f k a0 a1) (foolscaplaw16_StatsGrows.f (k + 1) a0 a1) := by
  intro a0 a1 k
  obtain ⟨ih0, ih1⟩ := foolscaplaw16_StatsGrows.mono_l k
  unfold foolscaplaw16_StatsGrows.f
  repeat' first
      | (with_reducible exact ih0 _ _ _ _)
      | (with_reducible exact ih1 _ _ _ _)
      | (with_reducible exact foolscaplaw16_lives.mono _)
      | (with_reducible exact stats_Rank.mono _ _ _ _)
      | (with_reducible exact stats_Sum.mono _ _)
      | (with_reducible exact LeO.refl _)
      | (with_reducible exact LeO.none _)
      | (with_reducible refine LeO.ite ?_ ?_)
      | (with_reducible refine LeO.bind ?_ (fun _ => ?_))
      | exact ih0 _ _ _ _
      | exact ih1 _ _ _ _
      | exact foolscaplaw16_lives.mono _
      | exact stats_Rank.mono _ _ _ _
      | exact stats_Sum.mono _ _
      | exact LeO.none _
      | refine LeO.ite ?_ ?_
      | refine LeO.bind ?_ (fun _ => ?_)
set_option maxHeartbeats 8000000 in
set_option maxRecDepth 100000 in
theorem foolscaplaw16_StatsGrows.calls (k : Nat) (A0 : Option Addr) (c0 : Nat) (l0 : List Int) (a1 : Int) (r : Bool) (w : World) (hr0 : Kd.C (Kd.int .i64) w A0 l0.length l0) (hc0 : l0.length ≤ c0) (h : foolscaplaw16_StatsGrows.f k l0 a1 = some r) (hR_ : r = true) :
    Calls Try.prog 5 #[.slice A0 l0.length c0, .int .i64 a1] w fun e w' => e = .returned (.bool r) ∧ Below w.heap.size w w' := by
  have HR_ := Aside0.mk hR_
  clear hR_
  have HR0 := Aside0.mk hr0
  have HC0 := Aside0.mk hc0
  clear hr0 hc0
  have HB := Aside0.mk (Below.refl w.heap.size w)
  have H : (if (l0.length : Int) > 2000 then ((foolscaplaw16_lives.f k).bind fun t241 => (some t241)) else ((stats_Sum.f k l0).bind fun bt242 => ((foolscaplaw16_own.f l0).bind fun t244 => (if t244.length < 17592186044416 then ((stats_Sum.f k (t244 ++ [a1])).bind fun bt250 => ((num_Add.f bt242.1 a1).bind fun bt252 => (if bt242.2 = 0 then ((num_Fits.f a1).bind fun t254 => (if t254 = true then (if ((bt250.2 == 0) != (bt252.2 == 0)) = true then (foolscaplaw16_StatsGrows.j0 k l0 a1 bt242.2 true) else (if bt250.2 = 0 then (foolscaplaw16_StatsGrows.j0 k l0 a1 bt242.2 (bt250.1 != bt252.1)) else (foolscaplaw16_StatsGrows.j0 k l0 a1 bt242.2 false))) else (if bt250.2 = 0 then (foolscaplaw16_StatsGrows.j0 k l0 a1 bt242.2 (bt250.1 != bt252.1)) else (foolscaplaw16_StatsGrows.j0 k l0 a1 bt242.2 false)))) else (if bt250.2 = 0 then (foolscaplaw16_StatsGrows.j0 k l0 a1 bt242.2 false) else (foolscaplaw16_StatsGrows.j0 k l0 a1 bt242.2 false))))) else (none))))) = some r := h
  clear h
  by_cases c3 : (l0.length : Int) > 2000
  · rw [if_pos c3] at H
    have c3b0 : decide (2000 < (l0.length : Int)) = true := decide_eq_true c3
    have c3b1 : decide (2000 < l0.length) = true := decide_eq_true (by omega)
    clear c3
    replace H := Option.bind_eq_some_iff.mp H
    obtain ⟨t241, A40, H⟩ := H
    replace H : (some t241) = some r := H
    have A4 := Aside0.mk A40
    clear A40
    obtain rfl := Option.some.inj H
    simp only [Option.some.injEq, Prod.mk.injEq] at H
    obtain ⟨rfl⟩ := H
    go_enter Try.func5, Try.ntmps5
    go_wp2_with (first | ((with_reducible refine gate_callee (f := 9) rfl ?_); refine goesL_ (some 18) rfl rfl Try.func9 (by kernel_rfl) rfl #[] rfl (by (try simp only [List.map_toArray, List.map_cons, List.map_nil]); first | done | rfl | (simp only [List.length_drop, List.length_take]; rfl)) ?_; (with_reducible refine (foolscaplaw16_lives.calls k  t241 _ A4.out).mono ?_); rintro e w5 ⟨rfl, hb⟩; refine ⟨_, rfl, ?_⟩; have n0_ := Aside0.mk (below_step (by repeat (first | (with_reducible first | exact HB.out | apply below_alloc | apply pw_below_drewN | apply below_drew1) | exact HB.out)) hb); clear HB; have HB := n0_; clear n0_; (try clear hb); (try clear hb2); (try clear hk); (try clear hi)))
    go_ret
    exact ⟨by first | rfl | (simp [errW_none, errW_some] <;> rfl) | (simp [*, errW_none, errW_some] <;> rfl), by repeat (first | (with_reducible first | exact HB.out | apply below_alloc | apply pw_below_drewN | apply below_drew1) | exact HB.out)⟩
  · rw [if_neg c3] at H
    have c3b0 : decide (2000 < (l0.length : Int)) = false := decide_eq_false c3
    have c3b1 : decide (2000 < l0.length) = false := decide_eq_false (by omega)
    clear c3
    replace H := Option.bind_eq_some_iff.mp H
    obtain ⟨⟨t242, t243⟩, A60, H⟩ := H
    replace H : ((foolscaplaw16_own.f l0).bind fun t244 => (if t244.length < 17592186044416 then ((stats_Sum.f k (t244 ++ [a1])).bind fun bt250 => ((num_Add.f t242 a1).bind fun bt252 => (if t243 = 0 then ((num_Fits.f a1).bind fun t254 => (if t254 = true then (if ((bt250.2 == 0) != (bt252.2 == 0)) = true then (foolscaplaw16_StatsGrows.j0 k l0 a1 t243 true) else (if bt250.2 = 0 then (foolscaplaw16_StatsGrows.j0 k l0 a1 t243 (bt250.1 != bt252.1)) else (foolscaplaw16_StatsGrows.j0 k l0 a1 t243 false))) else (if bt250.2 = 0 then (foolscaplaw16_StatsGrows.j0 k l0 a1 t243 (bt250.1 != bt252.1)) else (foolscaplaw16_StatsGrows.j0 k l0 a1 t243 false)))) else (if bt250.2 = 0 then (foolscaplaw16_StatsGrows.j0 k l0 a1 t243 false) else (foolscaplaw16_StatsGrows.j0 k l0 a1 t243 false))))) else (none))) = some r := H
    have A6 := Aside0.mk A60
    clear A60
    replace H := Option.bind_eq_some_iff.mp H
    obtain ⟨t244, A70, H⟩ := H
    replace H : (if t244.length < 17592186044416 then ((stats_Sum.f k (t244 ++ [a1])).bind fun bt250 => ((num_Add.f t242 a1).bind fun bt252 => (if t243 = 0 then ((num_Fits.f a1).bind fun t254 => (if t254 = true then (if ((bt250.2 == 0) != (bt252.2 == 0)) = true then (foolscaplaw16_StatsGrows.j0 k l0 a1 t243 true) else (if bt250.2 = 0 then (foolscaplaw16_StatsGrows.j0 k l0 a1 t243 (bt250.1 != bt252.1)) else (foolscaplaw16_StatsGrows.j0 k l0 a1 t243 false))) else (if bt250.2 = 0 then (foolscaplaw16_StatsGrows.j0 k l0 a1 t243 (bt250.1 != bt252.1)) else (foolscaplaw16_StatsGrows.j0 k l0 a1 t243 false)))) else (if bt250.2 = 0 then (foolscaplaw16_StatsGrows.j0 k l0 a1 t243 false) else (foolscaplaw16_StatsGrows.j0 k l0 a1 t243 false))))) else (none)) = some r := H
    have A7 := Aside0.mk A70
    clear A70
    by_cases c8 : t244.length < 17592186044416
    · rw [if_pos c8] at H
      have LMc8 := Aside0.mk c8
      clear c8
      obtain ⟨y247, hy247⟩ : ∃ y_ : List Int, y_ = (t244 ++ [a1]) := ⟨_, rfl⟩
      replace H : ((stats_Sum.f k y247).bind fun bt250 => ((num_Add.f t242 a1).bind fun bt252 => (if t243 = 0 then ((num_Fits.f a1).bind fun t254 => (if t254 = true then (if ((bt250.2 == 0) != (bt252.2 == 0)) = true then (foolscaplaw16_StatsGrows.j0 k l0 a1 t243 true) else (if bt250.2 = 0 then (foolscaplaw16_StatsGrows.j0 k l0 a1 t243 (bt250.1 != bt252.1)) else (foolscaplaw16_StatsGrows.j0 k l0 a1 t243 false))) else (if bt250.2 = 0 then (foolscaplaw16_StatsGrows.j0 k l0 a1 t243 (bt250.1 != bt252.1)) else (foolscaplaw16_StatsGrows.j0 k l0 a1 t243 false)))) else (if bt250.2 = 0 then (foolscaplaw16_StatsGrows.j0 k l0 a1 t243 false) else (foolscaplaw16_StatsGrows.j0 k l0 a1 t243 false))))) = some r := by first | (rw [hy247]; with_reducible exact H) | (have H2_ := (Option.bind_some _ _).symm.trans H; rw [hy247]; with_reducible exact H2_) | (have H2_ := (Option.bind_some _ _).symm.trans H; with_reducible exact H2_) | with_reducible exact H | (rw [hy247]; exact H) | exact H
      have Ny247 := Aside0.mk hy247
      clear hy247
      replace H := Option.bind_eq_some_iff.mp H
      obtain ⟨⟨t250, t251⟩, A90, H⟩ := H
      replace H : ((num_Add.f t242 a1).bind fun bt252 => (if t243 = 0 then ((num_Fits.f a1).bind fun t254 => (if t254 = true then (if ((t251 == 0) != (bt252.2 == 0)) = true then (foolscaplaw16_StatsGrows.j0 k l0 a1 t243 true) else (if t251 = 0 then (foolscaplaw16_StatsGrows.j0 k l0 a1 t243 (t250 != bt252.1)) else (foolscaplaw16_StatsGrows.j0 k l0 a1 t243 false))) else (if t251 = 0 then (foolscaplaw16_StatsGrows.j0 k l0 a1 t243 (t250 != bt252.1)) else (foolscaplaw16_StatsGrows.j0 k l0 a1 t243 false)))) else (if t251 = 0 then (foolscaplaw16_StatsGrows.j0 k l0 a1 t243 false) else (foolscaplaw16_StatsGrows.j0 k l0 a1 t243 false)))) = some r := H
      have A9 := Aside0.mk A90
      clear A90
      replace H := Option.bind_eq_some_iff.mp H
      obtain ⟨⟨t252, t253⟩, A100, H⟩ := H
      replace H : (if t243 = 0 then ((num_Fits.f a1).bind fun t254 => (if t254 = true then (if ((t251 == 0) != (t253 == 0)) = true then (foolscaplaw16_StatsGrows.j0 k l0 a1 t243 true) else (if t251 = 0 then (foolscaplaw16_StatsGrows.j0 k l0 a1 t243 (t250 != t252)) else (foolscaplaw16_StatsGrows.j0 k l0 a1 t243 false))) else (if t251 = 0 then (foolscaplaw16_StatsGrows.j0 k l0 a1 t243 (t250 != t252)) else (foolscaplaw16_StatsGrows.j0 k l0 a1 t243 false)))) else (if t251 = 0 then (foolscaplaw16_StatsGrows.j0 k l0 a1 t243 false) else (foolscaplaw16_StatsGrows.j0 k l0 a1 t243 false))) = some r := H
      have A10 := Aside0.mk A100
      clear A100
      have HC11 := Aside0.mk H
      clear H
      go_enter Try.func5, Try.ntmps5
      go_upto_region 6 with (first | ((with_reducible refine gate_callee (f := 19) rfl ?_); refine goesL_ (some 21) rfl rfl Try.func19 (by kernel_rfl) rfl #[.slice A0 l0.length c0] rfl (by (try simp only [List.map_toArray, List.map_cons, List.map_nil]); first | done | rfl | (simp only [List.length_drop, List.length_take]; rfl)) ?_; (with_reducible refine (stats_Sum.calls k _ _ l0 t242 t243 _ ?side1 ?side2 A6.out).mono ?_); (case side1 => repeat (first | exact HR0.out | (with_reducible refine Kd.C_alloc ?_ _) | (with_reducible refine Kd.C_drewN ?_ _) | (with_reducible refine Kd.C_drew ?_))); (case side2 => exact HC0.out); rintro e w12 ⟨rfl, hb⟩; refine ⟨_, rfl, ?_⟩; have n0_ := Aside0.mk (below_step (by repeat (first | (with_reducible first | exact HB.out | apply below_alloc | apply pw_below_drewN | apply below_drew1) | exact HB.out)) hb); clear HB; have HB := n0_; clear n0_; (try clear hb); (try clear hb2); (try clear hk); (try clear hi)) | ((with_reducible refine gate_callee (f := 10) rfl ?_); refine goesL_ (some 26) rfl rfl Try.func10 (by kernel_rfl) rfl #[.slice A0 l0.length c0] rfl (by (try simp only [List.map_toArray, List.map_cons, List.map_nil]); first | done | rfl | (simp only [List.length_drop, List.length_take]; rfl)) ?_; (with_reducible refine (foolscaplaw16_own.calls _ _ l0 t244 _ ?side1 ?side2 A7.out).mono ?_); (case side1 => repeat (first | exact (Kd.C_below HR0.out HB.out) | (with_reducible refine Kd.C_alloc ?_ _) | (with_reducible refine Kd.C_drewN ?_ _) | (with_reducible refine Kd.C_drew ?_))); (case side2 => exact HC0.out); rintro e w13 ⟨v245, rfl, ho0, hb⟩; refine ⟨_, rfl, ?_⟩; have n0_ := Aside0.mk (Kd.R_lower ho0 (below_size (by repeat (first | (with_reducible first | exact HB.out | apply below_alloc | apply pw_below_drewN | apply below_drew1) | exact HB.out)))); have n1_ := Aside0.mk (below_step (by repeat (first | (with_reducible first | exact HB.out | apply below_alloc | apply pw_below_drewN | apply below_drew1) | exact HB.out)) hb); clear HB; have HO246 := n0_; have HB := n1_; clear n0_ n1_; (try clear hb); (try clear hb2); (try clear hk); (try clear hi); (try clear ho0)) | ((with_reducible refine gate_builtin (b := .append) (xs := #[.tmp 26, .tmp 28]) rfl ?_); (try (refine gate_guard (by rfl) ?_; dsimp only)); at_builtin; refine Kd.R_append (Kd.int .i64) (w0 := w) w.heap.size rfl (.tmp 26) (.tmp 28) 22 3 (.int .i64 0) 8 rfl Try.underlying22 info3 rfl (by decide) (by omega) v245 t244 a1 [.int .i64 a1] (fun _ => True) (fun _ => False) rfl rfl ?aP (fun _ hk => hk.elim) ?aF ?aO ?aB ?aS ?aL ?_; (case aP => exact rfl); (case aB => exact (by repeat (first | (with_reducible first | exact HB.out | apply below_alloc | apply pw_below_drewN | apply below_drew1) | exact HB.out))); (case aF => exact (fun _ _ => trivial)); (case aO => exact (by (with_reducible repeat (first | apply Kd.R_alloc | apply Kd.R_drewN | apply Kd.R_drew)); exact HO246.out)); (case aS => exact (below_size (by repeat (first | (with_reducible first | exact HB.out | apply below_alloc | apply pw_below_drewN | apply below_drew1) | exact HB.out)))); (case aL => have := LMc8.out; omega); intro v248 w14 ho hb hg hat; rw [← Ny247.out] at ho; have n0_ := Aside0.mk (hb); have n1_ := Aside0.mk (ho); clear HB; clear HO246; have HB := n0_; have HO249 := n1_; clear n0_ n1_; clear ho hb hg hat; obtain ⟨Ao15, co15, eo15⟩ := Kd.R_slice HO249.out; subst eo15) | ((with_reducible refine gate_callee (f := 19) rfl ?_); refine goesL_ (some 30) rfl rfl Try.func19 (by kernel_rfl) rfl #[.slice Ao15 y247.length co15] rfl (by (try simp only [List.map_toArray, List.map_cons, List.map_nil]); first | done | rfl | (simp only [List.length_drop, List.length_take]; rfl)) ?_; (with_reducible refine (stats_Sum.calls k _ _ y247 t250 t251 _ ?side1 ?side2 A9.out).mono ?_); (case side1 => repeat (first | exact (Kd.R_reads' HO249.out).2.2 | (with_reducible refine Kd.C_alloc ?_ _) | (with_reducible refine Kd.C_drewN ?_ _) | (with_reducible refine Kd.C_drew ?_))); (case side2 => exact (Kd.R_reads' HO249.out).2.1); rintro e w16 ⟨rfl, hb⟩; refine ⟨_, rfl, ?_⟩; have n0_ := Aside0.mk (Kd.R_below (by (with_reducible repeat (first | apply Kd.R_alloc | apply Kd.R_drewN | apply Kd.R_drew)); exact HO249.out) hb); have n1_ := Aside0.mk (below_step (by repeat (first | (with_reducible first | exact HB.out | apply below_alloc | apply pw_below_drewN | apply below_drew1) | exact HB.out)) hb); clear HO249; clear HB; have HO249 := n0_; have HB := n1_; clear n0_ n1_; (try clear hb); (try clear hb2); (try clear hk); (try clear hi)) | ((with_reducible refine gate_callee (f := 22) rfl ?_); refine goesL_ (some 36) rfl rfl Try.func22 (by kernel_rfl) rfl #[.int .i64 t242, .int .i64 a1] rfl (by (try simp only [List.map_toArray, List.map_cons, List.map_nil]); first | done | rfl | (simp only [List.length_drop, List.length_take]; rfl)) ?_; (with_reducible refine (num_Add.calls t242 a1 t252 t253 _ A10.out).mono ?_); rintro e w' ⟨rfl, ⟨nd, rfl⟩⟩; refine ⟨_, rfl, ?_⟩))
      (try simp only [Act.put, List.setIfInBounds_toArray, List.set_cons_zero, List.set_cons_succ])
      go_cut [64] (fun v64 wc => ∃ (kq : Nat) (x64_10 : Bool), v64 = .bool x64_10 ∧ Aside0 (foolscaplaw16_StatsGrows.j0 kq l0 a1 t243 x64_10 = some r) ∧ Aside0 (kq ≤ k) ∧ Aside0 (Below w.heap.size w wc))
      case first =>
        have H := HC11.out
        clear HC11
        by_cases c17 : t243 = 0
        · rw [if_pos c17] at H
          have c17b0 : (t243 == 0) = true := beq_iff_eq.mpr c17
          have c17b1 : (t243 != 0) = false := bne_eq_false_iff_eq.mpr c17
          clear c17
          (first | rw [c17b0] | (simp only [i64_w, i32_w]; rw [c17b0]) | skip)
          replace H := Option.bind_eq_some_iff.mp H
          obtain ⟨t254, A180, H⟩ := H
          replace H : (if t254 = true then (if ((t251 == 0) != (t253 == 0)) = true then (foolscaplaw16_StatsGrows.j0 k l0 a1 t243 true) else (if t251 = 0 then (foolscaplaw16_StatsGrows.j0 k l0 a1 t243 (t250 != t252)) else (foolscaplaw16_StatsGrows.j0 k l0 a1 t243 false))) else (if t251 = 0 then (foolscaplaw16_StatsGrows.j0 k l0 a1 t243 (t250 != t252)) else (foolscaplaw16_StatsGrows.j0 k l0 a1 t243 false))) = some r := H
          have A18 := Aside0.mk A180
          clear A180
          by_cases c19 : t254 = true
          · subst c19
            have H1 : (if ((t251 == 0) != (t253 == 0)) = true then (foolscaplaw16_StatsGrows.j0 k l0 a1 t243 true) else (if t251 = 0 then (foolscaplaw16_StatsGrows.j0 k l0 a1 t243 (t250 != t252)) else (foolscaplaw16_StatsGrows.j0 k l0 a1 t243 false))) = some r := by rw [if_pos rfl] at H; exact H
            clear H
            have H := H1
            clear H1
            by_cases e1 : t251 = 0
            · by_cases e2 : t253 = 0
              · subst e1
                subst e2
                have H1 : foolscaplaw16_StatsGrows.j0 k l0 a1 t243 (t250 != t252) = some r := by simpa [*] using H
                clear H
                have H' := Aside0.mk H1
                clear H1
                go_wp2_with (first | (go_at_call 23; (with_reducible refine (num_Fits.calls a1 true _ A18.out).mono ?_); rintro e w' ⟨rfl, ⟨nd, rfl⟩⟩))
                go_meet
                case rel => exact ⟨_, (t250 != t252), (by first | rfl | (simp; done) | (simp [*]; done)), H', ⟨by first | omega | exact Nat.le_refl _⟩, ⟨by repeat (first | (with_reducible first | exact HB.out | apply below_alloc | apply pw_below_drewN | apply below_drew1) | exact HB.out)⟩⟩
              · subst e1
                have e2b0 : (t253 == 0) = false := beq_eq_false_iff_ne.mpr e2
                have e2b1 : (t253 != 0) = true := bne_iff_ne.mpr e2
                have H1 : foolscaplaw16_StatsGrows.j0 k l0 a1 t243 (true) = some r := by simpa [*] using H
                clear H
                have H' := Aside0.mk H1
                clear H1
                go_wp2_with (first | (go_at_call 23; (with_reducible refine (num_Fits.calls a1 true _ A18.out).mono ?_); rintro e w' ⟨rfl, ⟨nd, rfl⟩⟩))
                go_meet
                case rel => exact ⟨_, (true), (by first | rfl | (simp; done) | (simp [*]; done)), H', ⟨by first | omega | exact Nat.le_refl _⟩, ⟨by repeat (first | (with_reducible first | exact HB.out | apply below_alloc | apply pw_below_drewN | apply below_drew1) | exact HB.out)⟩⟩
            · by_cases e2 : t253 = 0
              · have e1b0 : (t251 == 0) = false := beq_eq_false_iff_ne.mpr e1
                have e1b1 : (t251 != 0) = true := bne_iff_ne.mpr e1
                subst e2
                have H1 : foolscaplaw16_StatsGrows.j0 k l0 a1 t243 (true) = some r := by simpa [*] using H
                clear H
                have H' := Aside0.mk H1
                clear H1
                go_wp2_with (first | (go_at_call 23; (with_reducible refine (num_Fits.calls a1 true _ A18.out).mono ?_); rintro e w' ⟨rfl, ⟨nd, rfl⟩⟩))
                go_meet
                case rel => exact ⟨_, (true), (by first | rfl | (simp; done) | (simp [*]; done)), H', ⟨by first | omega | exact Nat.le_refl _⟩, ⟨by repeat (first | (with_reducible first | exact HB.out | apply below_alloc | apply pw_below_drewN | apply below_drew1) | exact HB.out)⟩⟩
              · have e1b0 : (t251 == 0) = false := beq_eq_false_iff_ne.mpr e1
                have e1b1 : (t251 != 0) = true := bne_iff_ne.mpr e1
                have e2b0 : (t253 == 0) = false := beq_eq_false_iff_ne.mpr e2
                have e2b1 : (t253 != 0) = true := bne_iff_ne.mpr e2
                have H1 : foolscaplaw16_StatsGrows.j0 k l0 a1 t243 (false) = some r := by simpa [*] using H
                clear H
                have H' := Aside0.mk H1
                clear H1
                go_wp2_with (first | (go_at_call 23; (with_reducible refine (num_Fits.calls a1 true _ A18.out).mono ?_); rintro e w' ⟨rfl, ⟨nd, rfl⟩⟩))
                go_meet
                case rel => exact ⟨_, (false), (by first | rfl | (simp; done) | (simp [*]; done)), H', ⟨by first | omega | exact Nat.le_refl _⟩, ⟨by repeat (first | (with_reducible first | exact HB.out | apply below_alloc | apply pw_below_drewN | apply below_drew1) | exact HB.out)⟩⟩
          · replace c19 := Bool.eq_false_iff.mpr c19
            subst c19
            have H1 : (if t251 = 0 then (foolscaplaw16_StatsGrows.j0 k l0 a1 t243 (t250 != t252)) else (foolscaplaw16_StatsGrows.j0 k l0 a1 t243 false)) = some r := by rw [if_neg (show ¬ (false = true) by decide)] at H; exact H
            clear H
            have H := H1
            clear H1
            by_cases c22 : t251 = 0
            · rw [if_pos c22] at H
              have c22b0 : (t251 == 0) = true := beq_iff_eq.mpr c22
              have c22b1 : (t251 != 0) = false := bne_eq_false_iff_eq.mpr c22
              clear c22
              have H' := Aside0.mk H
              clear H
              go_wp2_with (first | (go_at_call 23; (with_reducible refine (num_Fits.calls a1 false _ A18.out).mono ?_); rintro e w' ⟨rfl, ⟨nd, rfl⟩⟩))
              go_meet
              case rel => exact ⟨_, ((t250 != t252)), (by first | rfl | (simp; done) | (simp [*]; done)), H', ⟨by first | omega | exact Nat.le_refl _⟩, ⟨by repeat (first | (with_reducible first | exact HB.out | apply below_alloc | apply pw_below_drewN | apply below_drew1) | exact HB.out)⟩⟩
            · rw [if_neg c22] at H
              have c22b0 : (t251 == 0) = false := beq_eq_false_iff_ne.mpr c22
              have c22b1 : (t251 != 0) = true := bne_iff_ne.mpr c22
              have H' := Aside0.mk H
              clear H
              go_wp2_with (first | (go_at_call 23; (with_reducible refine (num_Fits.calls a1 false _ A18.out).mono ?_); rintro e w' ⟨rfl, ⟨nd, rfl⟩⟩))
              go_meet
              case rel => exact ⟨_, (false), (by first | rfl | (simp; done) | (simp [*]; done)), H', ⟨by first | omega | exact Nat.le_refl _⟩, ⟨by repeat (first | (with_reducible first | exact HB.out | apply below_alloc | apply pw_below_drewN | apply below_drew1) | exact HB.out)⟩⟩
        · rw [if_neg c17] at H
          have c17b0 : (t243 == 0) = false := beq_eq_false_iff_ne.mpr c17
          have c17b1 : (t243 != 0) = true := bne_iff_ne.mpr c17
          (first | rw [c17b0] | (simp only [i64_w, i32_w]; rw [c17b0]) | skip)
          by_cases c23 : t251 = 0
          · rw [if_pos c23] at H
            have c23b0 : (t251 == 0) = true := beq_iff_eq.mpr c23
            have c23b1 : (t251 != 0) = false := bne_eq_false_iff_eq.mpr c23
            clear c23
            have H' := Aside0.mk H
            clear H
            go_wp2
            go_meet
            case rel => exact ⟨_, (false), (by first | rfl | (simp; done) | (simp [*]; done)), H', ⟨by first | omega | exact Nat.le_refl _⟩, ⟨by repeat (first | (with_reducible first | exact HB.out | apply below_alloc | apply pw_below_drewN | apply below_drew1) | exact HB.out)⟩⟩
          · rw [if_neg c23] at H
            have c23b0 : (t251 == 0) = false := beq_eq_false_iff_ne.mpr c23
            have c23b1 : (t251 != 0) = true := bne_iff_ne.mpr c23
            have H' := Aside0.mk H
            clear H
            go_wp2
            go_meet
            case rel => exact ⟨_, (false), (by first | rfl | (simp; done) | (simp [*]; done)), H', ⟨by first | omega | exact Nat.le_refl _⟩, ⟨by repeat (first | (with_reducible first | exact HB.out | apply below_alloc | apply pw_below_drewN | apply below_drew1) | exact HB.out)⟩⟩
      case rest =>
        clear HC11
        try clear c1
        try clear c2
        try clear p2
        try clear c3
        try clear c3b0
        try clear c3b1
        try clear c5
        try clear c8
        try clear c9
        try clear c10
        try clear c17
        try clear c17b0
        try clear c17b1
        try clear c19
        try clear c20
        try clear c20b0
        try clear c20b1
        try clear c20b2
        try clear c21
        try clear c21b0
        try clear c21b1
        try clear c22
        try clear c22b0
        try clear c22b1
        try clear c23
        try clear c23b0
        try clear c23b1
        obtain ⟨kq, x64_10, rfl, HA, HJ10, HB⟩ := hcut
        cases kq with
        | zero => exact absurd HA.out (by simp [foolscaplaw16_StatsGrows.j0])
        | succ kj10 =>
          have H := HA.out
          clear HA
          simp only [foolscaplaw16_StatsGrows.j0] at H
          by_cases c24 : x64_10 = true
          · subst c24
            have H1 : (some false) = some r := by rw [if_pos rfl] at H; exact H
            clear H
            have H := H1
            clear H1
            obtain rfl := Option.some.inj H
            exact absurd HR_.out (by decide)
          · replace c24 := Bool.eq_false_iff.mpr c24
            subst c24
            have H1 : ((foolscaplaw16_own.f l0).bind fun t255 => (if t255.length < 17592186044416 then ((stats_Rank.f kj10 a1 (t255 ++ [a1]) true).bind fun bt261 => ((foolscaplaw16_own.f l0).bind fun t263 => (if t263.length < 17592186044416 then ((stats_Rank.f kj10 a1 (t263 ++ [a1]) false).bind fun bt269 => (if t243 = 5 then (foolscaplaw16_StatsGrows.j1 kj10 l0 bt261.1 bt269.1 true) else (if bt261.2 = 0 then (foolscaplaw16_StatsGrows.j1 kj10 l0 bt261.1 bt269.1 (bt269.2 != 0)) else (foolscaplaw16_StatsGrows.j1 kj10 l0 bt261.1 bt269.1 true)))) else (none)))) else (none))) = some r := by rw [if_neg (show ¬ (false = true) by decide)] at H; exact H
            clear H
            have H := H1
            clear H1
            replace H := Option.bind_eq_some_iff.mp H
            obtain ⟨t255, A250, H⟩ := H
            replace H : (if t255.length < 17592186044416 then ((stats_Rank.f kj10 a1 (t255 ++ [a1]) true).bind fun bt261 => ((foolscaplaw16_own.f l0).bind fun t263 => (if t263.length < 17592186044416 then ((stats_Rank.f kj10 a1 (t263 ++ [a1]) false).bind fun bt269 => (if t243 = 5 then (foolscaplaw16_StatsGrows.j1 kj10 l0 bt261.1 bt269.1 true) else (if bt261.2 = 0 then (foolscaplaw16_StatsGrows.j1 kj10 l0 bt261.1 bt269.1 (bt269.2 != 0)) else (foolscaplaw16_StatsGrows.j1 kj10 l0 bt261.1 bt269.1 true)))) else (none)))) else (none)) = some r := H
            have A25 := Aside0.mk A250
            clear A250
            by_cases c26 : t255.length < 17592186044416
            · rw [if_pos c26] at H
              have LMc26 := Aside0.mk c26
              clear c26
              obtain ⟨y258, hy258⟩ : ∃ y_ : List Int, y_ = (t255 ++ [a1]) := ⟨_, rfl⟩
              replace H : ((stats_Rank.f kj10 a1 y258 true).bind fun bt261 => ((foolscaplaw16_own.f l0).bind fun t263 => (if t263.length < 17592186044416 then ((stats_Rank.f kj10 a1 (t263 ++ [a1]) false).bind fun bt269 => (if t243 = 5 then (foolscaplaw16_StatsGrows.j1 kj10 l0 bt261.1 bt269.1 true) else (if bt261.2 = 0 then (foolscaplaw16_StatsGrows.j1 kj10 l0 bt261.1 bt269.1 (bt269.2 != 0)) else (foolscaplaw16_StatsGrows.j1 kj10 l0 bt261.1 bt269.1 true)))) else (none)))) = some r := by first | (rw [hy258]; with_reducible exact H) | (have H2_ := (Option.bind_some _ _).symm.trans H; rw [hy258]; with_reducible exact H2_) | (have H2_ := (Option.bind_some _ _).symm.trans H; with_reducible exact H2_) | with_reducible exact H | (rw [hy258]; exact H) | exact H
              have Ny258 := Aside0.mk hy258
              clear hy258
              replace H := Option.bind_eq_some_iff.mp H
              obtain ⟨⟨t261, t262⟩, A270, H⟩ := H
              replace H : ((foolscaplaw16_own.f l0).bind fun t263 => (if t263.length < 17592186044416 then ((stats_Rank.f kj10 a1 (t263 ++ [a1]) false).bind fun bt269 => (if t243 = 5 then (foolscaplaw16_StatsGrows.j1 kj10 l0 t261 bt269.1 true) else (if t262 = 0 then (foolscaplaw16_StatsGrows.j1 kj10 l0 t261 bt269.1 (bt269.2 != 0)) else (foolscaplaw16_StatsGrows.j1 kj10 l0 t261 bt269.1 true)))) else (none))) = some r := H
              have A27 := Aside0.mk A270
              clear A270
              replace H := Option.bind_eq_some_iff.mp H
              obtain ⟨t263, A280, H⟩ := H
              replace H : (if t263.length < 17592186044416 then ((stats_Rank.f kj10 a1 (t263 ++ [a1]) false).bind fun bt269 => (if t243 = 5 then (foolscaplaw16_StatsGrows.j1 kj10 l0 t261 bt269.1 true) else (if t262 = 0 then (foolscaplaw16_StatsGrows.j1 kj10 l0 t261 bt269.1 (bt269.2 != 0)) else (foolscaplaw16_StatsGrows.j1 kj10 l0 t261 bt269.1 true)))) else (none)) = some r := H
              have A28 := Aside0.mk A280
              clear A280
              by_cases c29 : t263.length < 17592186044416
              · rw [if_pos c29] at H
                have LMc29 := Aside0.mk c29
                clear c29
                obtain ⟨y266, hy266⟩ : ∃ y_ : List Int, y_ = (t263 ++ [a1]) := ⟨_, rfl⟩
                replace H : ((stats_Rank.f kj10 a1 y266 false).bind fun bt269 => (if t243 = 5 then (foolscaplaw16_StatsGrows.j1 kj10 l0 t261 bt269.1 true) else (if t262 = 0 then (foolscaplaw16_StatsGrows.j1 kj10 l0 t261 bt269.1 (bt269.2 != 0)) else (foolscaplaw16_StatsGrows.j1 kj10 l0 t261 bt269.1 true)))) = some r := by first | (rw [hy266]; with_reducible exact H) | (have H2_ := (Option.bind_some _ _).symm.trans H; rw [hy266]; with_reducible exact H2_) | (have H2_ := (Option.bind_some _ _).symm.trans H; with_reducible exact H2_) | with_reducible exact H | (rw [hy266]; exact H) | exact H
                have Ny266 := Aside0.mk hy266
                clear hy266
                replace H := Option.bind_eq_some_iff.mp H
                obtain ⟨⟨t269, t270⟩, A300, H⟩ := H
                replace H : (if t243 = 5 then (foolscaplaw16_StatsGrows.j1 kj10 l0 t261 t269 true) else (if t262 = 0 then (foolscaplaw16_StatsGrows.j1 kj10 l0 t261 t269 (t270 != 0)) else (foolscaplaw16_StatsGrows.j1 kj10 l0 t261 t269 true))) = some r := H
                have A30 := Aside0.mk A300
                clear A300
                have HC31 := Aside0.mk H
                clear H
                go_upto_region 10 with (first | ((with_reducible refine gate_callee (f := 10) rfl ?_); refine goesL_ (some 68) rfl rfl Try.func10 (by kernel_rfl) rfl #[.slice A0 l0.length c0] rfl (by (try simp only [List.map_toArray, List.map_cons, List.map_nil]); first | done | rfl | (simp only [List.length_drop, List.length_take]; rfl)) ?_; (with_reducible refine (foolscaplaw16_own.calls _ _ l0 t255 _ ?side1 ?side2 A25.out).mono ?_); (case side1 => repeat (first | exact (Kd.C_below HR0.out HB.out) | (with_reducible refine Kd.C_alloc ?_ _) | (with_reducible refine Kd.C_drewN ?_ _) | (with_reducible refine Kd.C_drew ?_))); (case side2 => exact HC0.out); rintro e w32 ⟨v256, rfl, ho0, hb⟩; refine ⟨_, rfl, ?_⟩; have n0_ := Aside0.mk (Kd.R_lower ho0 (below_size (by repeat (first | (with_reducible first | exact HB.out | apply below_alloc | apply pw_below_drewN | apply below_drew1) | exact HB.out)))); have n1_ := Aside0.mk (below_step (by repeat (first | (with_reducible first | exact HB.out | apply below_alloc | apply pw_below_drewN | apply below_drew1) | exact HB.out)) hb); clear HB; have HO257 := n0_; have HB := n1_; clear n0_ n1_; (try clear hb); (try clear hb2); (try clear hk); (try clear hi); (try clear ho0)) | ((with_reducible refine gate_builtin (b := .append) (xs := #[.tmp 68, .tmp 70]) rfl ?_); (try (refine gate_guard (by rfl) ?_; dsimp only)); at_builtin; refine Kd.R_append (Kd.int .i64) (w0 := w) w.heap.size rfl (.tmp 68) (.tmp 70) 22 3 (.int .i64 0) 8 rfl Try.underlying22 info3 rfl (by decide) (by omega) v256 t255 a1 [.int .i64 a1] (fun _ => True) (fun _ => False) rfl rfl ?aP (fun _ hk => hk.elim) ?aF ?aO ?aB ?aS ?aL ?_; (case aP => exact rfl); (case aB => exact (by repeat (first | (with_reducible first | exact HB.out | apply below_alloc | apply pw_below_drewN | apply below_drew1) | exact HB.out))); (case aF => exact (fun _ _ => trivial)); (case aO => exact (by (with_reducible repeat (first | apply Kd.R_alloc | apply Kd.R_drewN | apply Kd.R_drew)); exact HO257.out)); (case aS => exact (below_size (by repeat (first | (with_reducible first | exact HB.out | apply below_alloc | apply pw_below_drewN | apply below_drew1) | exact HB.out)))); (case aL => have := LMc26.out; omega); intro v259 w33 ho hb hg hat; rw [← Ny258.out] at ho; have n0_ := Aside0.mk (hb); have n1_ := Aside0.mk (ho); clear HB; clear HO257; have HB := n0_; have HO260 := n1_; clear n0_ n1_; clear ho hb hg hat; obtain ⟨Ao34, co34, eo34⟩ := Kd.R_slice HO260.out; subst eo34) | ((with_reducible refine gate_callee (f := 15) rfl ?_); refine goesL_ (some 72) rfl rfl Try.func15 (by kernel_rfl) rfl #[.int .i64 a1, .slice Ao34 y258.length co34, .bool true] rfl (by (try simp only [List.map_toArray, List.map_cons, List.map_nil]); first | done | rfl | (simp only [List.length_drop, List.length_take]; rfl)) ?_; (with_reducible refine (stats_Rank.calls kj10 a1 _ _ y258 true t261 t262 _ ?side1 ?side2 A27.out).mono ?_); (case side1 => repeat (first | exact (Kd.R_reads' HO260.out).2.2 | (with_reducible refine Kd.C_alloc ?_ _) | (with_reducible refine Kd.C_drewN ?_ _) | (with_reducible refine Kd.C_drew ?_))); (case side2 => exact (Kd.R_reads' HO260.out).2.1); rintro e w' ⟨rfl, ⟨nd, rfl⟩⟩; refine ⟨_, rfl, ?_⟩) | ((with_reducible refine gate_callee (f := 10) rfl ?_); refine goesL_ (some 78) rfl rfl Try.func10 (by kernel_rfl) rfl #[.slice A0 l0.length c0] rfl (by (try simp only [List.map_toArray, List.map_cons, List.map_nil]); first | done | rfl | (simp only [List.length_drop, List.length_take]; rfl)) ?_; (with_reducible refine (foolscaplaw16_own.calls _ _ l0 t263 _ ?side1 ?side2 A28.out).mono ?_); (case side1 => repeat (first | exact (Kd.C_below HR0.out (by repeat (first | (with_reducible first | exact HB.out | apply below_alloc | apply pw_below_drewN | apply below_drew1) | exact HB.out))) | (with_reducible refine Kd.C_alloc ?_ _) | (with_reducible refine Kd.C_drewN ?_ _) | (with_reducible refine Kd.C_drew ?_))); (case side2 => exact HC0.out); rintro e w35 ⟨v264, rfl, ho0, hb⟩; refine ⟨_, rfl, ?_⟩; have n0_ := Aside0.mk (Kd.R_elder' (by (with_reducible repeat (first | apply Kd.R_alloc | apply Kd.R_drewN | apply Kd.R_drew)); exact HO260.out) (Kd.R_base ho0) hb); have n1_ := Aside0.mk (Kd.R_lower (Kd.R_new' ho0 (Kd.R_lt (by (with_reducible repeat (first | apply Kd.R_alloc | apply Kd.R_drewN | apply Kd.R_drew)); exact HO260.out))) (below_size (by repeat (first | (with_reducible first | exact HB.out | apply below_alloc | apply pw_below_drewN | apply below_drew1) | exact HB.out)))); have n2_ := Aside0.mk (below_step (by repeat (first | (with_reducible first | exact HB.out | apply below_alloc | apply pw_below_drewN | apply below_drew1) | exact HB.out)) hb); clear HO260; clear HB; have HO260 := n0_; have HO265 := n1_; have HB := n2_; clear n0_ n1_ n2_; (try clear hb); (try clear hb2); (try clear hk); (try clear hi); (try clear ho0)) | ((with_reducible refine gate_builtin (b := .append) (xs := #[.tmp 78, .tmp 80]) rfl ?_); (try (refine gate_guard (by rfl) ?_; dsimp only)); at_builtin; refine Kd.R_append (Kd.int .i64) (w0 := w) w.heap.size rfl (.tmp 78) (.tmp 80) 22 3 (.int .i64 0) 8 rfl Try.underlying22 info3 rfl (by decide) (by omega) v264 t263 a1 [.int .i64 a1] (fun k_ => some k_ ≠ (.slice Ao34 y258.length co34 : Value).ownBlock) (fun _ => False) rfl rfl ?aP (fun _ hk => hk.elim) ?aF ?aO ?aB ?aS ?aL ?_; (case aP => exact rfl); (case aB => exact (by repeat (first | (with_reducible first | exact HB.out | apply below_alloc | apply pw_below_drewN | apply below_drew1) | exact HB.out))); (case aF => exact (fun k_ hk => Kd.fresh' (Kd.R_lt (by (with_reducible repeat (first | apply Kd.R_alloc | apply Kd.R_drewN | apply Kd.R_drew)); exact HO260.out)) k_ hk)); (case aO => exact (by (with_reducible repeat (first | apply Kd.R_alloc | apply Kd.R_drewN | apply Kd.R_drew)); exact Kd.R_mono HO265.out (fun _ hk => hk.2))); (case aS => exact (below_size (by repeat (first | (with_reducible first | exact HB.out | apply below_alloc | apply pw_below_drewN | apply below_drew1) | exact HB.out)))); (case aL => have := LMc29.out; omega); intro v267 w36 ho hb hg hat; rw [← Ny266.out] at ho; have n0_ := Aside0.mk (Kd.R_after (ok := (fun _ => True)) (by (with_reducible repeat (first | apply Kd.R_alloc | apply Kd.R_drewN | apply Kd.R_drew)); exact HO260.out) hg hat); have n1_ := Aside0.mk (hb); have n2_ := Aside0.mk (ho); clear HO260; clear HB; clear HO265; have HO260 := n0_; have HB := n1_; have HO268 := n2_; clear n0_ n1_ n2_; clear ho hb hg hat; obtain ⟨Ao37, co37, eo37⟩ := Kd.R_slice HO268.out; subst eo37) | ((with_reducible refine gate_callee (f := 15) rfl ?_); refine goesL_ (some 82) rfl rfl Try.func15 (by kernel_rfl) rfl #[.int .i64 a1, .slice Ao37 y266.length co37, .bool false] rfl (by (try simp only [List.map_toArray, List.map_cons, List.map_nil]); first | done | rfl | (simp only [List.length_drop, List.length_take]; rfl)) ?_; (with_reducible refine (stats_Rank.calls kj10 a1 _ _ y266 false t269 t270 _ ?side1 ?side2 A30.out).mono ?_); (case side1 => repeat (first | exact (Kd.R_reads' HO268.out).2.2 | (with_reducible refine Kd.C_alloc ?_ _) | (with_reducible refine Kd.C_drewN ?_ _) | (with_reducible refine Kd.C_drew ?_))); (case side2 => exact (Kd.R_reads' HO268.out).2.1); rintro e w' ⟨rfl, ⟨nd, rfl⟩⟩; refine ⟨_, rfl, ?_⟩))
                (try simp only [Act.put, List.setIfInBounds_toArray, List.set_cons_zero, List.set_cons_succ])
                go_cut [94] (fun v94 wc => ∃ (kq : Nat) (x94_30 : Bool), v94 = .bool x94_30 ∧ Aside0 (foolscaplaw16_StatsGrows.j1 kq l0 t261 t269 x94_30 = some r) ∧ Aside0 (kq ≤ kj10) ∧ Aside0 (Below w.heap.size w wc))
                case first =>
                  have H := HC31.out
                  clear HC31
                  by_cases c38 : t243 = 5
                  · rw [if_pos c38] at H
                    have c38b0 : (t243 == 5) = true := beq_iff_eq.mpr c38
                    have c38b1 : (t243 != 5) = false := bne_eq_false_iff_eq.mpr c38
                    clear c38
                    (first | rw [c38b0] | (simp only [i64_w, i32_w]; rw [c38b0]) | skip)
                    have H' := Aside0.mk H
                    clear H
                    go_wp2
                    go_meet
                    case rel => exact ⟨_, (true), (by first | rfl | (simp; done) | (simp [*]; done)), H', ⟨by have := HJ10.out; first | omega | exact Nat.le_refl _⟩, ⟨by repeat (first | (with_reducible first | exact HB.out | apply below_alloc | apply pw_below_drewN | apply below_drew1) | exact HB.out)⟩⟩
                  · rw [if_neg c38] at H
                    have c38b0 : (t243 == 5) = false := beq_eq_false_iff_ne.mpr c38
                    have c38b1 : (t243 != 5) = true := bne_iff_ne.mpr c38
                    (first | rw [c38b0] | (simp only [i64_w, i32_w]; rw [c38b0]) | skip)
                    by_cases c39 : t262 = 0
                    · rw [if_pos c39] at H
                      have c39b0 : (t262 == 0) = true := beq_iff_eq.mpr c39
                      have c39b1 : (t262 != 0) = false := bne_eq_false_iff_eq.mpr c39
                      clear c39
                      have H' := Aside0.mk H
                      clear H
                      go_wp2
                      go_meet
                      case rel => exact ⟨_, ((t270 != 0)), (by first | rfl | (simp; done) | (simp [*]; done)), H', ⟨by have := HJ10.out; first | omega | exact Nat.le_refl _⟩, ⟨by repeat (first | (with_reducible first | exact HB.out | apply below_alloc | apply pw_below_drewN | apply below_drew1) | exact HB.out)⟩⟩
                    · rw [if_neg c39] at H
                      have c39b0 : (t262 == 0) = false := beq_eq_false_iff_ne.mpr c39
                      have c39b1 : (t262 != 0) = true := bne_iff_ne.mpr c39
                      have H' := Aside0.mk H
                      clear H
                      go_wp2
                      go_meet
                      case rel => exact ⟨_, (true), (by first | rfl | (simp; done) | (simp [*]; done)), H', ⟨by have := HJ10.out; first | omega | exact Nat.le_refl _⟩, ⟨by repeat (first | (with_reducible first | exact HB.out | apply below_alloc | apply pw_below_drewN | apply below_drew1) | exact HB.out)⟩⟩
                case rest =>
                  clear HC31
                  try clear c1
                  try clear c2
                  try clear p2
                  try clear c3
                  try clear c3b0
                  try clear c3b1
                  try clear c5
                  try clear c8
                  try clear c9
                  try clear c10
                  try clear c15
                  try clear c17
                  try clear c17b0
                  try clear c17b1
                  try clear c19
                  try clear c20
                  try clear c20b0
                  try clear c20b1
                  try clear c20b2
                  try clear c21
                  try clear c21b0
                  try clear c21b1
                  try clear c22
                  try clear c22b0
                  try clear c22b1
                  try clear c23
                  try clear c23b0
                  try clear c23b1
                  try clear c24
                  try clear c26
                  try clear c29
                  try clear c38
                  try clear c38b0
                  try clear c38b1
                  try clear c39
                  try clear c39b0
                  try clear c39b1
                  try clear p2
                  obtain ⟨kq, x94_30, rfl, HA, HJ30, HB⟩ := hcut
                  cases kq with
                  | zero => exact absurd HA.out (by simp [foolscaplaw16_StatsGrows.j1])
                  | succ kj30 =>
                    have H := HA.out
                    clear HA
                    simp only [foolscaplaw16_StatsGrows.j1] at H
                    by_cases c40 : x94_30 = true
                    · subst c40
                      have H1 : ((foolscaplaw16_lives.f kj30).bind fun t271 => (some t271)) = some r := by rw [if_pos rfl] at H; exact H
                      clear H
                      have H := H1
                      clear H1
                      replace H := Option.bind_eq_some_iff.mp H
                      obtain ⟨t271, A410, H⟩ := H
                      replace H : (some t271) = some r := H
                      have A41 := Aside0.mk A410
                      clear A410
                      obtain rfl := Option.some.inj H
                      simp only [Option.some.injEq, Prod.mk.injEq] at H
                      obtain ⟨rfl⟩ := H
                      go_wp2_with (first | ((with_reducible refine gate_callee (f := 9) rfl ?_); refine goesL_ (some 95) rfl rfl Try.func9 (by kernel_rfl) rfl #[] rfl (by (try simp only [List.map_toArray, List.map_cons, List.map_nil]); first | done | rfl | (simp only [List.length_drop, List.length_take]; rfl)) ?_; (with_reducible refine (foolscaplaw16_lives.calls kj30  t271 _ A41.out).mono ?_); rintro e w42 ⟨rfl, hb⟩; refine ⟨_, rfl, ?_⟩; have n0_ := Aside0.mk (below_step (by repeat (first | (with_reducible first | exact HB.out | apply below_alloc | apply pw_below_drewN | apply below_drew1) | exact HB.out)) hb); clear HB; have HB := n0_; clear n0_; (try clear hb); (try clear hb2); (try clear hk); (try clear hi)))
                      go_ret
                      exact ⟨by first | rfl | (simp [errW_none, errW_some] <;> rfl) | (simp [*, errW_none, errW_some] <;> rfl), by repeat (first | (with_reducible first | exact HB.out | apply below_alloc | apply pw_below_drewN | apply below_drew1) | exact HB.out)⟩
                    · replace c40 := Bool.eq_false_iff.mpr c40
                      subst c40
                      have H1 : (if t261 ≥ 1000000 then (if t269 ≥ 1000000 then (if (wrap64 (t261 + t269)) ≤ (wrap64 ((wrap64 ((l0.length : Int) + 2)) * 1000000)) then ((foolscaplaw16_lives.f kj30).bind fun t272 => (some t272)) else (some false)) else (some false)) else (some false)) = some r := by rw [if_neg (show ¬ (false = true) by decide)] at H; exact H
                      clear H
                      have H := H1
                      clear H1
                      by_cases c43 : t261 ≥ 1000000
                      · rw [if_pos c43] at H
                        have c43b0 : decide (1000000 ≤ t261) = true := decide_eq_true c43
                        clear c43
                        by_cases c44 : t269 ≥ 1000000
                        · rw [if_pos c44] at H
                          have c44b0 : decide (1000000 ≤ t269) = true := decide_eq_true c44
                          clear c44
                          by_cases c45 : (wrap64 (t261 + t269)) ≤ (wrap64 ((wrap64 ((l0.length : Int) + 2)) * 1000000))
                          · rw [if_pos c45] at H
                            have c45b0 : decide ((wrap64 (t261 + t269)) ≤ (wrap64 ((wrap64 ((l0.length : Int) + 2)) * 1000000))) = true := decide_eq_true c45
                            clear c45
                            replace H := Option.bind_eq_some_iff.mp H
                            obtain ⟨t272, A460, H⟩ := H
                            replace H : (some t272) = some r := H
                            have A46 := Aside0.mk A460
                            clear A460
                            obtain rfl := Option.some.inj H
                            simp only [Option.some.injEq, Prod.mk.injEq] at H
                            obtain ⟨rfl⟩ := H
                            go_wp2_with (first | (go_at_call 9; (with_reducible refine (foolscaplaw16_lives.calls kj30  t272 _ A46.out).mono ?_); rintro e w47 ⟨rfl, hb⟩; have n0_ := Aside0.mk (below_step (by repeat (first | (with_reducible first | exact HB.out | apply below_alloc | apply pw_below_drewN | apply below_drew1) | exact HB.out)) hb); clear HB; have HB := n0_; clear n0_; (try clear hb); (try clear hb2); (try clear hk); (try clear hi)))
                            go_ret
                            exact ⟨by first | rfl | (simp [errW_none, errW_some] <;> rfl) | (simp [*, errW_none, errW_some] <;> rfl), by repeat (first | (with_reducible first | exact HB.out | apply below_alloc | apply pw_below_drewN | apply below_drew1) | exact HB.out)⟩
                          · rw [if_neg c45] at H
                            have c45b0 : decide ((wrap64 (t261 + t269)) ≤ (wrap64 ((wrap64 ((l0.length : Int) + 2)) * 1000000))) = false := decide_eq_false c45
                            clear c45
                            obtain rfl := Option.some.inj H
                            exact absurd HR_.out (by decide)
                        · rw [if_neg c44] at H
                          have c44b0 : decide (1000000 ≤ t269) = false := decide_eq_false c44
                          clear c44
                          obtain rfl := Option.some.inj H
                          exact absurd HR_.out (by decide)
                      · rw [if_neg c43] at H
                        have c43b0 : decide (1000000 ≤ t261) = false := decide_eq_false c43
                        clear c43
                        obtain rfl := Option.some.inj H
                        exact absurd HR_.out (by decide)
              · rw [if_neg c29] at H
                exact absurd H (by simp)
            · rw [if_neg c26] at H
              exact absurd H (by simp)
    · rw [if_neg c8] at H
      exact absurd H (by simp)

/-- THE ONE PURE STATEMENT of foolscaplaw16_StatsGrows: yours. -/
def foolscaplaw16_StatsGrows.Pure : Prop := ∀ (l0 : List Int) (a1 : Int), l0.length ≤ maxLen → l0.length * 8 ≤ 140737488351232 → (∀ x ∈ l0, (Lit.int .i64 x).wf = true) → (Lit.int .i64 a1).wf = true → ∃ k, foolscaplaw16_StatsGrows.f k l0 a1 = some true
theorem foolscaplaw16_StatsGrows.walk (P : foolscaplaw16_StatsGrows.Pure) (a0 : Option Addr) (len0 cap0 : Nat) (z0 : List Int) (a1 : Int) (w : World) (w0 : (a0 = none ∧ len0 = 0 ∧ cap0 = 0 ∧ z0 = []) ∨ ∃ x, a0 = some x ∧ len0 ≤ cap0 ∧ cap0 ≤ maxLen ∧ z0.length = cap0 ∧ (∀ i, i < z0.length → w.cell? (x.add i) = some (.int .i64 (z0.getD i 0))) ∧ ∀ n ∈ z0, (Lit.int .i64 n).wf = true) (y0 : len0 * 8 ≤ 140737488351232) (w1 : (Lit.int .i64 a1).wf = true) :
    Calls Try.prog 5 #[.slice a0 len0 cap0, .int .i64 a1] w fun e w' => e = .returned (.bool true) ∧ Below w.heap.size w w' := by
  obtain ⟨l0, rfl, hr0, hm0, hw0, hc0⟩ := ReadsInt.ofRowC w0
  obtain ⟨k, h⟩ := P l0 a1 hm0 y0 hw0 w1
  refine (foolscaplaw16_StatsGrows.calls k _ _ l0 a1 true w (Kd.C_of_reads (d := (0 : Int)) (h1 := fun _ => rfl) hr0) hc0 h rfl).mono ?_
  rintro e w' ⟨rfl, hd⟩
  exact ⟨rfl, hd⟩

end Go.Proofs.Ytagohdalabhheaa.PG
