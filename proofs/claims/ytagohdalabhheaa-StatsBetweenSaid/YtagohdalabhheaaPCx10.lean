-- Written by this session's own program xprint.py, over the translation. Not trusted: Lean checks it.
import Derived.Test.YtagohdalabhheaaPCx0
import Derived.Test.YtagohdalabhheaaPCx5
import Derived.Test.YtagohdalabhheaaPCx7
import Derived.Test.YtagohdalabhheaaPCx9
namespace Go.Proofs.Ytagohdalabhheaa.PC
open Go.RowKit Go.Proofs.YtagohdalabhheaaW.PrintWords Go.Proofs.YtagohdalabhheaaW.PrintLast Go.Proofs.YtagohdalabhheaaW.PrintMore
attribute [local go_sem] max2_int min2_int max_two min_two max_three min_three max_four min_four   -- for this text's walks alone
set_option linter.unusedVariables false
set_option linter.unusedSimpArgs false

/-! ### foolscaplaw16_StatsBetween: function 8 -/
mutual
def foolscaplaw16_StatsBetween.j0 : Nat → List Int → Bool → Option (Bool)
  | 0, _, _ => none
  | k + 1, x0, x21 => if x21 = true then ((foolscaplaw16_lives.f k).bind fun t267 => (some t267)) else ((stats_Least.f k x0).bind fun bt268 => ((stats_Greatest.f k x0).bind fun bt270 => ((stats_Mean.f k x0).bind fun bt272 => ((stats_Median.f k x0).bind fun bt274 => (if bt268.2 = 0 then (foolscaplaw16_StatsBetween.l0 k x0 bt268.1 bt270.1 bt270.2 bt272.1 bt272.2 bt274.1 bt274.2 0 0 0) else (if bt268.2 = 5 then (if bt270.2 = 5 then (if bt272.2 = 5 then (if bt274.2 = 5 then ((foolscaplaw16_lives.f k).bind fun t276 => (some t276)) else (some false)) else (some false)) else (some false)) else (some false)))))))
def foolscaplaw16_StatsBetween.l0 : Nat → List Int → Int → Int → Int → Int → Int → Int → Int → Int → Int → Int → Option (Bool)
  | 0, _, _, _, _, _, _, _, _, _, _, _ => none
  | k + 1, x0, x3, x5, x6, x7, x8, x9, x10, x11, x12, x13 => if x13 < (x0.length : Int) then (if 0 ≤ x13 then (if (rd x0 x13) ≤ x9 then (foolscaplaw16_StatsBetween.j2 k x0 x3 x5 x6 x7 x8 x9 x10 (wrap64 (x11 + 1)) x12 x13) else (foolscaplaw16_StatsBetween.j2 k x0 x3 x5 x6 x7 x8 x9 x10 x11 x12 x13)) else (none)) else (if x6 = 0 then (if x8 = 0 then (if x10 = 0 then (if x7 ≥ x3 then (if x7 ≤ x5 then (if x9 ≥ x3 then (if x9 ≤ x5 then (if (wrap64 (2 * x11)) ≥ (x0.length : Int) then (if (wrap64 (2 * x12)) ≥ (x0.length : Int) then ((foolscaplaw16_lives.f k).bind fun t277 => (some t277)) else (some false)) else (some false)) else (some false)) else (some false)) else (some false)) else (some false)) else (some false)) else (some false)) else (some false))
def foolscaplaw16_StatsBetween.j2 : Nat → List Int → Int → Int → Int → Int → Int → Int → Int → Int → Int → Int → Option (Bool)
  | 0, _, _, _, _, _, _, _, _, _, _, _ => none
  | k + 1, x0, x3, x5, x6, x7, x8, x9, x10, x11, x12, x13 => if 0 ≤ x13 then (if x13 < (x0.length : Int) then (if (rd x0 x13) ≥ x9 then (if (rd x0 x13) < x3 then (some false) else (if (rd x0 x13) > x5 then (some false) else (foolscaplaw16_StatsBetween.l0 k x0 x3 x5 x6 x7 x8 x9 x10 x11 (wrap64 (x12 + 1)) (wrap64 (x13 + 1))))) else (if (rd x0 x13) < x3 then (some false) else (if (rd x0 x13) > x5 then (some false) else (foolscaplaw16_StatsBetween.l0 k x0 x3 x5 x6 x7 x8 x9 x10 x11 x12 (wrap64 (x13 + 1)))))) else (none)) else (none)
end
def foolscaplaw16_StatsBetween.f (k : Nat) (l0 : List Int) : Option (Bool) := if (l0.length : Int) = 0 then (foolscaplaw16_StatsBetween.j0 k l0 true) else (foolscaplaw16_StatsBetween.j0 k l0 (decide ((l0.length : Int) > 2000)))
theorem foolscaplaw16_StatsBetween.mono_l : ∀ k, (∀ y0 y1, LeO (foolscaplaw16_StatsBetween.j0 k y0 y1) (foolscaplaw16_StatsBetween.j0 (k + 1) y0 y1)) ∧ (∀ y0 y1 y2 y3 y4 y5 y6 y7 y8 y9 y10, LeO (foolscaplaw16_StatsBetween.l0 k y0 y1 y2 y3 y4 y5 y6 y7 y8 y9 y10) (foolscaplaw16_StatsBetween.l0 (k + 1) y0 y1 y2 y3 y4 y5 y6 y7 y8 y9 y10)) ∧ (∀ y0 y1 y2 y3 y4 y5 y6 y7 y8 y9 y10, LeO (foolscaplaw16_StatsBetween.j2 k y0 y1 y2 y3 y4 y5 y6 y7 y8 y9 y10) (foolscaplaw16_StatsBetween.j2 (k + 1) y0 y1 y2 y3 y4 y5 y6 y7 y8 y9 y10))
  | 0 => ⟨fun _ _ r h => by simp [foolscaplaw16_StatsBetween.j0] at h, fun _ _ _ _ _ _ _ _ _ _ _ r h => by simp [foolscaplaw16_StatsBetween.l0] at h, fun _ _ _ _ _ _ _ _ _ _ _ r h => by simp [foolscaplaw16_StatsBetween.j2] at h⟩
  | k + 1 => by
    obtain ⟨ih0, ih1, ih2⟩ := foolscaplaw16_StatsBetween.mono_l k
    refine ⟨?_, ?_, ?_⟩
    · intro y0 y1
      unfold foolscaplaw16_StatsBetween.j0
      repeat' first
      | (with_reducible exact ih0 _ _)
      | (with_reducible exact ih1 _ _ _ _ _ _ _ _ _ _ _)
      | (with_reducible exact ih2 _ _ _ _ _ _ _ _ _ _ _)
      | (with_reducible exact foolscaplaw16_lives.mono _)
      | (with_reducible exact stats_Greatest.mono _ _)
      | (with_reducible exact stats_Least.mono _ _)
      | (with_reducible exact stats_Mean.mono _ _)
      | (with_reducible exact stats_Median.mono _ _)
      | (with_reducible exact LeO.refl _)
      | (with_reducible exact LeO.none _)
      | (with_reducible refine LeO.ite ?_ ?_)
      | (with_reducible refine LeO.bind ?_ (fun _ => ?_))
      | exact ih0 _ _
      | exact ih1 _ _ _ _ _ _ _ _ _ _ _
      | exact ih2 _ _ _ _ _ _ _ _ _ _ _
      | exact foolscaplaw16_lives.mono _
      | exact stats_Greatest.mono _ _
      | exact stats_Least.mono _ _
      | exact stats_Mean.mono _ _
      | exact stats_Median.mono _ _
      | exact LeO.none _
      | refine LeO.ite ?_ ?_
      | refine LeO.bind ?_ (fun _ => ?_)
    · intro y0 y1 y2 y3 y4 y5 y6 y7 y8 y9 y10
      unfold foolscaplaw16_StatsBetween.l0
      repeat' first
      | (with_reducible exact ih0 _ _)
      | (with_reducible exact ih1 _ _ _ _ _ _ _ _ _ _ _)
      | (with_reducible exact ih2 _ _ _ _ _ _ _ _ _ _ _)
      | (with_reducible exact foolscaplaw16_lives.mono _)
      | (with_reducible exact stats_Greatest.mono _ _)
      | (with_reducible exact stats_Least.mono _ _)
      | (with_reducible exact stats_Mean.mono _ _)
      | (with_reducible exact stats_Median.mono _ _)
      | (with_reducible exact LeO.refl _)
      | (with_reducible exact LeO.none _)
      | (with_reducible refine LeO.ite ?_ ?_)
      | (with_reducible refine LeO.bind ?_ (fun _ => ?_))
      | exact ih0 _ _
      | exact ih1 _ _ _ _ _ _ _ _ _ _ _
      | exact ih2 _ _ _ _ _ _ _ _ _ _ _
      | exact foolscaplaw16_lives.mono _
      | exact stats_Greatest.mono _ _
      | exact stats_Least.mono _ _
      | exact stats_Mean.mono _ _
      | exact stats_Median.mono _ _
      | exact LeO.none _
      | refine LeO.ite ?_ ?_
      | refine LeO.bind ?_ (fun _ => ?_)
    · intro y0 y1 y2 y3 y4 y5 y6 y7 y8 y9 y10
      unfold foolscaplaw16_StatsBetween.j2
      repeat' first
      | (with_reducible exact ih0 _ _)
      | (with_reducible exact ih1 _ _ _ _ _ _ _ _ _ _ _)
      | (with_reducible exact ih2 _ _ _ _ _ _ _ _ _ _ _)
      | (with_reducible exact foolscaplaw16_lives.mono _)
      | (with_reducible exact stats_Greatest.mono _ _)
      | (with_reducible exact stats_Least.mono _ _)
      | (with_reducible exact stats_Mean.mono _ _)
      | (with_reducible exact stats_Median.mono _ _)
      | (with_reducible exact LeO.refl _)
      | (with_reducible exact LeO.none _)
      | (with_reducible refine LeO.ite ?_ ?_)
      | (with_reducible refine LeO.bind ?_ (fun _ => ?_))
      | exact ih0 _ _
      | exact ih1 _ _ _ _ _ _ _ _ _ _ _
      | exact ih2 _ _ _ _ _ _ _ _ _ _ _
      | exact foolscaplaw16_lives.mono _
      | exact stats_Greatest.mono _ _
      | exact stats_Least.mono _ _
      | exact stats_Mean.mono _ _
      | exact stats_Median.mono _ _
      | exact LeO.none _
      | refine LeO.ite ?_ ?_
      | refine LeO.bind ?_ (fun _ => ?_)
theorem foolscaplaw16_StatsBetween.mono : ∀ a0 k, LeO (foolscaplaw16_StatsBetween.f k a0) (foolscaplaw16_StatsBetween.f (k + 1) a0) := by
  intro a0 k
  obtain ⟨ih0, ih1, ih2⟩ := foolscaplaw16_StatsBetween.mono_l k
  unfold foolscaplaw16_StatsBetween.f
  repeat' first
      | (with_reducible exact ih0 _ _)
      | (with_reducible exact ih1 _ _ _ _ _ _ _ _ _ _ _)
      | (with_reducible exact ih2 _ _ _ _ _ _ _ _ _ _ _)
      | (with_reducible exact foolscaplaw16_lives.mono _)
      | (with_reducible exact stats_Greatest.mono _ _)
      | (with_reducible exact stats_Least.mono _ _)
      | (with_reducible exact stats_Mean.mono _ _)
      | (with_reducible exact stats_Median.mono _ _)
      | (with_reducible exact LeO.refl _)
      | (with_reducible exact LeO.none _)
      | (with_reducible refine LeO.ite ?_ ?_)
      | (with_reducible refine LeO.bind ?_ (fun _ => ?_))
      | exact ih0 _ _
      | exact ih1 _ _ _ _ _ _ _ _ _ _ _
      | exact ih2 _ _ _ _ _ _ _ _ _ _ _
      | exact foolscaplaw16_lives.mono _
      | exact stats_Greatest.mono _ _
      | exact stats_Least.mono _ _
      | exact stats_Mean.mono _ _
      | exact stats_Median.mono _ _
      | exact LeO.none _
      | refine LeO.ite ?_ ?_
      | refine LeO.bind ?_ (fun _ => ?_)
set_option maxHeartbeats 8000000 in
set_option maxRecDepth 100000 in
theorem foolscaplaw16_StatsBetween.calls (k : Nat) (A0 : Option Addr) (c0 : Nat) (l0 : List Int) (r : Bool) (w : World) (hr0 : Kd.C (Kd.int .i64) w A0 l0.length l0) (hc0 : l0.length ≤ c0) (h : foolscaplaw16_StatsBetween.f k l0 = some r) (hR_ : r = true) :
    Calls Try.prog 8 #[.slice A0 l0.length c0] w fun e w' => e = .returned (.bool r) ∧ Below w.heap.size w w' := by
  have HR_ := Aside0.mk hR_
  clear hR_
  have HR0 := Aside0.mk hr0
  have HC0 := Aside0.mk hc0
  clear hr0 hc0
  have HB := Aside0.mk (Below.refl w.heap.size w)
  have H : (if (l0.length : Int) = 0 then (foolscaplaw16_StatsBetween.j0 k l0 true) else (foolscaplaw16_StatsBetween.j0 k l0 (decide ((l0.length : Int) > 2000)))) = some r := h
  clear h
  have HC2 := Aside0.mk H
  clear H
  go_enter Try.func8, Try.ntmps8
  go_upto_region 1 with (fail)
  go_cut [21] (fun v21 wc => ∃ (kq : Nat) (x21_1 : Bool), v21 = .bool x21_1 ∧ Aside0 (foolscaplaw16_StatsBetween.j0 kq l0 x21_1 = some r) ∧ Aside0 (kq ≤ k) ∧ Aside0 (Below w.heap.size w wc))
  case first =>
    have H := HC2.out
    clear HC2
    by_cases c3 : (l0.length : Int) = 0
    · rw [if_pos c3] at H
      have c3b0 : ((l0.length : Int) == 0) = true := beq_iff_eq.mpr c3
      have c3b1 : ((l0.length : Int) != 0) = false := bne_eq_false_iff_eq.mpr c3
      clear c3
      (first | rw [c3b0] | (simp only [i64_w, i32_w]; rw [c3b0]) | skip)
      have H' := Aside0.mk H
      clear H
      go_wp2
      go_meet
      case rel => exact ⟨_, (true), (by first | rfl | (simp; done) | (simp [*]; done)), H', ⟨by first | omega | exact Nat.le_refl _⟩, ⟨by repeat (first | (with_reducible first | exact HB.out | apply below_alloc | apply pw_below_drewN | apply below_drew1) | exact HB.out)⟩⟩
    · rw [if_neg c3] at H
      have c3b0 : ((l0.length : Int) == 0) = false := beq_eq_false_iff_ne.mpr c3
      have c3b1 : ((l0.length : Int) != 0) = true := bne_iff_ne.mpr c3
      have c3b2 : ¬ (l0 = []) := fun h_ => c3 (by rw [h_]; rfl)
      (first | rw [c3b0] | (simp only [i64_w, i32_w]; rw [c3b0]) | skip)
      have H' := Aside0.mk H
      clear H
      go_wp2
      go_meet
      case rel => exact ⟨_, (decide ((l0.length : Int) > 2000)), (by first | rfl | (simp; done) | (simp [*]; done)), H', ⟨by first | omega | exact Nat.le_refl _⟩, ⟨by repeat (first | (with_reducible first | exact HB.out | apply below_alloc | apply pw_below_drewN | apply below_drew1) | exact HB.out)⟩⟩
  case rest =>
    clear HC2
    try clear p2
    try clear c3
    try clear c3b0
    try clear c3b1
    try clear c3b2
    obtain ⟨kq, x21_1, rfl, HA, HJ1, HB⟩ := hcut
    cases kq with
    | zero => exact absurd HA.out (by simp [foolscaplaw16_StatsBetween.j0])
    | succ kj1 =>
      have H := HA.out
      clear HA
      simp only [foolscaplaw16_StatsBetween.j0] at H
      by_cases c4 : x21_1 = true
      · subst c4
        have H1 : ((foolscaplaw16_lives.f kj1).bind fun t267 => (some t267)) = some r := by rw [if_pos rfl] at H; exact H
        clear H
        have H := H1
        clear H1
        replace H := Option.bind_eq_some_iff.mp H
        obtain ⟨t267, A50, H⟩ := H
        replace H : (some t267) = some r := H
        have A5 := Aside0.mk A50
        clear A50
        obtain rfl := Option.some.inj H
        simp only [Option.some.injEq, Prod.mk.injEq] at H
        obtain ⟨rfl⟩ := H
        go_wp2_with (first | ((with_reducible refine gate_callee (f := 9) rfl ?_); refine goesL_ (some 22) rfl rfl Try.func9 (by kernel_rfl) rfl #[] rfl (by (try simp only [List.map_toArray, List.map_cons, List.map_nil]); first | done | rfl | (simp only [List.length_drop, List.length_take]; rfl)) ?_; (with_reducible refine (foolscaplaw16_lives.calls kj1  t267 _ A5.out).mono ?_); rintro e w6 ⟨rfl, hb⟩; refine ⟨_, rfl, ?_⟩; have n0_ := Aside0.mk (below_step (by repeat (first | (with_reducible first | exact HB.out | apply below_alloc | apply pw_below_drewN | apply below_drew1) | exact HB.out)) hb); clear HB; have HB := n0_; clear n0_; (try clear hb); (try clear hb2); (try clear hk); (try clear hi)))
        go_ret
        exact ⟨by first | rfl | (simp [errW_none, errW_some] <;> rfl) | (simp [*, errW_none, errW_some] <;> rfl), by repeat (first | (with_reducible first | exact HB.out | apply below_alloc | apply pw_below_drewN | apply below_drew1) | exact HB.out)⟩
      · replace c4 := Bool.eq_false_iff.mpr c4
        subst c4
        have H1 : ((stats_Least.f kj1 l0).bind fun bt268 => ((stats_Greatest.f kj1 l0).bind fun bt270 => ((stats_Mean.f kj1 l0).bind fun bt272 => ((stats_Median.f kj1 l0).bind fun bt274 => (if bt268.2 = 0 then (foolscaplaw16_StatsBetween.l0 kj1 l0 bt268.1 bt270.1 bt270.2 bt272.1 bt272.2 bt274.1 bt274.2 0 0 0) else (if bt268.2 = 5 then (if bt270.2 = 5 then (if bt272.2 = 5 then (if bt274.2 = 5 then ((foolscaplaw16_lives.f kj1).bind fun t276 => (some t276)) else (some false)) else (some false)) else (some false)) else (some false))))))) = some r := by rw [if_neg (show ¬ (false = true) by decide)] at H; exact H
        clear H
        have H := H1
        clear H1
        replace H := Option.bind_eq_some_iff.mp H
        obtain ⟨⟨t268, t269⟩, A70, H⟩ := H
        replace H : ((stats_Greatest.f kj1 l0).bind fun bt270 => ((stats_Mean.f kj1 l0).bind fun bt272 => ((stats_Median.f kj1 l0).bind fun bt274 => (if t269 = 0 then (foolscaplaw16_StatsBetween.l0 kj1 l0 t268 bt270.1 bt270.2 bt272.1 bt272.2 bt274.1 bt274.2 0 0 0) else (if t269 = 5 then (if bt270.2 = 5 then (if bt272.2 = 5 then (if bt274.2 = 5 then ((foolscaplaw16_lives.f kj1).bind fun t276 => (some t276)) else (some false)) else (some false)) else (some false)) else (some false)))))) = some r := H
        have A7 := Aside0.mk A70
        clear A70
        replace H := Option.bind_eq_some_iff.mp H
        obtain ⟨⟨t270, t271⟩, A80, H⟩ := H
        replace H : ((stats_Mean.f kj1 l0).bind fun bt272 => ((stats_Median.f kj1 l0).bind fun bt274 => (if t269 = 0 then (foolscaplaw16_StatsBetween.l0 kj1 l0 t268 t270 t271 bt272.1 bt272.2 bt274.1 bt274.2 0 0 0) else (if t269 = 5 then (if t271 = 5 then (if bt272.2 = 5 then (if bt274.2 = 5 then ((foolscaplaw16_lives.f kj1).bind fun t276 => (some t276)) else (some false)) else (some false)) else (some false)) else (some false))))) = some r := H
        have A8 := Aside0.mk A80
        clear A80
        replace H := Option.bind_eq_some_iff.mp H
        obtain ⟨⟨t272, t273⟩, A90, H⟩ := H
        replace H : ((stats_Median.f kj1 l0).bind fun bt274 => (if t269 = 0 then (foolscaplaw16_StatsBetween.l0 kj1 l0 t268 t270 t271 t272 t273 bt274.1 bt274.2 0 0 0) else (if t269 = 5 then (if t271 = 5 then (if t273 = 5 then (if bt274.2 = 5 then ((foolscaplaw16_lives.f kj1).bind fun t276 => (some t276)) else (some false)) else (some false)) else (some false)) else (some false)))) = some r := H
        have A9 := Aside0.mk A90
        clear A90
        replace H := Option.bind_eq_some_iff.mp H
        obtain ⟨⟨t274, t275⟩, A100, H⟩ := H
        replace H : (if t269 = 0 then (foolscaplaw16_StatsBetween.l0 kj1 l0 t268 t270 t271 t272 t273 t274 t275 0 0 0) else (if t269 = 5 then (if t271 = 5 then (if t273 = 5 then (if t275 = 5 then ((foolscaplaw16_lives.f kj1).bind fun t276 => (some t276)) else (some false)) else (some false)) else (some false)) else (some false))) = some r := H
        have A10 := Aside0.mk A100
        clear A100
        by_cases c11 : t269 = 0
        · rw [if_pos c11] at H
          have c11b0 : (t269 == 0) = true := beq_iff_eq.mpr c11
          have c11b1 : (t269 != 0) = false := bne_eq_false_iff_eq.mpr c11
          clear c11
          have H' := Aside0.mk H
          clear H
          go_wp2_with (first | ((with_reducible refine gate_callee (f := 24) rfl ?_); refine goesL_ (some 25) rfl rfl Try.func24 (by kernel_rfl) rfl #[.slice A0 l0.length c0] rfl (by (try simp only [List.map_toArray, List.map_cons, List.map_nil]); first | done | rfl | (simp only [List.length_drop, List.length_take]; rfl)) ?_; (with_reducible refine (stats_Least.calls kj1 _ _ l0 t268 t269 _ ?side1 ?side2 A7.out).mono ?_); (case side1 => repeat (first | exact (Kd.C_below HR0.out HB.out) | (with_reducible refine Kd.C_alloc ?_ _) | (with_reducible refine Kd.C_drewN ?_ _) | (with_reducible refine Kd.C_drew ?_))); (case side2 => exact HC0.out); rintro e w12 ⟨rfl, hb⟩; refine ⟨_, rfl, ?_⟩; have n0_ := Aside0.mk (below_step (by repeat (first | (with_reducible first | exact HB.out | apply below_alloc | apply pw_below_drewN | apply below_drew1) | exact HB.out)) hb); clear HB; have HB := n0_; clear n0_; (try clear hb); (try clear hb2); (try clear hk); (try clear hi)) | ((with_reducible refine gate_callee (f := 26) rfl ?_); refine goesL_ (some 30) rfl rfl Try.func26 (by kernel_rfl) rfl #[.slice A0 l0.length c0] rfl (by (try simp only [List.map_toArray, List.map_cons, List.map_nil]); first | done | rfl | (simp only [List.length_drop, List.length_take]; rfl)) ?_; (with_reducible refine (stats_Greatest.calls kj1 _ _ l0 t270 t271 _ ?side1 ?side2 A8.out).mono ?_); (case side1 => repeat (first | exact (Kd.C_below HR0.out HB.out) | (with_reducible refine Kd.C_alloc ?_ _) | (with_reducible refine Kd.C_drewN ?_ _) | (with_reducible refine Kd.C_drew ?_))); (case side2 => exact HC0.out); rintro e w13 ⟨rfl, hb⟩; refine ⟨_, rfl, ?_⟩; have n0_ := Aside0.mk (below_step (by repeat (first | (with_reducible first | exact HB.out | apply below_alloc | apply pw_below_drewN | apply below_drew1) | exact HB.out)) hb); clear HB; have HB := n0_; clear n0_; (try clear hb); (try clear hb2); (try clear hk); (try clear hi)) | ((with_reducible refine gate_callee (f := 20) rfl ?_); refine goesL_ (some 35) rfl rfl Try.func20 (by kernel_rfl) rfl #[.slice A0 l0.length c0] rfl (by (try simp only [List.map_toArray, List.map_cons, List.map_nil]); first | done | rfl | (simp only [List.length_drop, List.length_take]; rfl)) ?_; (with_reducible refine (stats_Mean.calls kj1 _ _ l0 t272 t273 _ ?side1 ?side2 A9.out).mono ?_); (case side1 => repeat (first | exact (Kd.C_below HR0.out HB.out) | (with_reducible refine Kd.C_alloc ?_ _) | (with_reducible refine Kd.C_drewN ?_ _) | (with_reducible refine Kd.C_drew ?_))); (case side2 => exact HC0.out); rintro e w14 ⟨rfl, hb⟩; refine ⟨_, rfl, ?_⟩; have n0_ := Aside0.mk (below_step (by repeat (first | (with_reducible first | exact HB.out | apply below_alloc | apply pw_below_drewN | apply below_drew1) | exact HB.out)) hb); clear HB; have HB := n0_; clear n0_; (try clear hb); (try clear hb2); (try clear hk); (try clear hi)) | ((with_reducible refine gate_callee (f := 21) rfl ?_); refine goesL_ (some 40) rfl rfl Try.func21 (by kernel_rfl) rfl #[.slice A0 l0.length c0] rfl (by (try simp only [List.map_toArray, List.map_cons, List.map_nil]); first | done | rfl | (simp only [List.length_drop, List.length_take]; rfl)) ?_; (with_reducible refine (stats_Median.calls kj1 _ _ l0 t274 t275 _ ?side1 ?side2 A10.out).mono ?_); (case side1 => repeat (first | exact (Kd.C_below HR0.out HB.out) | (with_reducible refine Kd.C_alloc ?_ _) | (with_reducible refine Kd.C_drewN ?_ _) | (with_reducible refine Kd.C_drew ?_))); (case side2 => exact HC0.out); rintro e w15 ⟨rfl, hb⟩; refine ⟨_, rfl, ?_⟩; have n0_ := Aside0.mk (below_step (by repeat (first | (with_reducible first | exact HB.out | apply below_alloc | apply pw_below_drewN | apply below_drew1) | exact HB.out)) hb); clear HB; have HB := n0_; clear n0_; (try clear hb); (try clear hb2); (try clear hk); (try clear hi)))
          go_loopg [11, 12, 13] kj1 (fun kq v11 v12 v13 w' => ∃ (x11_2 : Int) (x12_2 : Int) (x13_2 : Int), v11 = .int .i64 x11_2 ∧ v12 = .int .i64 x12_2 ∧ v13 = .int .i64 x13_2 ∧ Aside0 (foolscaplaw16_StatsBetween.l0 kq l0 t268 t270 t271 t272 t273 t274 t275 x11_2 x12_2 x13_2 = some r) ∧ Aside0 (kq ≤ kj1) ∧ Aside0 (Below w.heap.size w w'))
          case atStart => exact ⟨(0), (0), (0), (by first | rfl | (simp; done) | (simp [*]; done)), (by first | rfl | (simp; done) | (simp [*]; done)), (by first | rfl | (simp; done) | (simp [*]; done)), H', ⟨Nat.le_refl _⟩, ⟨by repeat (first | (with_reducible first | exact HB.out | apply below_alloc | apply pw_below_drewN | apply below_drew1) | exact HB.out)⟩⟩
          case round =>
            clear H'
            try clear c1
            try clear c2
            try clear p2
            try clear c3
            try clear c3b0
            try clear c3b1
            try clear c3b2
            try clear c4
            try clear c8
            try clear c9
            try clear c11
            try clear c11b0
            try clear c11b1
            try clear p2
            obtain ⟨x11_2, x12_2, x13_2, rfl, rfl, rfl, HA, HK2, HB⟩ := hrel
            cases gk with
            | zero => exact absurd HA.out (by simp [foolscaplaw16_StatsBetween.l0])
            | succ k2 =>
              have H := HA.out
              clear HA
              simp only [foolscaplaw16_StatsBetween.l0] at H
              by_cases c16 : x13_2 < (l0.length : Int)
              · rw [if_pos c16] at H
                have c16b0 : decide (x13_2 < (l0.length : Int)) = true := decide_eq_true c16
                clear c16
                by_cases c17 : 0 ≤ x13_2
                · rw [if_pos c17] at H
                  have c17b0 : decide (0 ≤ x13_2) = true := decide_eq_true c17
                  clear c17
                  have HC18 := Aside0.mk H
                  clear H
                  have p278 : 0 ≤ (x13_2 : Int) := of_decide_eq_true (by first | (with_reducible assumption) | assumption)
                  have q278 : x13_2 < (l0.length : Int) := of_decide_eq_true (by first | (with_reducible assumption) | assumption)
                  obtain ⟨ad278, e278, hx278_0⟩ := Kd.at_int HR0.out x13_2 p278 q278
                  cases e278
                  replace hx278_0 := (HB.out.cell (World.block_lt_of_cell? w _ hx278_0)).trans hx278_0
                  replace p278 := eq_true p278
                  replace q278 := eq_true q278
                  go_upto_if 73 with (fail)
                  go_cut [11] (fun v11 wc => ∃ (kq : Nat) (x11_17 : Int), v11 = .int .i64 x11_17 ∧ Aside0 (foolscaplaw16_StatsBetween.j2 kq l0 t268 t270 t271 t272 t273 t274 t275 x11_17 x12_2 x13_2 = some r) ∧ Aside0 (kq ≤ k2) ∧ Aside0 (Below w.heap.size w wc))
                  case first =>
                    have H := HC18.out
                    clear HC18
                    by_cases c19 : (rd l0 x13_2) ≤ t274
                    · rw [if_pos c19] at H
                      have c19b0 : decide ((rd l0 x13_2) ≤ t274) = true := decide_eq_true c19
                      clear c19
                      (first | rw [c19b0] | (simp only [i64_w, i32_w]; rw [c19b0]) | skip)
                      have H' := Aside0.mk H
                      clear H
                      go_wp2
                      go_meet
                      case rel => exact ⟨_, (wrap64 (x11_2 + 1)), (by first | rfl | (simp; done) | (simp [*]; done)), H', ⟨by have := HJ1.out; have := HK2.out; first | omega | exact Nat.le_refl _⟩, ⟨by repeat (first | (with_reducible first | exact HB.out | apply below_alloc | apply pw_below_drewN | apply below_drew1) | exact HB.out)⟩⟩
                    · rw [if_neg c19] at H
                      have c19b0 : decide ((rd l0 x13_2) ≤ t274) = false := decide_eq_false c19
                      clear c19
                      (first | rw [c19b0] | (simp only [i64_w, i32_w]; rw [c19b0]) | skip)
                      have H' := Aside0.mk H
                      clear H
                      go_wp2
                      go_meet
                      case rel => exact ⟨_, (x11_2), (by first | rfl | (simp; done) | (simp [*]; done)), H', ⟨by have := HJ1.out; have := HK2.out; first | omega | exact Nat.le_refl _⟩, ⟨by repeat (first | (with_reducible first | exact HB.out | apply below_alloc | apply pw_below_drewN | apply below_drew1) | exact HB.out)⟩⟩
                  case rest =>
                    clear HC18
                    try clear c1
                    try clear c2
                    try clear p2
                    try clear q2
                    try clear hx2
                    try clear c3
                    try clear c3b0
                    try clear c3b1
                    try clear c3b2
                    try clear c4
                    try clear p6
                    try clear c8
                    try clear c9
                    try clear c11
                    try clear c11b0
                    try clear c11b1
                    try clear c16
                    try clear c16b0
                    try clear c17
                    try clear c17b0
                    try clear c19
                    try clear c19b0
                    try clear hx278_0
                    try clear p2
                    try clear p278
                    try clear q278
                    obtain ⟨kq, x11_17, rfl, HA, HJ17, HB⟩ := hcut
                    cases kq with
                    | zero => exact absurd HA.out (by simp [foolscaplaw16_StatsBetween.j2])
                    | succ kj17 =>
                      have H := HA.out
                      clear HA
                      simp only [foolscaplaw16_StatsBetween.j2] at H
                      by_cases c20 : 0 ≤ x13_2
                      · rw [if_pos c20] at H
                        have c20b0 : decide (0 ≤ x13_2) = true := decide_eq_true c20
                        clear c20
                        by_cases c21 : x13_2 < (l0.length : Int)
                        · rw [if_pos c21] at H
                          have c21b0 : decide (x13_2 < (l0.length : Int)) = true := decide_eq_true c21
                          clear c21
                          by_cases c22 : (rd l0 x13_2) ≥ t274
                          · rw [if_pos c22] at H
                            have c22b0 : decide (t274 ≤ (rd l0 x13_2)) = true := decide_eq_true c22
                            clear c22
                            by_cases c23 : (rd l0 x13_2) < t268
                            · rw [if_pos c23] at H
                              have c23b0 : decide ((rd l0 x13_2) < t268) = true := decide_eq_true c23
                              clear c23
                              obtain rfl := Option.some.inj H
                              exact absurd HR_.out (by decide)
                            · rw [if_neg c23] at H
                              have c23b0 : decide ((rd l0 x13_2) < t268) = false := decide_eq_false c23
                              clear c23
                              by_cases c24 : (rd l0 x13_2) > t270
                              · rw [if_pos c24] at H
                                have c24b0 : decide (t270 < (rd l0 x13_2)) = true := decide_eq_true c24
                                clear c24
                                obtain rfl := Option.some.inj H
                                exact absurd HR_.out (by decide)
                              · rw [if_neg c24] at H
                                have c24b0 : decide (t270 < (rd l0 x13_2)) = false := decide_eq_false c24
                                clear c24
                                have H' := Aside0.mk H
                                clear H
                                have p279 : 0 ≤ (x13_2 : Int) := of_decide_eq_true (by first | (with_reducible assumption) | assumption)
                                have q279 : x13_2 < (l0.length : Int) := of_decide_eq_true (by first | (with_reducible assumption) | assumption)
                                obtain ⟨ad279, e279, hx279_0⟩ := Kd.at_int HR0.out x13_2 p279 q279
                                obtain rfl : ad278 = ad279 := (by injection e279)
                                replace hx279_0 := (HB.out.cell (World.block_lt_of_cell? w _ hx279_0)).trans hx279_0
                                replace p279 := eq_true p279
                                replace q279 := eq_true q279
                                have p280 : 0 ≤ (x13_2 : Int) := of_decide_eq_true (by first | (with_reducible assumption) | assumption)
                                have q280 : x13_2 < (l0.length : Int) := of_decide_eq_true (by first | (with_reducible assumption) | assumption)
                                obtain ⟨ad280, e280, hx280_0⟩ := Kd.at_int HR0.out x13_2 p280 q280
                                obtain rfl : ad278 = ad280 := (by injection e280)
                                replace hx280_0 := (HB.out.cell (World.block_lt_of_cell? w _ hx280_0)).trans hx280_0
                                replace p280 := eq_true p280
                                replace q280 := eq_true q280
                                have p281 : 0 ≤ (x13_2 : Int) := of_decide_eq_true (by first | (with_reducible assumption) | assumption)
                                have q281 : x13_2 < (l0.length : Int) := of_decide_eq_true (by first | (with_reducible assumption) | assumption)
                                obtain ⟨ad281, e281, hx281_0⟩ := Kd.at_int HR0.out x13_2 p281 q281
                                obtain rfl : ad278 = ad281 := (by injection e281)
                                replace hx281_0 := (HB.out.cell (World.block_lt_of_cell? w _ hx281_0)).trans hx281_0
                                replace p281 := eq_true p281
                                replace q281 := eq_true q281
                                go_wp2
                                go_roundg kj17
                                case measure => have := HJ1.out; have := HK2.out; have := HJ17.out; omega
                                case rel => exact ⟨(x11_17), (wrap64 (x12_2 + 1)), (wrap64 (x13_2 + 1)), (by first | rfl | (simp; done) | (simp [*]; done)), (by first | rfl | (simp; done) | (simp [*]; done)), (by first | rfl | (simp; done) | (simp [*]; done)), H', ⟨by have := HJ1.out; have := HK2.out; have := HJ17.out; omega⟩, ⟨by repeat (first | (with_reducible first | exact HB.out | apply below_alloc | apply pw_below_drewN | apply below_drew1) | exact HB.out)⟩⟩
                          · rw [if_neg c22] at H
                            have c22b0 : decide (t274 ≤ (rd l0 x13_2)) = false := decide_eq_false c22
                            clear c22
                            by_cases c25 : (rd l0 x13_2) < t268
                            · rw [if_pos c25] at H
                              have c25b0 : decide ((rd l0 x13_2) < t268) = true := decide_eq_true c25
                              clear c25
                              obtain rfl := Option.some.inj H
                              exact absurd HR_.out (by decide)
                            · rw [if_neg c25] at H
                              have c25b0 : decide ((rd l0 x13_2) < t268) = false := decide_eq_false c25
                              clear c25
                              by_cases c26 : (rd l0 x13_2) > t270
                              · rw [if_pos c26] at H
                                have c26b0 : decide (t270 < (rd l0 x13_2)) = true := decide_eq_true c26
                                clear c26
                                obtain rfl := Option.some.inj H
                                exact absurd HR_.out (by decide)
                              · rw [if_neg c26] at H
                                have c26b0 : decide (t270 < (rd l0 x13_2)) = false := decide_eq_false c26
                                clear c26
                                have H' := Aside0.mk H
                                clear H
                                have p279 : 0 ≤ (x13_2 : Int) := of_decide_eq_true (by first | (with_reducible assumption) | assumption)
                                have q279 : x13_2 < (l0.length : Int) := of_decide_eq_true (by first | (with_reducible assumption) | assumption)
                                obtain ⟨ad279, e279, hx279_0⟩ := Kd.at_int HR0.out x13_2 p279 q279
                                obtain rfl : ad278 = ad279 := (by injection e279)
                                replace hx279_0 := (HB.out.cell (World.block_lt_of_cell? w _ hx279_0)).trans hx279_0
                                replace p279 := eq_true p279
                                replace q279 := eq_true q279
                                have p282 : 0 ≤ (x13_2 : Int) := of_decide_eq_true (by first | (with_reducible assumption) | assumption)
                                have q282 : x13_2 < (l0.length : Int) := of_decide_eq_true (by first | (with_reducible assumption) | assumption)
                                obtain ⟨ad282, e282, hx282_0⟩ := Kd.at_int HR0.out x13_2 p282 q282
                                obtain rfl : ad278 = ad282 := (by injection e282)
                                replace hx282_0 := (HB.out.cell (World.block_lt_of_cell? w _ hx282_0)).trans hx282_0
                                replace p282 := eq_true p282
                                replace q282 := eq_true q282
                                have p283 : 0 ≤ (x13_2 : Int) := of_decide_eq_true (by first | (with_reducible assumption) | assumption)
                                have q283 : x13_2 < (l0.length : Int) := of_decide_eq_true (by first | (with_reducible assumption) | assumption)
                                obtain ⟨ad283, e283, hx283_0⟩ := Kd.at_int HR0.out x13_2 p283 q283
                                obtain rfl : ad278 = ad283 := (by injection e283)
                                replace hx283_0 := (HB.out.cell (World.block_lt_of_cell? w _ hx283_0)).trans hx283_0
                                replace p283 := eq_true p283
                                replace q283 := eq_true q283
                                go_wp2
                                go_roundg kj17
                                case measure => have := HJ1.out; have := HK2.out; have := HJ17.out; omega
                                case rel => exact ⟨(x11_17), (x12_2), (wrap64 (x13_2 + 1)), (by first | rfl | (simp; done) | (simp [*]; done)), (by first | rfl | (simp; done) | (simp [*]; done)), (by first | rfl | (simp; done) | (simp [*]; done)), H', ⟨by have := HJ1.out; have := HK2.out; have := HJ17.out; omega⟩, ⟨by repeat (first | (with_reducible first | exact HB.out | apply below_alloc | apply pw_below_drewN | apply below_drew1) | exact HB.out)⟩⟩
                        · rw [if_neg c21] at H
                          exact absurd H (by simp)
                      · rw [if_neg c20] at H
                        exact absurd H (by simp)
                · rw [if_neg c17] at H
                  exact absurd H (by simp)
              · rw [if_neg c16] at H
                have c16b0 : decide (x13_2 < (l0.length : Int)) = false := decide_eq_false c16
                clear c16
                by_cases c27 : t271 = 0
                · rw [if_pos c27] at H
                  have c27b0 : (t271 == 0) = true := beq_iff_eq.mpr c27
                  have c27b1 : (t271 != 0) = false := bne_eq_false_iff_eq.mpr c27
                  clear c27
                  by_cases c28 : t273 = 0
                  · rw [if_pos c28] at H
                    have c28b0 : (t273 == 0) = true := beq_iff_eq.mpr c28
                    have c28b1 : (t273 != 0) = false := bne_eq_false_iff_eq.mpr c28
                    clear c28
                    by_cases c29 : t275 = 0
                    · rw [if_pos c29] at H
                      have c29b0 : (t275 == 0) = true := beq_iff_eq.mpr c29
                      have c29b1 : (t275 != 0) = false := bne_eq_false_iff_eq.mpr c29
                      clear c29
                      by_cases c30 : t272 ≥ t268
                      · rw [if_pos c30] at H
                        have c30b0 : decide (t268 ≤ t272) = true := decide_eq_true c30
                        clear c30
                        by_cases c31 : t272 ≤ t270
                        · rw [if_pos c31] at H
                          have c31b0 : decide (t272 ≤ t270) = true := decide_eq_true c31
                          clear c31
                          by_cases c32 : t274 ≥ t268
                          · rw [if_pos c32] at H
                            have c32b0 : decide (t268 ≤ t274) = true := decide_eq_true c32
                            clear c32
                            by_cases c33 : t274 ≤ t270
                            · rw [if_pos c33] at H
                              have c33b0 : decide (t274 ≤ t270) = true := decide_eq_true c33
                              clear c33
                              by_cases c34 : (wrap64 (2 * x11_2)) ≥ (l0.length : Int)
                              · rw [if_pos c34] at H
                                have c34b0 : decide ((l0.length : Int) ≤ (wrap64 (2 * x11_2))) = true := decide_eq_true c34
                                clear c34
                                by_cases c35 : (wrap64 (2 * x12_2)) ≥ (l0.length : Int)
                                · rw [if_pos c35] at H
                                  have c35b0 : decide ((l0.length : Int) ≤ (wrap64 (2 * x12_2))) = true := decide_eq_true c35
                                  clear c35
                                  replace H := Option.bind_eq_some_iff.mp H
                                  obtain ⟨t277, A360, H⟩ := H
                                  replace H : (some t277) = some r := H
                                  have A36 := Aside0.mk A360
                                  clear A360
                                  obtain rfl := Option.some.inj H
                                  simp only [Option.some.injEq, Prod.mk.injEq] at H
                                  obtain ⟨rfl⟩ := H
                                  go_wp2_with (first | (go_at_call 9; (with_reducible refine (foolscaplaw16_lives.calls k2  t277 _ A36.out).mono ?_); rintro e w37 ⟨rfl, hb⟩; have n0_ := Aside0.mk (below_step (by repeat (first | (with_reducible first | exact HB.out | apply below_alloc | apply pw_below_drewN | apply below_drew1) | exact HB.out)) hb); clear HB; have HB := n0_; clear n0_; (try clear hb); (try clear hb2); (try clear hk); (try clear hi)))
                                  go_ret
                                  exact ⟨by first | rfl | (simp [errW_none, errW_some] <;> rfl) | (simp [*, errW_none, errW_some] <;> rfl), by repeat (first | (with_reducible first | exact HB.out | apply below_alloc | apply pw_below_drewN | apply below_drew1) | exact HB.out)⟩
                                · rw [if_neg c35] at H
                                  have c35b0 : decide ((l0.length : Int) ≤ (wrap64 (2 * x12_2))) = false := decide_eq_false c35
                                  clear c35
                                  obtain rfl := Option.some.inj H
                                  exact absurd HR_.out (by decide)
                              · rw [if_neg c34] at H
                                have c34b0 : decide ((l0.length : Int) ≤ (wrap64 (2 * x11_2))) = false := decide_eq_false c34
                                clear c34
                                obtain rfl := Option.some.inj H
                                exact absurd HR_.out (by decide)
                            · rw [if_neg c33] at H
                              have c33b0 : decide (t274 ≤ t270) = false := decide_eq_false c33
                              clear c33
                              obtain rfl := Option.some.inj H
                              exact absurd HR_.out (by decide)
                          · rw [if_neg c32] at H
                            have c32b0 : decide (t268 ≤ t274) = false := decide_eq_false c32
                            clear c32
                            obtain rfl := Option.some.inj H
                            exact absurd HR_.out (by decide)
                        · rw [if_neg c31] at H
                          have c31b0 : decide (t272 ≤ t270) = false := decide_eq_false c31
                          clear c31
                          obtain rfl := Option.some.inj H
                          exact absurd HR_.out (by decide)
                      · rw [if_neg c30] at H
                        have c30b0 : decide (t268 ≤ t272) = false := decide_eq_false c30
                        clear c30
                        obtain rfl := Option.some.inj H
                        exact absurd HR_.out (by decide)
                    · rw [if_neg c29] at H
                      have c29b0 : (t275 == 0) = false := beq_eq_false_iff_ne.mpr c29
                      have c29b1 : (t275 != 0) = true := bne_iff_ne.mpr c29
                      obtain rfl := Option.some.inj H
                      exact absurd HR_.out (by decide)
                  · rw [if_neg c28] at H
                    have c28b0 : (t273 == 0) = false := beq_eq_false_iff_ne.mpr c28
                    have c28b1 : (t273 != 0) = true := bne_iff_ne.mpr c28
                    obtain rfl := Option.some.inj H
                    exact absurd HR_.out (by decide)
                · rw [if_neg c27] at H
                  have c27b0 : (t271 == 0) = false := beq_eq_false_iff_ne.mpr c27
                  have c27b1 : (t271 != 0) = true := bne_iff_ne.mpr c27
                  obtain rfl := Option.some.inj H
                  exact absurd HR_.out (by decide)
        · rw [if_neg c11] at H
          have c11b0 : (t269 == 0) = false := beq_eq_false_iff_ne.mpr c11
          have c11b1 : (t269 != 0) = true := bne_iff_ne.mpr c11
          by_cases c38 : t269 = 5
          · rw [if_pos c38] at H
            have c38b0 : (t269 == 5) = true := beq_iff_eq.mpr c38
            have c38b1 : (t269 != 5) = false := bne_eq_false_iff_eq.mpr c38
            clear c38
            by_cases c39 : t271 = 5
            · rw [if_pos c39] at H
              have c39b0 : (t271 == 5) = true := beq_iff_eq.mpr c39
              have c39b1 : (t271 != 5) = false := bne_eq_false_iff_eq.mpr c39
              clear c39
              by_cases c40 : t273 = 5
              · rw [if_pos c40] at H
                have c40b0 : (t273 == 5) = true := beq_iff_eq.mpr c40
                have c40b1 : (t273 != 5) = false := bne_eq_false_iff_eq.mpr c40
                clear c40
                by_cases c41 : t275 = 5
                · rw [if_pos c41] at H
                  have c41b0 : (t275 == 5) = true := beq_iff_eq.mpr c41
                  have c41b1 : (t275 != 5) = false := bne_eq_false_iff_eq.mpr c41
                  clear c41
                  replace H := Option.bind_eq_some_iff.mp H
                  obtain ⟨t276, A420, H⟩ := H
                  replace H : (some t276) = some r := H
                  have A42 := Aside0.mk A420
                  clear A420
                  obtain rfl := Option.some.inj H
                  simp only [Option.some.injEq, Prod.mk.injEq] at H
                  obtain ⟨rfl⟩ := H
                  go_wp2_with (first | ((with_reducible refine gate_callee (f := 24) rfl ?_); refine goesL_ (some 25) rfl rfl Try.func24 (by kernel_rfl) rfl #[.slice A0 l0.length c0] rfl (by (try simp only [List.map_toArray, List.map_cons, List.map_nil]); first | done | rfl | (simp only [List.length_drop, List.length_take]; rfl)) ?_; (with_reducible refine (stats_Least.calls kj1 _ _ l0 t268 t269 _ ?side1 ?side2 A7.out).mono ?_); (case side1 => repeat (first | exact (Kd.C_below HR0.out HB.out) | (with_reducible refine Kd.C_alloc ?_ _) | (with_reducible refine Kd.C_drewN ?_ _) | (with_reducible refine Kd.C_drew ?_))); (case side2 => exact HC0.out); rintro e w43 ⟨rfl, hb⟩; refine ⟨_, rfl, ?_⟩; have n0_ := Aside0.mk (below_step (by repeat (first | (with_reducible first | exact HB.out | apply below_alloc | apply pw_below_drewN | apply below_drew1) | exact HB.out)) hb); clear HB; have HB := n0_; clear n0_; (try clear hb); (try clear hb2); (try clear hk); (try clear hi)) | ((with_reducible refine gate_callee (f := 26) rfl ?_); refine goesL_ (some 30) rfl rfl Try.func26 (by kernel_rfl) rfl #[.slice A0 l0.length c0] rfl (by (try simp only [List.map_toArray, List.map_cons, List.map_nil]); first | done | rfl | (simp only [List.length_drop, List.length_take]; rfl)) ?_; (with_reducible refine (stats_Greatest.calls kj1 _ _ l0 t270 t271 _ ?side1 ?side2 A8.out).mono ?_); (case side1 => repeat (first | exact (Kd.C_below HR0.out HB.out) | (with_reducible refine Kd.C_alloc ?_ _) | (with_reducible refine Kd.C_drewN ?_ _) | (with_reducible refine Kd.C_drew ?_))); (case side2 => exact HC0.out); rintro e w44 ⟨rfl, hb⟩; refine ⟨_, rfl, ?_⟩; have n0_ := Aside0.mk (below_step (by repeat (first | (with_reducible first | exact HB.out | apply below_alloc | apply pw_below_drewN | apply below_drew1) | exact HB.out)) hb); clear HB; have HB := n0_; clear n0_; (try clear hb); (try clear hb2); (try clear hk); (try clear hi)) | ((with_reducible refine gate_callee (f := 20) rfl ?_); refine goesL_ (some 35) rfl rfl Try.func20 (by kernel_rfl) rfl #[.slice A0 l0.length c0] rfl (by (try simp only [List.map_toArray, List.map_cons, List.map_nil]); first | done | rfl | (simp only [List.length_drop, List.length_take]; rfl)) ?_; (with_reducible refine (stats_Mean.calls kj1 _ _ l0 t272 t273 _ ?side1 ?side2 A9.out).mono ?_); (case side1 => repeat (first | exact (Kd.C_below HR0.out HB.out) | (with_reducible refine Kd.C_alloc ?_ _) | (with_reducible refine Kd.C_drewN ?_ _) | (with_reducible refine Kd.C_drew ?_))); (case side2 => exact HC0.out); rintro e w45 ⟨rfl, hb⟩; refine ⟨_, rfl, ?_⟩; have n0_ := Aside0.mk (below_step (by repeat (first | (with_reducible first | exact HB.out | apply below_alloc | apply pw_below_drewN | apply below_drew1) | exact HB.out)) hb); clear HB; have HB := n0_; clear n0_; (try clear hb); (try clear hb2); (try clear hk); (try clear hi)) | ((with_reducible refine gate_callee (f := 21) rfl ?_); refine goesL_ (some 40) rfl rfl Try.func21 (by kernel_rfl) rfl #[.slice A0 l0.length c0] rfl (by (try simp only [List.map_toArray, List.map_cons, List.map_nil]); first | done | rfl | (simp only [List.length_drop, List.length_take]; rfl)) ?_; (with_reducible refine (stats_Median.calls kj1 _ _ l0 t274 t275 _ ?side1 ?side2 A10.out).mono ?_); (case side1 => repeat (first | exact (Kd.C_below HR0.out HB.out) | (with_reducible refine Kd.C_alloc ?_ _) | (with_reducible refine Kd.C_drewN ?_ _) | (with_reducible refine Kd.C_drew ?_))); (case side2 => exact HC0.out); rintro e w46 ⟨rfl, hb⟩; refine ⟨_, rfl, ?_⟩; have n0_ := Aside0.mk (below_step (by repeat (first | (with_reducible first | exact HB.out | apply below_alloc | apply pw_below_drewN | apply below_drew1) | exact HB.out)) hb); clear HB; have HB := n0_; clear n0_; (try clear hb); (try clear hb2); (try clear hk); (try clear hi)) | (go_at_call 9; (with_reducible refine (foolscaplaw16_lives.calls kj1  t276 _ A42.out).mono ?_); rintro e w47 ⟨rfl, hb⟩; have n0_ := Aside0.mk (below_step (by repeat (first | (with_reducible first | exact HB.out | apply below_alloc | apply pw_below_drewN | apply below_drew1) | exact HB.out)) hb); clear HB; have HB := n0_; clear n0_; (try clear hb); (try clear hb2); (try clear hk); (try clear hi)))
                  go_ret
                  exact ⟨by first | rfl | (simp [errW_none, errW_some] <;> rfl) | (simp [*, errW_none, errW_some] <;> rfl), by repeat (first | (with_reducible first | exact HB.out | apply below_alloc | apply pw_below_drewN | apply below_drew1) | exact HB.out)⟩
                · rw [if_neg c41] at H
                  have c41b0 : (t275 == 5) = false := beq_eq_false_iff_ne.mpr c41
                  have c41b1 : (t275 != 5) = true := bne_iff_ne.mpr c41
                  obtain rfl := Option.some.inj H
                  exact absurd HR_.out (by decide)
              · rw [if_neg c40] at H
                have c40b0 : (t273 == 5) = false := beq_eq_false_iff_ne.mpr c40
                have c40b1 : (t273 != 5) = true := bne_iff_ne.mpr c40
                obtain rfl := Option.some.inj H
                exact absurd HR_.out (by decide)
            · rw [if_neg c39] at H
              have c39b0 : (t271 == 5) = false := beq_eq_false_iff_ne.mpr c39
              have c39b1 : (t271 != 5) = true := bne_iff_ne.mpr c39
              obtain rfl := Option.some.inj H
              exact absurd HR_.out (by decide)
          · rw [if_neg c38] at H
            have c38b0 : (t269 == 5) = false := beq_eq_false_iff_ne.mpr c38
            have c38b1 : (t269 != 5) = true := bne_iff_ne.mpr c38
            obtain rfl := Option.some.inj H
            exact absurd HR_.out (by decide)

/-- THE ONE PURE STATEMENT of foolscaplaw16_StatsBetween: yours. -/
def foolscaplaw16_StatsBetween.Pure : Prop := ∀ (l0 : List Int), l0.length ≤ maxLen → l0.length * 8 ≤ 140737488351232 → (∀ x ∈ l0, (Lit.int .i64 x).wf = true) → ∃ k, foolscaplaw16_StatsBetween.f k l0 = some true
theorem foolscaplaw16_StatsBetween.walk (P : foolscaplaw16_StatsBetween.Pure) (a0 : Option Addr) (len0 cap0 : Nat) (z0 : List Int) (w : World) (w0 : (a0 = none ∧ len0 = 0 ∧ cap0 = 0 ∧ z0 = []) ∨ ∃ x, a0 = some x ∧ len0 ≤ cap0 ∧ cap0 ≤ maxLen ∧ z0.length = cap0 ∧ (∀ i, i < z0.length → w.cell? (x.add i) = some (.int .i64 (z0.getD i 0))) ∧ ∀ n ∈ z0, (Lit.int .i64 n).wf = true) (y0 : len0 * 8 ≤ 140737488351232) :
    Calls Try.prog 8 #[.slice a0 len0 cap0] w fun e w' => e = .returned (.bool true) ∧ Below w.heap.size w w' := by
  obtain ⟨l0, rfl, hr0, hm0, hw0, hc0⟩ := ReadsInt.ofRowC w0
  obtain ⟨k, h⟩ := P l0 hm0 y0 hw0
  refine (foolscaplaw16_StatsBetween.calls k _ _ l0 true w (Kd.C_of_reads (d := (0 : Int)) (h1 := fun _ => rfl) hr0) hc0 h rfl).mono ?_
  rintro e w' ⟨rfl, hd⟩
  exact ⟨rfl, hd⟩

end Go.Proofs.Ytagohdalabhheaa.PC
