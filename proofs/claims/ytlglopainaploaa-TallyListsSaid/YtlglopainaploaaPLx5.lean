-- Written by this session's own program xprint.py, over the translation. Not trusted: Lean checks it.
import Derived.Test.YtlglopainaploaaPLx0
import Derived.Test.YtlglopainaploaaPLx4
namespace Go.Proofs.Ytlglopainaploaa.PL
open Go.RowKit Go.Proofs.YtlglopainaploaaW.PrintWords Go.Proofs.YtlglopainaploaaW.PrintLast Go.Proofs.YtlglopainaploaaW.PrintMore
attribute [local go_sem] max2_int min2_int max_two min_two max_three min_three max_four min_four   -- for this text's walks alone
set_option linter.unusedVariables false
set_option linter.unusedSimpArgs false

/-! ### stats_kth_int: function 64 (a text of this session's own) -/
theorem add_off (g o j : Nat) : (⟨g, o, none⟩ : Addr).add j = ⟨g, o + j, none⟩ := by unfold Addr.add; split <;> simp_all
theorem add_block (a : Addr) (n : Nat) : (a.add n).block = a.block := by unfold Addr.add; split <;> rfl
/-- A part of a row of the call's own: what stands before it and behind it stays. -/
def Sg (px : List Value × List Value) (e : Nat) (w : World) (base : Nat) (ok : Nat → Prop) (v : Value) (xs : List Int) : Prop :=
  (∀ k, v.ownBlock = some k → ok k) ∧ ∃ g c, v = .slice (some ⟨g, px.1.length, none⟩) xs.length c ∧ base ≤ g ∧ xs.length ≤ c ∧ w.heap[g]? = some (.cells (px.1 ++ nums .i64 xs ++ px.2).toArray e (0, 0))
section
variable {px : List Value × List Value} {e : Nat} {w w1 : World} {base : Nat} {ok ok' : Nat → Prop} {v : Value} {xs : List Int}
theorem Sg.mono (h : Sg px e w base ok v xs) (hok : ∀ k, ok k → ok' k) : Sg px e w base ok' v xs := ⟨fun k hk => hok k (h.1 k hk), h.2⟩
theorem Sg.below (h : Sg px e w base ok v xs) (hb : Below w.heap.size w w1) : Sg px e w1 base ok v xs := by
  obtain ⟨h0, g, c, rfl, h1, h2, h3⟩ := h
  exact ⟨h0, g, c, rfl, h1, h2, (hb.block g (Array.getElem?_eq_some_iff.1 h3).1).trans h3⟩
theorem Sg.alloc (h : Sg px e w base ok v xs) (o : Obj) : Sg px e (w.alloc o) base ok v xs := below h (below_alloc (Below.refl _ _) o)
theorem Sg.drew (h : Sg px e w base ok v xs) : Sg px e w.drew base ok v xs := below h (below_drew (Below.refl _ _))
theorem Sg.drewN (h : Sg px e w base ok v xs) (m : Nat) : Sg px e (w.drewN m) base ok v xs := below h (pw_below_drewN (Below.refl _ _) m)
theorem Sg.slice' (h : Sg px e w base ok v xs) : ∃ A c, v = .slice A xs.length c ∧ xs.length ≤ c := by
  obtain ⟨h0, g, c, rfl, h1, h2, h3⟩ := h
  exact ⟨_, _, rfl, h2⟩
theorem Sg.slice (h : Sg px e w base ok v xs) : ∃ A c, v = .slice A xs.length c := by
  obtain ⟨A, c, h, _⟩ := slice' h
  exact ⟨A, c, h⟩
theorem Sg.reads' {A : Option Addr} {n c : Nat} (h : Sg px e w base ok (.slice A n c) xs) : n = xs.length ∧ n ≤ c := by
  obtain ⟨h0, g, c', he, h1, h2, h3⟩ := h
  injection he with e1 e2 e3
  omega
theorem Sg.cell (px : List Value × List Value) (xs : List Int) (i : Nat) (hi : i < xs.length) : (px.1 ++ nums .i64 xs ++ px.2).toArray[px.1.length + i]? = some (.int .i64 (rd xs i)) := by
  rw [List.getElem?_toArray, List.append_assoc, List.getElem?_append_right (by omega), Nat.add_sub_cancel_left, List.getElem?_append_left (by rw [nums_length]; exact hi)]
  simp [nums, rd, hi, List.getD_eq_getElem?_getD, List.getElem?_eq_getElem]
theorem Sg.at_int {A : Option Addr} {n c : Nat} (h : Sg px e w base ok (.slice A n c) xs) (i : Int) (h0 : 0 ≤ i) (h1 : i < xs.length) : ∃ ad, A = some ad ∧ w.cell? (ad.add i.toNat) = some (.int .i64 (rd xs i)) := by
  obtain ⟨_, g, c', he, _, _, h3⟩ := h
  injection he with e1 e2 e3
  refine ⟨_, e1, ?_⟩
  rw [add_off, blk_cell h3, cell px xs i.toNat (by omega), Int.toNat_of_nonneg h0]
theorem Sg.form (h : Sg px e w base ok v xs) (hp : 0 < xs.length) : ∃ g cap, v = .slice (some ⟨g, px.1.length, none⟩) xs.length cap ∧ base ≤ g ∧ g < w.heap.size ∧ ∃ cells, w.heap[g]? = some (.cells cells e (0, 0)) := by
  obtain ⟨_, g, c', he, h1, _, h3⟩ := h
  exact ⟨g, c', he, h1, (Array.getElem?_eq_some_iff.1 h3).1, _, h3⟩
theorem Sg.celln {g n cap : Nat} (h : Sg px e w base ok (.slice (some ⟨g, px.1.length, none⟩) n cap) xs) (i : Int) (h0 : 0 ≤ i) (hi : i < n) :
    w.cell? ⟨g, px.1.length + i.toNat, none⟩ = some (.int .i64 (rd xs i)) ∧ w.frozen? ⟨g, px.1.length + i.toNat, none⟩ = false := by
  obtain ⟨_, g', c', he, _, _, h3⟩ := h
  injection he with e1 e2 e3
  injection e1 with e1
  injection e1 with e1
  subst e1
  exact ⟨by rw [blk_cell h3, cell px xs i.toNat (by omega), Int.toNat_of_nonneg h0], blk_frozen h3 _⟩
theorem Sg.putn {g n cap : Nat} (h : Sg px e w base ok (.slice (some ⟨g, px.1.length, none⟩) n cap) xs) (i : Int) (x : Int) (h0 : 0 ≤ i) (hi : i < n) :
    Sg px e (w.setCell ⟨g, px.1.length + i.toNat, none⟩ (.int .i64 x)) base ok (.slice (some ⟨g, px.1.length, none⟩) n cap) (xs.set i.toNat x) := by
  obtain ⟨hk, g', c', he, h1, h2, h3⟩ := h
  injection he with e1 e2 e3
  injection e1 with e1
  injection e1 with e1
  subst e1 e2 e3
  refine ⟨hk, g, cap, by rw [List.length_set], h1, by rw [List.length_set]; exact h2, ?_⟩
  rw [heap_setCell_same w g _ _ e _ h3]
  congr 2
  apply Array.toList_inj.1
  simp only [Array.toList_setIfInBounds]
  rw [List.append_assoc, List.set_append_right _ _ (by omega), Nat.add_sub_cancel_left, List.set_append_left _ _ (by rw [nums_length]; omega)]
  simp [nums, List.map_set]
end
set_option maxHeartbeats 8000000 in
set_option maxRecDepth 100000 in
theorem stats_parted_int.segs (k : Nat) (px : List Value × List Value) (P0_ : Nat → Prop) (u9000_ : Value) (l0 : List Int) (a1 : Int) (r1 : Int) (r2 : Int) (r3 : List Int) (w0 w : World) (hB : Below w0.heap.size w0 w) (ho0 : Sg px 3 w w0.heap.size P0_ u9000_ l0) (h : stats_parted_int.f k l0 a1 = some (r1, r2, r3)) :
    Calls Try.prog 91 #[u9000_, .int .i64 a1] w fun e w' => e = .returned (.tuple #[.int .i64 r1, .int .i64 r2]) ∧ Sg px 3 w' w0.heap.size (fun k_ => (P0_ k_ ∨ w.heap.size ≤ k_)) u9000_ r3 ∧ Below w0.heap.size w0 w' ∧ Kept w w' (fun k_ => P0_ k_) := by
  have HO0 := Aside0.mk (show Sg px 3 w w0.heap.size (fun k_ => (P0_ k_ ∨ w.heap.size ≤ k_)) u9000_ l0 from Sg.mono ho0 (fun k_ hk => (.inl hk)))
  have HK := Aside0.mk (Kept.refl w (fun k_ => P0_ k_))
  have HW0 := Aside0.mk hB.size
  have HB := Aside0.mk hB
  clear hB
  have H : (stats_parted_int.l0 k l0 a1 0 0 (l0.length : Int)) = some (r1, r2, r3) := h
  clear h
  have H' := Aside0.mk H
  clear H
  obtain ⟨Ao3, co3, eo3⟩ := Sg.slice HO0.out
  subst eo3
  go_enter Try.func91, Try.ntmps91
  go_wp2
  go_loopg [6, 7, 8] k (fun kq v6 v7 v8 w' => ∃ (x0_1 : List Int) (x6_1 : Int) (x7_1 : Int) (x8_1 : Int), v6 = .int .i64 x6_1 ∧ v7 = .int .i64 x7_1 ∧ v8 = .int .i64 x8_1 ∧ Aside0 (stats_parted_int.l0 kq x0_1 a1 x6_1 x7_1 x8_1 = some (r1, r2, r3)) ∧ Aside0 (kq ≤ k) ∧ Aside0 (Sg px 3 w' w0.heap.size (fun k_ => (P0_ k_ ∨ w.heap.size ≤ k_)) (.slice Ao3 l0.length co3) x0_1) ∧ Aside0 (Kept w w' (fun k_ => P0_ k_)) ∧ Aside0 (Below w0.heap.size w0 w'))
  case atStart => exact ⟨(l0), (0), (0), ((l0.length : Int)), (by first | rfl | (simp; done) | (simp [*]; done)), (by first | rfl | (simp; done) | (simp [*]; done)), (by first | rfl | (simp; done) | (simp [*]; done)), H', ⟨Nat.le_refl _⟩, ⟨by (with_reducible repeat (first | apply Sg.alloc | apply Sg.drewN | apply Sg.drew)); exact HO0.out⟩, ⟨by repeat (first | (with_reducible first | exact HK.out | apply Kept.alloc | apply Kept.drewN | apply Kept.drew) | exact HK.out)⟩, ⟨by repeat (first | (with_reducible first | exact HB.out | apply below_alloc | apply pw_below_drewN | apply below_drew1) | exact HB.out)⟩⟩
  case round =>
    clear H'
    try clear p2
    obtain ⟨x0_1, x6_1, x7_1, x8_1, rfl, rfl, rfl, HA, HK1, HO_0, HK, HB⟩ := hrel
    have hl0_1 := (Sg.reads' HO_0.out).1
    rw [hl0_1] at HO_0
    (try simp only [hl0_1])
    cases gk with
    | zero => exact absurd HA.out (by simp [stats_parted_int.l0])
    | succ k1 =>
      have H := HA.out
      clear HA
      simp only [stats_parted_int.l0] at H
      by_cases c4 : x7_1 < x8_1
      · rw [if_pos c4] at H
        have c4b0 : decide (x7_1 < x8_1) = true := decide_eq_true c4
        clear c4
        by_cases c5 : 0 ≤ x7_1
        · rw [if_pos c5] at H
          have c5b0 : decide (0 ≤ x7_1) = true := decide_eq_true c5
          clear c5
          by_cases c6 : x7_1 < (x0_1.length : Int)
          · rw [if_pos c6] at H
            have c6b0 : decide (x7_1 < (x0_1.length : Int)) = true := decide_eq_true c6
            clear c6
            by_cases c7 : (rd x0_1 x7_1) < a1
            · rw [if_pos c7] at H
              have c7b0 : decide ((rd x0_1 x7_1) < a1) = true := decide_eq_true c7
              clear c7
              by_cases c8 : 0 ≤ x6_1
              · rw [if_pos c8] at H
                have c8b0 : decide (0 ≤ x6_1) = true := decide_eq_true c8
                clear c8
                by_cases c9 : x6_1 < (x0_1.length : Int)
                · rw [if_pos c9] at H
                  have c9b0 : decide (x6_1 < (x0_1.length : Int)) = true := decide_eq_true c9
                  clear c9
                  obtain ⟨y109, hy109⟩ : ∃ y_ : List Int, y_ = (x0_1.set (x6_1 : Int).toNat (rd x0_1 x7_1)) := ⟨_, rfl⟩
                  replace H : (stats_parted_int.l0 k1 (y109.set (x7_1 : Int).toNat (rd x0_1 x6_1)) a1 (wrap64 (x6_1 + 1)) (wrap64 (x7_1 + 1)) x8_1) = some (r1, r2, r3) := by first | (rw [hy109]; with_reducible exact H) | (have H2_ := (Option.bind_some _ _).symm.trans H; rw [hy109]; with_reducible exact H2_) | (have H2_ := (Option.bind_some _ _).symm.trans H; with_reducible exact H2_) | with_reducible exact H | (rw [hy109]; exact H) | exact H
                  have Ny109 := Aside0.mk hy109
                  clear hy109
                  obtain ⟨y110, hy110⟩ : ∃ y_ : List Int, y_ = (y109.set (x7_1 : Int).toNat (rd x0_1 x6_1)) := ⟨_, rfl⟩
                  replace H : (stats_parted_int.l0 k1 y110 a1 (wrap64 (x6_1 + 1)) (wrap64 (x7_1 + 1)) x8_1) = some (r1, r2, r3) := by first | (rw [hy110]; with_reducible exact H) | (have H2_ := (Option.bind_some _ _).symm.trans H; rw [hy110]; with_reducible exact H2_) | (have H2_ := (Option.bind_some _ _).symm.trans H; with_reducible exact H2_) | with_reducible exact H | (rw [hy110]; exact H) | exact H
                  have Ny110 := Aside0.mk hy110
                  clear hy110
                  have H' := Aside0.mk H
                  clear H
                  have p106 : 0 ≤ (x7_1 : Int) := of_decide_eq_true (by first | (with_reducible assumption) | assumption)
                  have q106 : x7_1 < (x0_1.length : Int) := of_decide_eq_true (by first | (with_reducible assumption) | assumption)
                  obtain ⟨ad106, e106, hx106_0⟩ := Sg.at_int HO_0.out x7_1 p106 q106
                  cases e106
                  replace p106 := eq_true p106
                  replace q106 := eq_true q106
                  try go_wp2
                  have n0_ := Aside0.mk (Sg.drew HO_0.out)
                  have n1_ := Aside0.mk (Kept.drew HK.out)
                  have n2_ := Aside0.mk (below_drew1 HB.out)
                  clear HO_0
                  clear HK
                  clear HB
                  have HO_0 := n0_
                  have HK := n1_
                  have HB := n2_
                  clear n0_ n1_ n2_
                  have p107 : 0 ≤ (x7_1 : Int) := of_decide_eq_true (by first | (with_reducible assumption) | assumption)
                  have q107 : x7_1 < (x0_1.length : Int) := of_decide_eq_true (by first | (with_reducible assumption) | assumption)
                  obtain ⟨ad107, e107, hx107_0⟩ := Sg.at_int HO_0.out x7_1 p107 q107
                  obtain rfl : ad106 = ad107 := (by injection e107)
                  replace p107 := eq_true p107
                  replace q107 := eq_true q107
                  have p108 : 0 ≤ (x6_1 : Int) := of_decide_eq_true (by first | (with_reducible assumption) | assumption)
                  have q108 : x6_1 < (x0_1.length : Int) := of_decide_eq_true (by first | (with_reducible assumption) | assumption)
                  obtain ⟨ad108, e108, hx108_0⟩ := Sg.at_int HO_0.out x6_1 p108 q108
                  obtain rfl : ad106 = ad108 := (by injection e108)
                  replace p108 := eq_true p108
                  replace q108 := eq_true q108
                  have p10 : 0 ≤ (x6_1 : Int) := of_decide_eq_true (by first | (with_reducible assumption) | assumption)
                  have q10 : (x6_1 : Int) < ((x0_1.length : Int) : Int) := of_decide_eq_true (by first | (with_reducible assumption) | assumption)
                  obtain ⟨go10, co10, eo10, gb10, gl10, cl10, HG10⟩ := Sg.form HO_0.out (by omega)
                  (first | cases eo10 | (injection eo10 with ea_ en_ ec_; (first | subst ea_ | (injection ea_ with ea_; subst ea_)); subst ec_; clear en_))
                  have GB10 := Aside0.mk gb10
                  have GG10 := Aside0.mk HG10
                  clear gb10 gl10 HG10
                  have HMgo10 := Aside0.mk (show (P0_ go10 ∨ w.heap.size ≤ go10) from (HO_0.out.1 _ rfl))
                  (first | simp only [add_off] at hx106_0 | skip)
                  (first | simp only [add_off] at hx107_0 | skip)
                  (first | simp only [add_off] at hx108_0 | skip)
                  obtain ⟨hx10_0, hf10_0⟩ := Sg.celln HO_0.out (x6_1 : Int) p10 q10
                  replace p10 := eq_true p10
                  replace q10 := eq_true q10
                  have HP13 := Sg.putn HO_0.out (x6_1 : Int) (rd x0_1 x7_1) (of_eq_true p10) (of_eq_true q10)
                  rw [← Ny109.out] at HP13
                  have HQ13 := Aside0.mk HP13
                  clear HP13
                  have p11 : 0 ≤ (x7_1 : Int) := of_decide_eq_true (by first | (with_reducible assumption) | assumption)
                  have q11 : (x7_1 : Int) < ((x0_1.length : Int) : Int) := of_decide_eq_true (by first | (with_reducible assumption) | assumption)
                  obtain ⟨hx11_0, hf11_0⟩ := Sg.celln HQ13.out (x7_1 : Int) p11 q11
                  replace p11 := eq_true p11
                  replace q11 := eq_true q11
                  have HP14 := Sg.putn HQ13.out (x7_1 : Int) (rd x0_1 x6_1) (of_eq_true p11) (of_eq_true q11)
                  rw [← Ny110.out] at HP14
                  have HQ14 := Aside0.mk HP14
                  clear HP14
                  refine start_ (n := 16) (S := fun w' => w'.cell? ⟨go10, px.1.length + (x7_1).toNat, none⟩ = some (.int .i64 (rd x0_1 x7_1)) ∧ w'.cell? ⟨go10, px.1.length + (x6_1).toNat, none⟩ = some (.int .i64 (rd x0_1 x6_1))) (ds := [13, 15]) #[false, false, false, false, false, false, false, false, false, false, false, false, false, false, false, false] (by kernel_rfl) rfl rfl ⟨hx107_0, hx108_0⟩ (fun hHeld => ?_); refine with_tabW stats_parted_int.tab5 stats_parted_int.bits5 (fun HT_ HW_ => ?_)
                  generalize wr.drew = w12 at HO_0 HK HB GG10 HQ13 HQ14 hf10_0 hf11_0 hx106_0 hx107_0 hx108_0 hx10_0 hx11_0 hHeld ⊢
                  refine pure_ (i := 0) (N := some 23) (v := ?_) (a' := ?_) #[true, false, false, false, false, false, false, false, false, false, false, false, false, false, false, false] rfl rfl (any_of HT_.out (by kernel_rfl)) (fun _ _ _ h => h) (Or.inl ⟨by rfl, ?_⟩) ?_ ?_
                  rotate_left
                  · intro w'
                    go_simp
                    with_reducible rfl
                  rotate_left
                  · simp only [Act.put, List.setIfInBounds_toArray, List.set_cons_zero, List.set_cons_succ, i64_w, i32_w]
                    rfl
                  refine pure_ (i := 1) (N := some 24) (v := ?_) (a' := ?_) #[true, true, false, false, false, false, false, false, false, false, false, false, false, false, false, false] rfl rfl (any_of HT_.out (by kernel_rfl)) (fun _ _ _ h => h) (Or.inl ⟨by rfl, ?_⟩) ?_ ?_
                  rotate_left
                  · intro w'
                    go_simp
                    with_reducible rfl
                  rotate_left
                  · simp only [Act.put, List.setIfInBounds_toArray, List.set_cons_zero, List.set_cons_succ, i64_w, i32_w]
                    rfl
                  refine pure_ (i := 2) (N := some 25) (v := ?_) (a' := ?_) #[true, true, true, false, false, false, false, false, false, false, false, false, false, false, false, false] rfl rfl (any_of HT_.out (by kernel_rfl)) (fun _ _ _ h => h) (Or.inl ⟨by rfl, ?_⟩) ?_ ?_
                  rotate_left
                  · intro w'
                    go_simp
                    with_reducible rfl
                  rotate_left
                  · simp only [Act.put, List.setIfInBounds_toArray, List.set_cons_zero, List.set_cons_succ, i64_w, i32_w]
                    rfl
                  refine pure_ (i := 3) (N := some 26) (v := ?_) (a' := ?_) #[true, true, true, true, false, false, false, false, false, false, false, false, false, false, false, false] rfl rfl (any_of HT_.out (by kernel_rfl)) (fun _ _ _ h => h) (Or.inl ⟨by rfl, ?_⟩) ?_ ?_
                  rotate_left
                  · intro w'
                    go_simp
                    with_reducible rfl
                  rotate_left
                  · simp only [Act.put, List.setIfInBounds_toArray, List.set_cons_zero, List.set_cons_succ, i64_w, i32_w]
                    rfl
                  refine pure_ (i := 4) (N := some 27) (v := ?_) (a' := ?_) #[true, true, true, true, true, false, false, false, false, false, false, false, false, false, false, false] rfl rfl (any_of HT_.out (by kernel_rfl)) (fun _ _ _ h => h) (Or.inl ⟨by rfl, ?_⟩) ?_ ?_
                  rotate_left
                  · intro w'
                    go_simp
                    with_reducible rfl
                  rotate_left
                  · simp only [Act.put, List.setIfInBounds_toArray, List.set_cons_zero, List.set_cons_succ, i64_w, i32_w]
                    rfl
                  refine pure_ (i := 5) (N := some 28) (v := ?_) (a' := ?_) #[true, true, true, true, true, true, false, false, false, false, false, false, false, false, false, false] rfl rfl (any_of HT_.out (by kernel_rfl)) (fun _ _ _ h => h) (Or.inl ⟨by rfl, ?_⟩) ?_ ?_
                  rotate_left
                  · intro w'
                    go_simp
                    with_reducible rfl
                  rotate_left
                  · simp only [Act.put, List.setIfInBounds_toArray, List.set_cons_zero, List.set_cons_succ, i64_w, i32_w]
                    rfl
                  refine pure_ (i := 6) (N := some 29) (v := ?_) (a' := ?_) #[true, true, true, true, true, true, true, false, false, false, false, false, false, false, false, false] rfl rfl (any_of HT_.out (by kernel_rfl)) (fun _ _ _ h => h) (Or.inl ⟨by rfl, ?_⟩) ?_ ?_
                  rotate_left
                  · intro w'
                    go_simp
                    with_reducible rfl
                  rotate_left
                  · simp only [Act.put, List.setIfInBounds_toArray, List.set_cons_zero, List.set_cons_succ, i64_w, i32_w]
                    rfl
                  refine pure_ (i := 8) (N := some 31) (v := ?_) (a' := ?_) #[true, true, true, true, true, true, true, false, true, false, false, false, false, false, false, false] rfl rfl (any_of HT_.out (by kernel_rfl)) (fun _ _ _ h => h) (Or.inl ⟨by rfl, ?_⟩) ?_ ?_
                  rotate_left
                  · intro w'
                    go_simp
                    with_reducible rfl
                  rotate_left
                  · simp only [Act.put, List.setIfInBounds_toArray, List.set_cons_zero, List.set_cons_succ, i64_w, i32_w]
                    rfl
                  refine pure_ (i := 9) (N := some 32) (v := ?_) (a' := ?_) #[true, true, true, true, true, true, true, false, true, true, false, false, false, false, false, false] rfl rfl (any_of HT_.out (by kernel_rfl)) (fun _ _ _ h => h) (Or.inl ⟨by rfl, ?_⟩) ?_ ?_
                  rotate_left
                  · intro w'
                    go_simp
                    with_reducible rfl
                  rotate_left
                  · simp only [Act.put, List.setIfInBounds_toArray, List.set_cons_zero, List.set_cons_succ, i64_w, i32_w]
                    rfl
                  refine pure_ (i := 10) (N := some 33) (v := ?_) (a' := ?_) #[true, true, true, true, true, true, true, false, true, true, true, false, false, false, false, false] rfl rfl (any_of HT_.out (by kernel_rfl)) (fun _ _ _ h => h) (Or.inl ⟨by rfl, ?_⟩) ?_ ?_
                  rotate_left
                  · intro w'
                    go_simp
                    with_reducible rfl
                  rotate_left
                  · simp only [Act.put, List.setIfInBounds_toArray, List.set_cons_zero, List.set_cons_succ, i64_w, i32_w]
                    rfl
                  refine take_ (i := 7) (N := some 30) (v := ?_) (a' := ?_) #[true, true, true, true, true, true, true, true, true, true, true, false, false, false, false, false] rfl rfl (take_ofW HT_.out HW_.out (by kernel_rfl)) (fun _ _ _ h => h) (Or.inl ⟨by rfl, ?_⟩) hHeld ?_ ?_
                  rotate_left
                  · rintro w' ⟨s0, s1⟩
                    go_simp
                    with_reducible rfl
                  rotate_left
                  · simp only [Act.put, List.setIfInBounds_toArray, List.set_cons_zero, List.set_cons_succ, i64_w, i32_w]
                    rfl
                  refine take_ (i := 11) (N := some 34) (v := ?_) (a' := ?_) #[true, true, true, true, true, true, true, true, true, true, true, true, false, false, false, false] rfl rfl (take_ofW HT_.out HW_.out (by kernel_rfl)) (fun _ _ _ h => h) (Or.inl ⟨by rfl, ?_⟩) hHeld ?_ ?_
                  rotate_left
                  · rintro w' ⟨s0, s1⟩
                    go_simp
                    with_reducible rfl
                  rotate_left
                  · simp only [Act.put, List.setIfInBounds_toArray, List.set_cons_zero, List.set_cons_succ, i64_w, i32_w]
                    rfl
                  refine pure_ (i := 12) (N := some 35) (v := ?_) (a' := ?_) #[true, true, true, true, true, true, true, true, true, true, true, true, true, false, false, false] rfl rfl (any_of HT_.out (by kernel_rfl)) (fun _ _ _ h => h) (Or.inl ⟨by rfl, ?_⟩) ?_ ?_
                  rotate_left
                  · intro w'
                    go_simp
                    with_reducible rfl
                  rotate_left
                  · simp only [Act.put, List.setIfInBounds_toArray, List.set_cons_zero, List.set_cons_succ, i64_w, i32_w]
                    rfl
                  refine last_ (i := 13) (N := none) #[true, true, true, true, true, true, true, true, true, true, true, true, true, true, false, false] rfl rfl (one_of HT_.out (by kernel_rfl)) (by decide) (fun K hK => ?_)
                  refine skip_ (w1 := ?_) (by rfl) rfl ?_ ?_
                  rotate_left
                  · go_simp
                    rfl
                  refine hK.out _ _ ?_
                  clear hK K
                  refine pure_ (i := 14) (N := some 36) (v := ?_) (a' := ?_) #[true, true, true, true, true, true, true, true, true, true, true, true, true, true, true, false] rfl rfl (any_of HT_.out (by kernel_rfl)) (fun _ _ _ h => h) (Or.inl ⟨by rfl, ?_⟩) ?_ ?_
                  rotate_left
                  · intro w'
                    go_simp
                    with_reducible rfl
                  rotate_left
                  · simp only [Act.put, List.setIfInBounds_toArray, List.set_cons_zero, List.set_cons_succ, i64_w, i32_w]
                    rfl
                  refine last_ (i := 15) (N := none) #[true, true, true, true, true, true, true, true, true, true, true, true, true, true, true, true] rfl rfl (one_of HT_.out (by kernel_rfl)) (by decide) (fun K hK => ?_)
                  refine skip_ (w1 := ?_) (by rfl) rfl ?_ ?_
                  rotate_left
                  · go_simp
                    rfl
                  refine hK.out _ _ ?_
                  clear hK K
                  refine done_ (done_of HT_.out (by kernel_rfl)) ?_
                  try go_wp2
                  (try simp only [← hl0_1])
                  go_roundg k1
                  case measure => have := HK1.out; omega
                  case rel => exact ⟨(y110), (wrap64 (x6_1 + 1)), (wrap64 (x7_1 + 1)), (x8_1), (by first | rfl | (simp; done) | (simp [*]; done)), (by first | rfl | (simp; done) | (simp [*]; done)), (by first | rfl | (simp; done) | (simp [*]; done)), H', ⟨by have := HK1.out; omega⟩, ⟨by (try simp only [hl0_1]); (with_reducible repeat (first | apply Sg.alloc | apply Sg.drewN | apply Sg.drew)); exact HQ14.out⟩, ⟨by repeat (first | (with_reducible first | exact HK.out | apply Kept.alloc | apply Kept.drewN | apply Kept.drew | refine Kept.setCell ?_ HMgo10.out _ | refine Kept.setCell ?_ HMgo10.out _) | exact HK.out)⟩, ⟨by repeat (first | (with_reducible first | exact HB.out | apply below_alloc | apply pw_below_drewN | apply below_drew1 | refine below_set ?_ GB10.out | refine below_set ?_ GB10.out) | exact HB.out)⟩⟩
                · rw [if_neg c9] at H
                  exact absurd H (by simp)
              · rw [if_neg c8] at H
                exact absurd H (by simp)
            · rw [if_neg c7] at H
              have c7b0 : decide ((rd x0_1 x7_1) < a1) = false := decide_eq_false c7
              clear c7
              by_cases c15 : (rd x0_1 x7_1) > a1
              · rw [if_pos c15] at H
                have c15b0 : decide (a1 < (rd x0_1 x7_1)) = true := decide_eq_true c15
                clear c15
                obtain ⟨ji16, hji16⟩ : ∃ j_ : Int, (wrap64 (x8_1 - 1)) = j_ := ⟨_, rfl⟩
                replace H : (if 0 ≤ (ji16) then (if (ji16) < (x0_1.length : Int) then (stats_parted_int.l0 k1 ((x0_1.set ((ji16) : Int).toNat (rd x0_1 x7_1)).set (x7_1 : Int).toNat (rd x0_1 (ji16))) a1 x6_1 x7_1 ji16) else (none)) else (none)) = some (r1, r2, r3) := by first | (rw [hji16] at H; exact H) | (simp only [hji16] at H ⊢; exact H)
                have hji16w : (IntKind.i64.wrap (x8_1 - 1)) = ji16 := (i64_w _).trans hji16
                by_cases c17 : 0 ≤ (ji16)
                · rw [if_pos c17] at H
                  have c17b0 : decide (0 ≤ (ji16)) = true := decide_eq_true c17
                  clear c17
                  by_cases c18 : (ji16) < (x0_1.length : Int)
                  · rw [if_pos c18] at H
                    have c18b0 : decide ((ji16) < (x0_1.length : Int)) = true := decide_eq_true c18
                    clear c18
                    obtain ⟨y114, hy114⟩ : ∃ y_ : List Int, y_ = (x0_1.set ((ji16) : Int).toNat (rd x0_1 x7_1)) := ⟨_, rfl⟩
                    replace H : (stats_parted_int.l0 k1 (y114.set (x7_1 : Int).toNat (rd x0_1 (ji16))) a1 x6_1 x7_1 ji16) = some (r1, r2, r3) := by first | (rw [hy114]; with_reducible exact H) | (have H2_ := (Option.bind_some _ _).symm.trans H; rw [hy114]; with_reducible exact H2_) | (have H2_ := (Option.bind_some _ _).symm.trans H; with_reducible exact H2_) | with_reducible exact H | (rw [hy114]; exact H) | exact H
                    have Ny114 := Aside0.mk hy114
                    clear hy114
                    obtain ⟨y115, hy115⟩ : ∃ y_ : List Int, y_ = (y114.set (x7_1 : Int).toNat (rd x0_1 (ji16))) := ⟨_, rfl⟩
                    replace H : (stats_parted_int.l0 k1 y115 a1 x6_1 x7_1 ji16) = some (r1, r2, r3) := by first | (rw [hy115]; with_reducible exact H) | (have H2_ := (Option.bind_some _ _).symm.trans H; rw [hy115]; with_reducible exact H2_) | (have H2_ := (Option.bind_some _ _).symm.trans H; with_reducible exact H2_) | with_reducible exact H | (rw [hy115]; exact H) | exact H
                    have Ny115 := Aside0.mk hy115
                    clear hy115
                    have H' := Aside0.mk H
                    clear H
                    have p106 : 0 ≤ (x7_1 : Int) := of_decide_eq_true (by first | (with_reducible assumption) | assumption)
                    have q106 : x7_1 < (x0_1.length : Int) := of_decide_eq_true (by first | (with_reducible assumption) | assumption)
                    obtain ⟨ad106, e106, hx106_0⟩ := Sg.at_int HO_0.out x7_1 p106 q106
                    cases e106
                    replace p106 := eq_true p106
                    replace q106 := eq_true q106
                    have p111 : 0 ≤ (x7_1 : Int) := of_decide_eq_true (by first | (with_reducible assumption) | assumption)
                    have q111 : x7_1 < (x0_1.length : Int) := of_decide_eq_true (by first | (with_reducible assumption) | assumption)
                    obtain ⟨ad111, e111, hx111_0⟩ := Sg.at_int HO_0.out x7_1 p111 q111
                    obtain rfl : ad106 = ad111 := (by injection e111)
                    replace p111 := eq_true p111
                    replace q111 := eq_true q111
                    try go_wp2
                    have n0_ := Aside0.mk (Sg.drew HO_0.out)
                    have n1_ := Aside0.mk (Kept.drew HK.out)
                    have n2_ := Aside0.mk (below_drew1 HB.out)
                    clear HO_0
                    clear HK
                    clear HB
                    have HO_0 := n0_
                    have HK := n1_
                    have HB := n2_
                    clear n0_ n1_ n2_
                    have p112 : 0 ≤ (x7_1 : Int) := of_decide_eq_true (by first | (with_reducible assumption) | assumption)
                    have q112 : x7_1 < (x0_1.length : Int) := of_decide_eq_true (by first | (with_reducible assumption) | assumption)
                    obtain ⟨ad112, e112, hx112_0⟩ := Sg.at_int HO_0.out x7_1 p112 q112
                    obtain rfl : ad106 = ad112 := (by injection e112)
                    replace p112 := eq_true p112
                    replace q112 := eq_true q112
                    have p113 : 0 ≤ ((ji16) : Int) := of_decide_eq_true (by first | (with_reducible assumption) | assumption)
                    have q113 : (ji16) < (x0_1.length : Int) := of_decide_eq_true (by first | (with_reducible assumption) | assumption)
                    obtain ⟨ad113, e113, hx113_0⟩ := Sg.at_int HO_0.out (ji16) p113 q113
                    obtain rfl : ad106 = ad113 := (by injection e113)
                    replace p113 := eq_true p113
                    replace q113 := eq_true q113
                    have p19 : 0 ≤ ((ji16) : Int) := of_decide_eq_true (by first | (with_reducible assumption) | assumption)
                    have q19 : ((ji16) : Int) < ((x0_1.length : Int) : Int) := of_decide_eq_true (by first | (with_reducible assumption) | assumption)
                    obtain ⟨go19, co19, eo19, gb19, gl19, cl19, HG19⟩ := Sg.form HO_0.out (by omega)
                    (first | cases eo19 | (injection eo19 with ea_ en_ ec_; (first | subst ea_ | (injection ea_ with ea_; subst ea_)); subst ec_; clear en_))
                    have GB19 := Aside0.mk gb19
                    have GG19 := Aside0.mk HG19
                    clear gb19 gl19 HG19
                    have HMgo19 := Aside0.mk (show (P0_ go19 ∨ w.heap.size ≤ go19) from (HO_0.out.1 _ rfl))
                    (first | simp only [add_off] at hx106_0 | skip)
                    (first | simp only [add_off] at hx111_0 | skip)
                    (first | simp only [add_off] at hx112_0 | skip)
                    (first | simp only [add_off] at hx113_0 | skip)
                    obtain ⟨hx19_0, hf19_0⟩ := Sg.celln HO_0.out ((ji16) : Int) p19 q19
                    replace p19 := eq_true p19
                    replace q19 := eq_true q19
                    have HP22 := Sg.putn HO_0.out ((ji16) : Int) (rd x0_1 x7_1) (of_eq_true p19) (of_eq_true q19)
                    rw [← Ny114.out] at HP22
                    have HQ22 := Aside0.mk HP22
                    clear HP22
                    have p20 : 0 ≤ (x7_1 : Int) := of_decide_eq_true (by first | (with_reducible assumption) | assumption)
                    have q20 : (x7_1 : Int) < ((x0_1.length : Int) : Int) := of_decide_eq_true (by first | (with_reducible assumption) | assumption)
                    obtain ⟨hx20_0, hf20_0⟩ := Sg.celln HQ22.out (x7_1 : Int) p20 q20
                    replace p20 := eq_true p20
                    replace q20 := eq_true q20
                    have HP23 := Sg.putn HQ22.out (x7_1 : Int) (rd x0_1 (ji16)) (of_eq_true p20) (of_eq_true q20)
                    rw [← Ny115.out] at HP23
                    have HQ23 := Aside0.mk HP23
                    clear HP23
                    refine start_ (n := 16) (S := fun w' => w'.cell? ⟨go19, px.1.length + (x7_1).toNat, none⟩ = some (.int .i64 (rd x0_1 x7_1)) ∧ w'.cell? ⟨go19, px.1.length + ((ji16)).toNat, none⟩ = some (.int .i64 (rd x0_1 (ji16)))) (ds := [13, 15]) #[false, false, false, false, false, false, false, false, false, false, false, false, false, false, false, false] (by kernel_rfl) rfl rfl ⟨hx112_0, hx113_0⟩ (fun hHeld => ?_); refine with_tabW stats_parted_int.tab9 stats_parted_int.bits9 (fun HT_ HW_ => ?_)
                    generalize wr.drew = w21 at HO_0 HK HB GG19 HQ22 HQ23 hf19_0 hf20_0 hx106_0 hx111_0 hx112_0 hx113_0 hx19_0 hx20_0 hHeld ⊢
                    refine pure_ (i := 0) (N := some 50) (v := ?_) (a' := ?_) #[true, false, false, false, false, false, false, false, false, false, false, false, false, false, false, false] rfl rfl (any_of HT_.out (by kernel_rfl)) (fun _ _ _ h => h) (Or.inl ⟨by rfl, ?_⟩) ?_ ?_
                    rotate_left
                    · intro w'
                      go_simp
                      with_reducible rfl
                    rotate_left
                    · simp only [Act.put, List.setIfInBounds_toArray, List.set_cons_zero, List.set_cons_succ, i64_w, i32_w]
                      rfl
                    refine pure_ (i := 1) (N := some 51) (v := ?_) (a' := ?_) #[true, true, false, false, false, false, false, false, false, false, false, false, false, false, false, false] rfl rfl (any_of HT_.out (by kernel_rfl)) (fun _ _ _ h => h) (Or.inl ⟨by rfl, ?_⟩) ?_ ?_
                    rotate_left
                    · intro w'
                      go_simp
                      with_reducible rfl
                    rotate_left
                    · simp only [Act.put, List.setIfInBounds_toArray, List.set_cons_zero, List.set_cons_succ, i64_w, i32_w]
                      rfl
                    refine pure_ (i := 2) (N := some 52) (v := ?_) (a' := ?_) #[true, true, true, false, false, false, false, false, false, false, false, false, false, false, false, false] rfl rfl (any_of HT_.out (by kernel_rfl)) (fun _ _ _ h => h) (Or.inl ⟨by rfl, ?_⟩) ?_ ?_
                    rotate_left
                    · intro w'
                      go_simp
                      with_reducible rfl
                    rotate_left
                    · simp only [Act.put, List.setIfInBounds_toArray, List.set_cons_zero, List.set_cons_succ, i64_w, i32_w]
                      rfl
                    refine pure_ (i := 3) (N := some 53) (v := ?_) (a' := ?_) #[true, true, true, true, false, false, false, false, false, false, false, false, false, false, false, false] rfl rfl (any_of HT_.out (by kernel_rfl)) (fun _ _ _ h => h) (Or.inl ⟨by rfl, ?_⟩) ?_ ?_
                    rotate_left
                    · intro w'
                      go_simp
                      with_reducible rfl
                    rotate_left
                    · simp only [Act.put, List.setIfInBounds_toArray, List.set_cons_zero, List.set_cons_succ, i64_w, i32_w]
                      rfl
                    refine pure_ (i := 4) (N := some 54) (v := ?_) (a' := ?_) #[true, true, true, true, true, false, false, false, false, false, false, false, false, false, false, false] rfl rfl (any_of HT_.out (by kernel_rfl)) (fun _ _ _ h => h) (Or.inl ⟨by rfl, ?_⟩) ?_ ?_
                    rotate_left
                    · intro w'
                      go_simp
                      with_reducible rfl
                    rotate_left
                    · simp only [Act.put, List.setIfInBounds_toArray, List.set_cons_zero, List.set_cons_succ, i64_w, i32_w]
                      rfl
                    refine pure_ (i := 5) (N := some 55) (v := ?_) (a' := ?_) #[true, true, true, true, true, true, false, false, false, false, false, false, false, false, false, false] rfl rfl (any_of HT_.out (by kernel_rfl)) (fun _ _ _ h => h) (Or.inl ⟨by rfl, ?_⟩) ?_ ?_
                    rotate_left
                    · intro w'
                      go_simp
                      with_reducible rfl
                    rotate_left
                    · simp only [Act.put, List.setIfInBounds_toArray, List.set_cons_zero, List.set_cons_succ, i64_w, i32_w]
                      rfl
                    refine pure_ (i := 6) (N := some 56) (v := ?_) (a' := ?_) #[true, true, true, true, true, true, true, false, false, false, false, false, false, false, false, false] rfl rfl (any_of HT_.out (by kernel_rfl)) (fun _ _ _ h => h) (Or.inl ⟨by rfl, ?_⟩) ?_ ?_
                    rotate_left
                    · intro w'
                      go_simp
                      with_reducible rfl
                    rotate_left
                    · simp only [Act.put, List.setIfInBounds_toArray, List.set_cons_zero, List.set_cons_succ, i64_w, i32_w]
                      rfl
                    refine pure_ (i := 8) (N := some 58) (v := ?_) (a' := ?_) #[true, true, true, true, true, true, true, false, true, false, false, false, false, false, false, false] rfl rfl (any_of HT_.out (by kernel_rfl)) (fun _ _ _ h => h) (Or.inl ⟨by rfl, ?_⟩) ?_ ?_
                    rotate_left
                    · intro w'
                      go_simp
                      with_reducible rfl
                    rotate_left
                    · simp only [Act.put, List.setIfInBounds_toArray, List.set_cons_zero, List.set_cons_succ, i64_w, i32_w]
                      rfl
                    refine pure_ (i := 9) (N := some 59) (v := ?_) (a' := ?_) #[true, true, true, true, true, true, true, false, true, true, false, false, false, false, false, false] rfl rfl (any_of HT_.out (by kernel_rfl)) (fun _ _ _ h => h) (Or.inl ⟨by rfl, ?_⟩) ?_ ?_
                    rotate_left
                    · intro w'
                      go_simp
                      with_reducible rfl
                    rotate_left
                    · simp only [Act.put, List.setIfInBounds_toArray, List.set_cons_zero, List.set_cons_succ, i64_w, i32_w]
                      rfl
                    refine pure_ (i := 10) (N := some 60) (v := ?_) (a' := ?_) #[true, true, true, true, true, true, true, false, true, true, true, false, false, false, false, false] rfl rfl (any_of HT_.out (by kernel_rfl)) (fun _ _ _ h => h) (Or.inl ⟨by rfl, ?_⟩) ?_ ?_
                    rotate_left
                    · intro w'
                      go_simp
                      with_reducible rfl
                    rotate_left
                    · simp only [Act.put, List.setIfInBounds_toArray, List.set_cons_zero, List.set_cons_succ, i64_w, i32_w]
                      rfl
                    refine take_ (i := 7) (N := some 57) (v := ?_) (a' := ?_) #[true, true, true, true, true, true, true, true, true, true, true, false, false, false, false, false] rfl rfl (take_ofW HT_.out HW_.out (by kernel_rfl)) (fun _ _ _ h => h) (Or.inl ⟨by rfl, ?_⟩) hHeld ?_ ?_
                    rotate_left
                    · rintro w' ⟨s0, s1⟩
                      go_simp
                      with_reducible rfl
                    rotate_left
                    · simp only [Act.put, List.setIfInBounds_toArray, List.set_cons_zero, List.set_cons_succ, i64_w, i32_w]
                      rfl
                    refine take_ (i := 11) (N := some 61) (v := ?_) (a' := ?_) #[true, true, true, true, true, true, true, true, true, true, true, true, false, false, false, false] rfl rfl (take_ofW HT_.out HW_.out (by kernel_rfl)) (fun _ _ _ h => h) (Or.inl ⟨by rfl, ?_⟩) hHeld ?_ ?_
                    rotate_left
                    · rintro w' ⟨s0, s1⟩
                      go_simp
                      with_reducible rfl
                    rotate_left
                    · simp only [Act.put, List.setIfInBounds_toArray, List.set_cons_zero, List.set_cons_succ, i64_w, i32_w]
                      rfl
                    refine pure_ (i := 12) (N := some 62) (v := ?_) (a' := ?_) #[true, true, true, true, true, true, true, true, true, true, true, true, true, false, false, false] rfl rfl (any_of HT_.out (by kernel_rfl)) (fun _ _ _ h => h) (Or.inl ⟨by rfl, ?_⟩) ?_ ?_
                    rotate_left
                    · intro w'
                      go_simp
                      with_reducible rfl
                    rotate_left
                    · simp only [Act.put, List.setIfInBounds_toArray, List.set_cons_zero, List.set_cons_succ, i64_w, i32_w]
                      rfl
                    refine last_ (i := 13) (N := none) #[true, true, true, true, true, true, true, true, true, true, true, true, true, true, false, false] rfl rfl (one_of HT_.out (by kernel_rfl)) (by decide) (fun K hK => ?_)
                    refine skip_ (w1 := ?_) (by rfl) rfl ?_ ?_
                    rotate_left
                    · go_simp
                      rfl
                    refine hK.out _ _ ?_
                    clear hK K
                    refine pure_ (i := 14) (N := some 63) (v := ?_) (a' := ?_) #[true, true, true, true, true, true, true, true, true, true, true, true, true, true, true, false] rfl rfl (any_of HT_.out (by kernel_rfl)) (fun _ _ _ h => h) (Or.inl ⟨by rfl, ?_⟩) ?_ ?_
                    rotate_left
                    · intro w'
                      go_simp
                      with_reducible rfl
                    rotate_left
                    · simp only [Act.put, List.setIfInBounds_toArray, List.set_cons_zero, List.set_cons_succ, i64_w, i32_w]
                      rfl
                    refine last_ (i := 15) (N := none) #[true, true, true, true, true, true, true, true, true, true, true, true, true, true, true, true] rfl rfl (one_of HT_.out (by kernel_rfl)) (by decide) (fun K hK => ?_)
                    refine skip_ (w1 := ?_) (by rfl) rfl ?_ ?_
                    rotate_left
                    · go_simp
                      rfl
                    refine hK.out _ _ ?_
                    clear hK K
                    refine done_ (done_of HT_.out (by kernel_rfl)) ?_
                    try go_wp2
                    (try simp only [← hl0_1])
                    go_roundg k1
                    case measure => have := HK1.out; omega
                    case rel => exact ⟨(y115), (x6_1), (x7_1), (ji16), (by first | rfl | (simp; done) | (simp [*]; done)), (by first | rfl | (simp; done) | (simp [*]; done)), (by first | rfl | (simp; done) | (simp only [← hji16] <;> (first | rfl | simp)) | (simp [*]; done)), H', ⟨by have := HK1.out; omega⟩, ⟨by (try simp only [hl0_1]); (with_reducible repeat (first | apply Sg.alloc | apply Sg.drewN | apply Sg.drew)); exact HQ23.out⟩, ⟨by repeat (first | (with_reducible first | exact HK.out | apply Kept.alloc | apply Kept.drewN | apply Kept.drew | refine Kept.setCell ?_ HMgo19.out _ | refine Kept.setCell ?_ HMgo19.out _) | exact HK.out)⟩, ⟨by repeat (first | (with_reducible first | exact HB.out | apply below_alloc | apply pw_below_drewN | apply below_drew1 | refine below_set ?_ GB19.out | refine below_set ?_ GB19.out) | exact HB.out)⟩⟩
                  · rw [if_neg c18] at H
                    exact absurd H (by simp)
                · rw [if_neg c17] at H
                  exact absurd H (by simp)
              · rw [if_neg c15] at H
                have c15b0 : decide (a1 < (rd x0_1 x7_1)) = false := decide_eq_false c15
                clear c15
                have H' := Aside0.mk H
                clear H
                have p106 : 0 ≤ (x7_1 : Int) := of_decide_eq_true (by first | (with_reducible assumption) | assumption)
                have q106 : x7_1 < (x0_1.length : Int) := of_decide_eq_true (by first | (with_reducible assumption) | assumption)
                obtain ⟨ad106, e106, hx106_0⟩ := Sg.at_int HO_0.out x7_1 p106 q106
                cases e106
                replace p106 := eq_true p106
                replace q106 := eq_true q106
                have p111 : 0 ≤ (x7_1 : Int) := of_decide_eq_true (by first | (with_reducible assumption) | assumption)
                have q111 : x7_1 < (x0_1.length : Int) := of_decide_eq_true (by first | (with_reducible assumption) | assumption)
                obtain ⟨ad111, e111, hx111_0⟩ := Sg.at_int HO_0.out x7_1 p111 q111
                obtain rfl : ad106 = ad111 := (by injection e111)
                replace p111 := eq_true p111
                replace q111 := eq_true q111
                go_wp2
                (try simp only [← hl0_1])
                go_roundg k1
                case measure => have := HK1.out; omega
                case rel => exact ⟨(x0_1), (x6_1), (wrap64 (x7_1 + 1)), (x8_1), (by first | rfl | (simp; done) | (simp [*]; done)), (by first | rfl | (simp; done) | (simp [*]; done)), (by first | rfl | (simp; done) | (simp [*]; done)), H', ⟨by have := HK1.out; omega⟩, ⟨by (try simp only [hl0_1]); (with_reducible repeat (first | apply Sg.alloc | apply Sg.drewN | apply Sg.drew)); exact HO_0.out⟩, ⟨by repeat (first | (with_reducible first | exact HK.out | apply Kept.alloc | apply Kept.drewN | apply Kept.drew) | exact HK.out)⟩, ⟨by repeat (first | (with_reducible first | exact HB.out | apply below_alloc | apply pw_below_drewN | apply below_drew1) | exact HB.out)⟩⟩
          · rw [if_neg c6] at H
            exact absurd H (by simp)
        · rw [if_neg c5] at H
          exact absurd H (by simp)
      · rw [if_neg c4] at H
        have c4b0 : decide (x7_1 < x8_1) = false := decide_eq_false c4
        clear c4
        simp only [Option.some.injEq, Prod.mk.injEq] at H
        obtain ⟨rfl, rfl, rfl⟩ := H
        go_wp2
        go_ret2
        exact ⟨by first | rfl | (simp [errW_none, errW_some] <;> rfl) | (simp [*, errW_none, errW_some] <;> rfl), (by first | exact (by (with_reducible repeat (first | apply Sg.alloc | apply Sg.drewN | apply Sg.drew)); exact HO_0.out) | (simp only [hl0_1]; exact (by (with_reducible repeat (first | apply Sg.alloc | apply Sg.drewN | apply Sg.drew)); exact HO_0.out))), by repeat (first | (with_reducible first | exact HB.out | apply below_alloc | apply pw_below_drewN | apply below_drew1) | exact HB.out), by repeat (first | (with_reducible first | exact HK.out | apply Kept.alloc | apply Kept.drewN | apply Kept.drew) | exact HK.out)⟩


theorem stats_parted_int.len : ∀ k x0 x1 x6 x7 x8 r, stats_parted_int.l0 k x0 x1 x6 x7 x8 = some r → r.2.2.length = x0.length := by
  intro k
  induction k with
  | zero => intro _ _ _ _ _ r h; simp [stats_parted_int.l0] at h
  | succ k ih =>
    intro x0 x1 x6 x7 x8 r h
    simp only [stats_parted_int.l0] at h
    repeat' split at h
    all_goals first | (obtain rfl := Option.some.inj h; rfl) | (have := ih _ _ _ _ _ _ h; simpa using this) | (exact absurd h (by simp))
def stats_kth_int.l0 : Nat → List Int → Int → Option (Int × List Int)
  | 0, _, _ => none
  | k + 1, x0, x1 => if (x0.length : Int) > 1 then (if 0 < (x0.length : Int) then (if 0 ≤ (wrap64 ((x0.length : Int) / 2)) then (if (wrap64 ((x0.length : Int) / 2)) < (x0.length : Int) then (if 0 ≤ (wrap64 ((x0.length : Int) - 1)) then (if (wrap64 ((x0.length : Int) - 1)) < (x0.length : Int) then ((stats_parted_int.f k x0 (mx (mn (rd x0 0) (rd x0 (wrap64 ((x0.length : Int) / 2)))) (mn (mx (rd x0 0) (rd x0 (wrap64 ((x0.length : Int) / 2)))) (rd x0 (wrap64 ((x0.length : Int) - 1)))))).bind fun bt122 => (if x1 < bt122.1 then (if 0 ≤ bt122.1 then (if bt122.1 ≤ (x0.length : Int) then ((stats_kth_int.l0 k (bt122.2.2.take (bt122.1 : Int).toNat) x1).bind fun q_ => some (q_.1, q_.2 ++ bt122.2.2.drop (bt122.1 : Int).toNat)) else (none)) else (none)) else (if x1 < bt122.2.1 then (some ((mx (mn (rd x0 0) (rd x0 (wrap64 ((x0.length : Int) / 2)))) (mn (mx (rd x0 0) (rd x0 (wrap64 ((x0.length : Int) / 2)))) (rd x0 (wrap64 ((x0.length : Int) - 1))))), bt122.2.2)) else (if 0 ≤ bt122.2.1 then (if bt122.2.1 ≤ (x0.length : Int) then ((stats_kth_int.l0 k (bt122.2.2.drop (bt122.2.1 : Int).toNat) (wrap64 (x1 - bt122.2.1))).bind fun q_ => some (q_.1, bt122.2.2.take (bt122.2.1 : Int).toNat ++ q_.2)) else (none)) else (none))))) else (none)) else (none)) else (none)) else (none)) else (none)) else (if 0 < (x0.length : Int) then (some (rd x0 0, x0)) else (none))
def stats_kth_int.f (k : Nat) (l0 : List Int) (a1 : Int) : Option (Int × List Int) := stats_kth_int.l0 k l0 a1
theorem stats_kth_int.len : ∀ k x q r, stats_kth_int.l0 k x q = some r → r.2.length = x.length := by
  intro k
  induction k with
  | zero => intro _ _ r h; simp [stats_kth_int.l0] at h
  | succ k ih =>
    intro x q r h
    simp only [stats_kth_int.l0] at h
    by_cases c : (x.length : Int) > 1
    · rw [if_pos c] at h
      iterate 5 (first | (split at h; rotate_left; (exact absurd h (by simp))))
      obtain ⟨⟨a, b, l⟩, e1, h⟩ := Option.bind_eq_some_iff.mp h
      have hl := stats_parted_int.len _ _ _ _ _ _ _ e1
      dsimp only at hl h
      split at h
      · iterate 2 (split at h; rotate_left; (exact absurd h (by simp)))
        obtain ⟨⟨v, z⟩, e2, h⟩ := Option.bind_eq_some_iff.mp h
        have := ih _ _ _ e2
        obtain rfl := Option.some.inj h
        simp only [List.length_append, List.length_take, List.length_drop] at this ⊢
        omega
      · split at h
        · obtain rfl := Option.some.inj h; exact hl
        · iterate 2 (split at h; rotate_left; (exact absurd h (by simp)))
          obtain ⟨⟨v, z⟩, e2, h⟩ := Option.bind_eq_some_iff.mp h
          have := ih _ _ _ e2
          obtain rfl := Option.some.inj h
          simp only [List.length_append, List.length_take, List.length_drop] at this ⊢
          omega
    · rw [if_neg c] at h
      split at h
      · obtain rfl := Option.some.inj h; rfl
      · exact absurd h (by simp)
theorem stats_kth_int.some_len {k : Nat} {x : List Int} {q : Int} {r : Int × List Int} (h : stats_kth_int.l0 k x q = some r) : 0 < x.length := by
  cases k with
  | zero => simp [stats_kth_int.l0] at h
  | succ k =>
    simp only [stats_kth_int.l0] at h
    by_cases c : (x.length : Int) > 1
    · omega
    · rw [if_neg c] at h
      split at h
      · omega
      · exact absurd h (by simp)
theorem stats_kth_int.mono_l : ∀ k, (∀ y0 y1, LeO (stats_kth_int.l0 k y0 y1) (stats_kth_int.l0 (k + 1) y0 y1))
  | 0 => fun _ _ r h => by simp [stats_kth_int.l0] at h
  | k + 1 => by
    have ih0 := stats_kth_int.mono_l k
    · intro y0 y1
      unfold stats_kth_int.l0
      repeat' first
      | (with_reducible exact ih0 _ _)
      | (with_reducible exact stats_parted_int.mono _ _ _)
      | (with_reducible exact LeO.refl _)
      | (with_reducible exact LeO.none _)
      | (with_reducible refine LeO.ite ?_ ?_)
      | (with_reducible refine LeO.bind ?_ (fun _ => ?_))
      | exact ih0 _ _
      | exact stats_parted_int.mono _ _ _
      | exact LeO.none _
      | refine LeO.ite ?_ ?_
      | refine LeO.bind ?_ (fun _ => ?_)
theorem stats_kth_int.mono : ∀ a0 a1 k, LeO (stats_kth_int.f k a0 a1) (stats_kth_int.f (k + 1) a0 a1) := by
  intro a0 a1 k
  have ih0 := stats_kth_int.mono_l k
  unfold stats_kth_int.f
  repeat' first
      | (with_reducible exact ih0 _ _)
      | (with_reducible exact stats_parted_int.mono _ _ _)
      | (with_reducible exact LeO.refl _)
      | (with_reducible exact LeO.none _)
      | (with_reducible refine LeO.ite ?_ ?_)
      | (with_reducible refine LeO.bind ?_ (fun _ => ?_))
      | exact ih0 _ _
      | exact stats_parted_int.mono _ _ _
      | exact LeO.none _
      | refine LeO.ite ?_ ?_
      | refine LeO.bind ?_ (fun _ => ?_)
section
variable {px : List Value × List Value} {e : Nat} {w : World} {base : Nat} {ok ok1 : Nat → Prop} {v : Value} {xs : List Int}
theorem Sg.tight (h : Sg px e w base ok v xs) : Sg px e w base (fun k => some k = v.ownBlock) v xs := ⟨fun k hk => hk.symm, h.2⟩
theorem Sg.reok (h : Sg px e w base ok1 v xs) (hok : ∀ k, v.ownBlock = some k → ok k) : Sg px e w base ok v xs := ⟨hok, h.2⟩
theorem Sg.take {A : Option Addr} {n c m : Nat} (h : Sg px e w base ok (.slice A n c) xs) (hm : m ≤ xs.length) : Sg (px.1, nums .i64 (xs.drop m) ++ px.2) e w base ok (.slice A m c) (xs.take m) := by
  obtain ⟨hk, g, c', he, h1, h2, h3⟩ := h
  injection he with e1 e2 e3
  subst e1 e2 e3
  refine ⟨hk, g, c, by rw [List.length_take, Nat.min_eq_left hm], h1, by rw [List.length_take]; omega, ?_⟩
  have : px.1 ++ nums .i64 (xs.take m) ++ (nums .i64 (xs.drop m) ++ px.2) = px.1 ++ nums .i64 xs ++ px.2 := by
    have e : nums .i64 xs = nums .i64 (xs.take m) ++ nums .i64 (xs.drop m) := by rw [nums, nums, nums, ← List.map_append, List.take_append_drop]
    rw [e]; simp only [List.append_assoc]
  dsimp only
  rw [this]; exact h3
theorem Sg.drop {A : Option Addr} {n c k : Nat} (h : Sg px e w base ok (.slice A n c) xs) (hk : k < xs.length) : Sg (px.1 ++ nums .i64 (xs.take k), px.2) e w base ok (.slice (if c = k then A else A.map (·.add (k * 1))) (n - k) (c - k)) (xs.drop k) := by
  obtain ⟨hok, g, c', he, h1, h2, h3⟩ := h
  injection he with e1 e2 e3
  subst e1 e2 e3
  rw [if_neg (by omega)]
  have hl : (px.1 ++ nums .i64 (xs.take k)).length = px.1.length + k := by rw [List.length_append, nums_length, List.length_take, Nat.min_eq_left (by omega)]
  refine ⟨?_, g, c - k, ?_, h1, by rw [List.length_drop]; omega, ?_⟩
  · intro q hq
    exact hok q (by simpa [Value.ownBlock, add_off] using hq)
  · simp only [Option.map_some, add_off, Nat.mul_one, List.length_drop]
    rw [hl]
  have : px.1 ++ nums .i64 (xs.take k) ++ nums .i64 (xs.drop k) ++ px.2 = px.1 ++ nums .i64 xs ++ px.2 := by
    have e : nums .i64 xs = nums .i64 (xs.take k) ++ nums .i64 (xs.drop k) := by rw [nums, nums, nums, ← List.map_append, List.take_append_drop]
    rw [e]; simp only [List.append_assoc]
  dsimp only
  rw [this]; exact h3
theorem Sg.of_R (h : Kd.R (Kd.int .i64) e w base ok v xs) (hp : 0 < xs.length) : ∃ rest, Sg ([], rest) e w base ok v xs ∧ ∃ g cap, v = .slice (some ⟨g, 0, none⟩) xs.length cap ∧ cap ≤ maxLen ∧ (nums .i64 xs ++ rest).length = cap := by
  have ho := Kd.own_of_R h
  rcases ho.2 with ⟨_, h0⟩ | ⟨g, cap, cur, rfl, hb, hg, hnc, hcm, hcs, ht⟩
  · omega
  · have hc : cur.toList = nums .i64 xs ++ cur.toList.drop (xs.length * 1) := by
      have : nums .i64 xs = cur.toList.take (xs.length * 1) := ht.symm
      rw [this, List.take_append_drop]
    refine ⟨cur.toList.drop (xs.length * 1), ⟨h.1, g, cap, rfl, hb, hnc, ?_⟩, g, cap, rfl, hcm, ?_⟩
    · rw [hg, List.nil_append, ← hc]
    · rw [← hc, Array.length_toList, hcs, Nat.mul_one]
theorem Sg.to_R {g cap : Nat} {rest : List Value} {r3 : List Int} (hk : ok g) (hb : base ≤ g) (hg : w.heap[g]? = some (.cells (nums .i64 r3 ++ rest).toArray e (0, 0))) (hc : r3.length ≤ cap) (hm : cap ≤ maxLen) (hl : (nums .i64 r3 ++ rest).length = cap) :
    Kd.R (Kd.int .i64) e w base ok (.slice (some ⟨g, 0, none⟩) r3.length cap) r3 :=
  Kd.R_of_own ⟨by simp [encs], .inr ⟨g, cap, _, rfl, hb, hg, hc, hm, by rw [List.size_toArray, hl, Nat.mul_one], by
    rw [List.toList_toArray, List.take_append_of_le_length (by rw [nums_length]; omega), List.take_of_length_le (by rw [nums_length]; omega)]; rfl⟩⟩
    (fun k hk' => by
      have : g = k := by simpa [Value.ownBlock] using hk'
      exact this ▸ hk)
end
theorem stats_kth_int.last {px : List Value × List Value} {w : World} {base : Nat} {ok : Nat → Prop} {v : Value} {z r3 l0 : List Int} {rest : List Value} {gz cap : Nat} (h : Sg px 3 w base ok v z)
    (hE : px.1 ++ nums .i64 z ++ px.2 = nums .i64 r3 ++ rest) (hv : v.ownBlock = some gz) (hl : r3.length = l0.length ∧ cap ≤ maxLen ∧ (nums .i64 l0 ++ rest).length = cap) (hok : ok gz) (hb : base ≤ gz) :
    Kd.R (Kd.int .i64) 3 w base ok (.slice (some ⟨gz, 0, none⟩) l0.length cap) r3 := by
  obtain ⟨_, g, c, rfl, _, _, hg⟩ := h
  have e : g = gz := by simpa [Value.ownBlock] using hv
  subst e
  obtain ⟨h1, h2, h3⟩ := hl
  rw [List.length_append, nums_length] at h3
  rw [hE] at hg
  rw [← h1]
  exact Sg.to_R hok hb hg (by omega) h2 (by rw [List.length_append, nums_length]; omega)
set_option maxHeartbeats 8000000 in
set_option maxRecDepth 100000 in
theorem stats_kth_int.calls (k : Nat) (P0_ : Nat → Prop) (u9000_ : Value) (l0 : List Int) (a1 : Int) (r : Int) (r3 : List Int) (w0 w : World) (hB : Below w0.heap.size w0 w) (ho0 : Kd.R (Kd.int .i64) 3 w w0.heap.size P0_ u9000_ l0) (h : stats_kth_int.f k l0 a1 = some (r, r3)) :
    Calls Try.prog 64 #[u9000_, .int .i64 a1] w fun e w' => e = .returned (.int .i64 r) ∧ Kd.R (Kd.int .i64) 3 w' w0.heap.size (fun k_ => (P0_ k_ ∨ w.heap.size ≤ k_)) u9000_ r3 ∧ Below w0.heap.size w0 w' ∧ Kept w w' (fun k_ => P0_ k_) := by
  obtain ⟨rest, hs0, gz, capz, ez, hcz, hlz⟩ := Sg.of_R ho0 (stats_kth_int.some_len h)
  have hlen : r3.length = l0.length := stats_kth_int.len _ _ _ _ h
  have hgz : P0_ gz := ho0.1 gz (by rw [ez]; rfl)
  have HGZ := Aside0.mk hgz
  have HLZ := Aside0.mk (show r3.length = l0.length ∧ capz ≤ maxLen ∧ (nums .i64 l0 ++ rest).length = capz from ⟨hlen, hcz, hlz⟩)
  have HBZ := Aside0.mk (show w0.heap.size ≤ gz by obtain ⟨_, g_, c_, e_, hb_, _⟩ := hs0; rw [ez] at e_; injection e_ with e1_; injection e1_ with e1_; injection e1_ with e1_; omega)
  have HO0 := Aside0.mk (show Sg ([], rest) 3 w w0.heap.size (fun k_ => (P0_ k_ ∨ w.heap.size ≤ k_)) u9000_ l0 from Sg.mono hs0 (fun k_ hk => (.inl hk)))
  have HK := Aside0.mk (Kept.refl w (fun k_ => P0_ k_))
  have HW0 := Aside0.mk hB.size
  have HB := Aside0.mk hB
  clear hB ho0 hs0 hgz hlen hcz hlz
  have H' := Aside0.mk (show stats_kth_int.l0 k l0 a1 = some (r, r3) from h)
  clear h
  have HE := Aside0.mk (rfl : nums .i64 r3 ++ rest = nums .i64 r3 ++ rest)
  subst ez
  go_enter Try.func64, Try.ntmps64
  go_wp2
  repeat (go_quiet (fail); try go_wp2)
  go_loopg [0, 1] k (fun kq v0 v1 w' => ∃ (px : List Value × List Value) (x0_1 : List Int) (x1_1 : Int) (z_ : List Int), v1 = .int .i64 x1_1 ∧ Aside0 (stats_kth_int.l0 kq x0_1 x1_1 = some (r, z_)) ∧ Aside0 (px.1 ++ nums .i64 z_ ++ px.2 = nums .i64 r3 ++ rest) ∧ Aside0 (kq ≤ k) ∧ Aside0 (Sg px 3 w' w0.heap.size (fun k_ => (P0_ k_ ∨ w.heap.size ≤ k_)) v0 x0_1 ∧ v0.ownBlock = some gz) ∧ Aside0 (Kept w w' (fun k_ => P0_ k_)) ∧ Aside0 (Below w0.heap.size w0 w'))
  case atStart => exact ⟨([], rest), (l0), (a1), r3, (by first | rfl | (simp; done) | (simp [*]; done)), H', ⟨rfl⟩, ⟨Nat.le_refl _⟩, ⟨by (with_reducible repeat (first | apply Sg.alloc | apply Sg.drewN | apply Sg.drew)); exact HO0.out, rfl⟩, ⟨by repeat (first | (with_reducible first | exact HK.out | apply Kept.alloc | apply Kept.drewN | apply Kept.drew) | exact HK.out)⟩, ⟨by repeat (first | (with_reducible first | exact HB.out | apply below_alloc | apply pw_below_drewN | apply below_drew1) | exact HB.out)⟩⟩
  case round =>
    clear H'
    clear HE
    try clear p2
    obtain ⟨px, x0_1, x1_1, z_, rfl, HA, HE, HK1, ⟨⟨HO_0, HV⟩⟩, HK, HB⟩ := hrel
    replace HO_0 := Aside0.mk HO_0
    replace HV := Aside0.mk HV
    cases gk with
    | zero => exact absurd HA.out (by simp [stats_kth_int.l0])
    | succ k1 =>
      have H := HA.out
      clear HA
      simp only [stats_kth_int.l0] at H
      by_cases c3 : (x0_1.length : Int) > 1
      · rw [if_pos c3] at H
        have c3b0 : decide (1 < (x0_1.length : Int)) = true := decide_eq_true c3
        have c3b1 : decide (1 < x0_1.length) = true := decide_eq_true (by omega)
        clear c3
        by_cases c4 : 0 < (x0_1.length : Int)
        · rw [if_pos c4] at H
          have c4b0 : decide (0 < (x0_1.length : Int)) = true := decide_eq_true c4
          have c4b1 : decide (0 < x0_1.length) = true := decide_eq_true (by omega)
          clear c4
          obtain ⟨ji5, hji5⟩ : ∃ j_ : Int, (wrap64 ((x0_1.length : Int) / 2)) = j_ := ⟨_, rfl⟩
          replace H : (if 0 ≤ (ji5) then (if (ji5) < (x0_1.length : Int) then (if 0 ≤ (wrap64 ((x0_1.length : Int) - 1)) then (if (wrap64 ((x0_1.length : Int) - 1)) < (x0_1.length : Int) then ((stats_parted_int.f k1 x0_1 (mx (mn (rd x0_1 0) (rd x0_1 (ji5))) (mn (mx (rd x0_1 0) (rd x0_1 (ji5))) (rd x0_1 (wrap64 ((x0_1.length : Int) - 1)))))).bind fun bt122 => (if x1_1 < bt122.1 then (if 0 ≤ bt122.1 then (if bt122.1 ≤ (x0_1.length : Int) then ((stats_kth_int.l0 k1 (bt122.2.2.take (bt122.1 : Int).toNat) x1_1).bind fun q_ => some (q_.1, q_.2 ++ bt122.2.2.drop (bt122.1 : Int).toNat)) else (none)) else (none)) else (if x1_1 < bt122.2.1 then (some ((mx (mn (rd x0_1 0) (rd x0_1 (ji5))) (mn (mx (rd x0_1 0) (rd x0_1 (ji5))) (rd x0_1 (wrap64 ((x0_1.length : Int) - 1))))), bt122.2.2)) else (if 0 ≤ bt122.2.1 then (if bt122.2.1 ≤ (x0_1.length : Int) then ((stats_kth_int.l0 k1 (bt122.2.2.drop (bt122.2.1 : Int).toNat) (wrap64 (x1_1 - bt122.2.1))).bind fun q_ => some (q_.1, bt122.2.2.take (bt122.2.1 : Int).toNat ++ q_.2)) else (none)) else (none))))) else (none)) else (none)) else (none)) else (none)) = some (r, z_) := by first | (rw [hji5] at H; exact H) | (simp only [hji5] at H ⊢; exact H)
          have hji5w : (IntKind.i64.wrap ((x0_1.length : Int) / 2)) = ji5 := (i64_w _).trans hji5
          by_cases c6 : 0 ≤ (ji5)
          · rw [if_pos c6] at H
            have c6b0 : decide (0 ≤ (ji5)) = true := decide_eq_true c6
            clear c6
            by_cases c7 : (ji5) < (x0_1.length : Int)
            · rw [if_pos c7] at H
              have c7b0 : decide ((ji5) < (x0_1.length : Int)) = true := decide_eq_true c7
              clear c7
              obtain ⟨ji8, hji8⟩ : ∃ j_ : Int, (mn (rd x0_1 0) (rd x0_1 (ji5))) = j_ := ⟨_, rfl⟩
              replace H : (if 0 ≤ (wrap64 ((x0_1.length : Int) - 1)) then (if (wrap64 ((x0_1.length : Int) - 1)) < (x0_1.length : Int) then ((stats_parted_int.f k1 x0_1 (mx (ji8) (mn (mx (rd x0_1 0) (rd x0_1 (ji5))) (rd x0_1 (wrap64 ((x0_1.length : Int) - 1)))))).bind fun bt122 => (if x1_1 < bt122.1 then (if 0 ≤ bt122.1 then (if bt122.1 ≤ (x0_1.length : Int) then ((stats_kth_int.l0 k1 (bt122.2.2.take (bt122.1 : Int).toNat) x1_1).bind fun q_ => some (q_.1, q_.2 ++ bt122.2.2.drop (bt122.1 : Int).toNat)) else (none)) else (none)) else (if x1_1 < bt122.2.1 then (some ((mx (ji8) (mn (mx (rd x0_1 0) (rd x0_1 (ji5))) (rd x0_1 (wrap64 ((x0_1.length : Int) - 1))))), bt122.2.2)) else (if 0 ≤ bt122.2.1 then (if bt122.2.1 ≤ (x0_1.length : Int) then ((stats_kth_int.l0 k1 (bt122.2.2.drop (bt122.2.1 : Int).toNat) (wrap64 (x1_1 - bt122.2.1))).bind fun q_ => some (q_.1, bt122.2.2.take (bt122.2.1 : Int).toNat ++ q_.2)) else (none)) else (none))))) else (none)) else (none)) = some (r, z_) := by first | (rw [hji8] at H; exact H) | (simp only [hji8] at H ⊢; exact H)
              have hji8_ : (if (rd x0_1 (ji5)) < (rd x0_1 0) then (rd x0_1 (ji5)) else (rd x0_1 0)) = ji8 := hji8
              obtain ⟨ji9, hji9⟩ : ∃ j_ : Int, (mx (rd x0_1 0) (rd x0_1 (ji5))) = j_ := ⟨_, rfl⟩
              replace H : (if 0 ≤ (wrap64 ((x0_1.length : Int) - 1)) then (if (wrap64 ((x0_1.length : Int) - 1)) < (x0_1.length : Int) then ((stats_parted_int.f k1 x0_1 (mx (ji8) (mn (ji9) (rd x0_1 (wrap64 ((x0_1.length : Int) - 1)))))).bind fun bt122 => (if x1_1 < bt122.1 then (if 0 ≤ bt122.1 then (if bt122.1 ≤ (x0_1.length : Int) then ((stats_kth_int.l0 k1 (bt122.2.2.take (bt122.1 : Int).toNat) x1_1).bind fun q_ => some (q_.1, q_.2 ++ bt122.2.2.drop (bt122.1 : Int).toNat)) else (none)) else (none)) else (if x1_1 < bt122.2.1 then (some ((mx (ji8) (mn (ji9) (rd x0_1 (wrap64 ((x0_1.length : Int) - 1))))), bt122.2.2)) else (if 0 ≤ bt122.2.1 then (if bt122.2.1 ≤ (x0_1.length : Int) then ((stats_kth_int.l0 k1 (bt122.2.2.drop (bt122.2.1 : Int).toNat) (wrap64 (x1_1 - bt122.2.1))).bind fun q_ => some (q_.1, bt122.2.2.take (bt122.2.1 : Int).toNat ++ q_.2)) else (none)) else (none))))) else (none)) else (none)) = some (r, z_) := by first | (rw [hji9] at H; exact H) | (simp only [hji9] at H ⊢; exact H)
              have hji9_ : (if (rd x0_1 0) < (rd x0_1 (ji5)) then (rd x0_1 (ji5)) else (rd x0_1 0)) = ji9 := hji9
              obtain ⟨ji10, hji10⟩ : ∃ j_ : Int, (wrap64 ((x0_1.length : Int) - 1)) = j_ := ⟨_, rfl⟩
              replace H : (if 0 ≤ (ji10) then (if (ji10) < (x0_1.length : Int) then ((stats_parted_int.f k1 x0_1 (mx (ji8) (mn (ji9) (rd x0_1 (ji10))))).bind fun bt122 => (if x1_1 < bt122.1 then (if 0 ≤ bt122.1 then (if bt122.1 ≤ (x0_1.length : Int) then ((stats_kth_int.l0 k1 (bt122.2.2.take (bt122.1 : Int).toNat) x1_1).bind fun q_ => some (q_.1, q_.2 ++ bt122.2.2.drop (bt122.1 : Int).toNat)) else (none)) else (none)) else (if x1_1 < bt122.2.1 then (some ((mx (ji8) (mn (ji9) (rd x0_1 (ji10)))), bt122.2.2)) else (if 0 ≤ bt122.2.1 then (if bt122.2.1 ≤ (x0_1.length : Int) then ((stats_kth_int.l0 k1 (bt122.2.2.drop (bt122.2.1 : Int).toNat) (wrap64 (x1_1 - bt122.2.1))).bind fun q_ => some (q_.1, bt122.2.2.take (bt122.2.1 : Int).toNat ++ q_.2)) else (none)) else (none))))) else (none)) else (none)) = some (r, z_) := by first | (rw [hji10] at H; exact H) | (simp only [hji10] at H ⊢; exact H)
              have hji10w : (IntKind.i64.wrap ((x0_1.length : Int) - 1)) = ji10 := (i64_w _).trans hji10
              by_cases c11 : 0 ≤ (ji10)
              · rw [if_pos c11] at H
                have c11b0 : decide (0 ≤ (ji10)) = true := decide_eq_true c11
                clear c11
                by_cases c12 : (ji10) < (x0_1.length : Int)
                · rw [if_pos c12] at H
                  have c12b0 : decide ((ji10) < (x0_1.length : Int)) = true := decide_eq_true c12
                  clear c12
                  obtain ⟨ji13, hji13⟩ : ∃ j_ : Int, (mn (ji9) (rd x0_1 (ji10))) = j_ := ⟨_, rfl⟩
                  replace H : ((stats_parted_int.f k1 x0_1 (mx (ji8) (ji13))).bind fun bt122 => (if x1_1 < bt122.1 then (if 0 ≤ bt122.1 then (if bt122.1 ≤ (x0_1.length : Int) then ((stats_kth_int.l0 k1 (bt122.2.2.take (bt122.1 : Int).toNat) x1_1).bind fun q_ => some (q_.1, q_.2 ++ bt122.2.2.drop (bt122.1 : Int).toNat)) else (none)) else (none)) else (if x1_1 < bt122.2.1 then (some ((mx (ji8) (ji13)), bt122.2.2)) else (if 0 ≤ bt122.2.1 then (if bt122.2.1 ≤ (x0_1.length : Int) then ((stats_kth_int.l0 k1 (bt122.2.2.drop (bt122.2.1 : Int).toNat) (wrap64 (x1_1 - bt122.2.1))).bind fun q_ => some (q_.1, bt122.2.2.take (bt122.2.1 : Int).toNat ++ q_.2)) else (none)) else (none))))) = some (r, z_) := by first | (rw [hji13] at H; exact H) | (simp only [hji13] at H ⊢; exact H)
                  have hji13_ : (if (rd x0_1 (ji10)) < (ji9) then (rd x0_1 (ji10)) else (ji9)) = ji13 := hji13
                  obtain ⟨ji14, hji14⟩ : ∃ j_ : Int, (mx (ji8) (ji13)) = j_ := ⟨_, rfl⟩
                  replace H : ((stats_parted_int.f k1 x0_1 (ji14)).bind fun bt122 => (if x1_1 < bt122.1 then (if 0 ≤ bt122.1 then (if bt122.1 ≤ (x0_1.length : Int) then ((stats_kth_int.l0 k1 (bt122.2.2.take (bt122.1 : Int).toNat) x1_1).bind fun q_ => some (q_.1, q_.2 ++ bt122.2.2.drop (bt122.1 : Int).toNat)) else (none)) else (none)) else (if x1_1 < bt122.2.1 then (some (ji14, bt122.2.2)) else (if 0 ≤ bt122.2.1 then (if bt122.2.1 ≤ (x0_1.length : Int) then ((stats_kth_int.l0 k1 (bt122.2.2.drop (bt122.2.1 : Int).toNat) (wrap64 (x1_1 - bt122.2.1))).bind fun q_ => some (q_.1, bt122.2.2.take (bt122.2.1 : Int).toNat ++ q_.2)) else (none)) else (none))))) = some (r, z_) := by first | (rw [hji14] at H; exact H) | (simp only [hji14] at H ⊢; exact H)
                  have hji14_ : (if (ji8) < (ji13) then (ji13) else (ji8)) = ji14 := hji14
                  replace H := Option.bind_eq_some_iff.mp H
                  obtain ⟨⟨t122, t123, t124⟩, A150, H⟩ := H
                  replace H : (if x1_1 < t122 then (if 0 ≤ t122 then (if t122 ≤ (x0_1.length : Int) then ((stats_kth_int.l0 k1 (t124.take (t122 : Int).toNat) x1_1).bind fun q_ => some (q_.1, q_.2 ++ t124.drop (t122 : Int).toNat)) else (none)) else (none)) else (if x1_1 < t123 then (some (ji14, t124)) else (if 0 ≤ t123 then (if t123 ≤ (x0_1.length : Int) then ((stats_kth_int.l0 k1 (t124.drop (t123 : Int).toNat) (wrap64 (x1_1 - t123))).bind fun q_ => some (q_.1, t124.take (t123 : Int).toNat ++ q_.2)) else (none)) else (none)))) = some (r, z_) := H
                  have A15 := Aside0.mk A150
                  clear A150
                  by_cases c16 : x1_1 < t122
                  · rw [if_pos c16] at H
                    have c16b0 : decide (x1_1 < t122) = true := decide_eq_true c16
                    clear c16
                    by_cases c17 : 0 ≤ t122
                    · rw [if_pos c17] at H
                      have c17b0 := eq_true c17
                      have c17b1 : decide (0 ≤ t122) = true := decide_eq_true c17
                      clear c17
                      by_cases c18 : t122 ≤ (x0_1.length : Int)
                      · rw [if_pos c18] at H
                        have c18b0 := eq_true c18
                        have c18b1 : decide (t122 ≤ (x0_1.length : Int)) = true := decide_eq_true c18
                        clear c18
                        obtain ⟨⟨r_, z1⟩, hz1, hz2⟩ := Option.bind_eq_some_iff.mp H
                        have hz3 : r_ = r ∧ z1 ++ t124.drop (t122 : Int).toNat = z_ := by simpa using hz2
                        obtain ⟨rfl, hz3⟩ := hz3
                        replace H := hz1
                        clear hz1 hz2
                        have HE1 := Aside0.mk (show px.1 ++ nums .i64 z1 ++ (nums .i64 (t124.drop (t122 : Int).toNat) ++ px.2) = nums .i64 r3 ++ rest by rw [← HE.out, ← hz3]; simp [nums])
                        clear hz3
                        obtain ⟨y125, hy125⟩ : ∃ y_ : List Int, y_ = (t124.take (t122 : Int).toNat) := ⟨_, rfl⟩
                        replace H : (stats_kth_int.l0 k1 y125 x1_1) = some (r_, z1) := by first | (rw [hy125]; with_reducible exact H) | (have H2_ := (Option.bind_some _ _).symm.trans H; rw [hy125]; with_reducible exact H2_) | (have H2_ := (Option.bind_some _ _).symm.trans H; with_reducible exact H2_) | with_reducible exact H | (rw [hy125]; exact H) | exact H
                        have Ny125 := Aside0.mk hy125
                        clear hy125
                        have H' := Aside0.mk H
                        clear H
                        obtain ⟨Ao19, co19, eo19, _⟩ := Sg.slice' HO_0.out
                        subst eo19
                        have p117 : 0 ≤ (0 : Int) := (by omega)
                        have q117 : 0 < (x0_1.length : Int) := of_decide_eq_true (by first | (with_reducible assumption) | assumption)
                        obtain ⟨ad117, e117, hx117_0⟩ := Sg.at_int HO_0.out 0 p117 q117
                        cases e117
                        have qi117 : (0 < x0_1.length) = True := eq_true (by omega)
                        (try rw [show ((0 : Int)).toNat = 0 from rfl] at hx117_0)
                        (try rw [Addr.add_zero'] at hx117_0)
                        replace p117 := eq_true p117
                        replace q117 := eq_true q117
                        have p118 : 0 ≤ ((ji5) : Int) := of_decide_eq_true (by first | (with_reducible assumption) | assumption)
                        have q118 : (ji5) < (x0_1.length : Int) := of_decide_eq_true (by first | (with_reducible assumption) | assumption)
                        obtain ⟨ad118, e118, hx118_0⟩ := Sg.at_int HO_0.out (ji5) p118 q118
                        obtain rfl : ad117 = ad118 := (by injection e118)
                        replace p118 := eq_true p118
                        replace q118 := eq_true q118
                        have p119 : 0 ≤ (0 : Int) := (by omega)
                        have q119 : 0 < (x0_1.length : Int) := of_decide_eq_true (by first | (with_reducible assumption) | assumption)
                        obtain ⟨ad119, e119, hx119_0⟩ := Sg.at_int HO_0.out 0 p119 q119
                        obtain rfl : ad117 = ad119 := (by injection e119)
                        have qi119 : (0 < x0_1.length) = True := eq_true (by omega)
                        (try rw [show ((0 : Int)).toNat = 0 from rfl] at hx119_0)
                        (try rw [Addr.add_zero'] at hx119_0)
                        replace p119 := eq_true p119
                        replace q119 := eq_true q119
                        have p120 : 0 ≤ ((ji5) : Int) := of_decide_eq_true (by first | (with_reducible assumption) | assumption)
                        have q120 : (ji5) < (x0_1.length : Int) := of_decide_eq_true (by first | (with_reducible assumption) | assumption)
                        obtain ⟨ad120, e120, hx120_0⟩ := Sg.at_int HO_0.out (ji5) p120 q120
                        obtain rfl : ad117 = ad120 := (by injection e120)
                        replace p120 := eq_true p120
                        replace q120 := eq_true q120
                        have p121 : 0 ≤ ((ji10) : Int) := of_decide_eq_true (by first | (with_reducible assumption) | assumption)
                        have q121 : (ji10) < (x0_1.length : Int) := of_decide_eq_true (by first | (with_reducible assumption) | assumption)
                        obtain ⟨ad121, e121, hx121_0⟩ := Sg.at_int HO_0.out (ji10) p121 q121
                        obtain rfl : ad117 = ad121 := (by injection e121)
                        replace p121 := eq_true p121
                        replace q121 := eq_true q121
                        go_wp2_with (first | (go_at_call 91; (with_reducible refine (stats_parted_int.segs k1 px (fun k_ => some k_ = (.slice (some ad117) x0_1.length co19 : Value).ownBlock) (.slice (some ad117) x0_1.length co19) x0_1 ji14 t122 t123 t124 w0 _ ?side1 ?side2 A15.out).mono ?_); (case side1 => repeat (first | (with_reducible first | exact HB.out | apply below_alloc | apply pw_below_drewN | apply below_drew1) | exact HB.out)); (case side2 => exact Sg.tight HO_0.out); rintro e w20 ⟨rfl, hy0, hb, hkp⟩; have n0_ := Aside0.mk (Sg.reok hy0 (fun k_ e_ => HO_0.out.1 k_ e_)); have n1_ := Aside0.mk (Kept.then_ (S := (fun k_ => P0_ k_)) (by repeat (first | (with_reducible first | exact HK.out | apply Kept.alloc | apply Kept.drewN | apply Kept.drew) | exact HK.out)) hkp (fun k_ hs_ => (fun e_ => (HO_0.out.1 k_ e_.symm)) hs_)); have n2_ := Aside0.mk (hb); clear HO_0; clear HK; clear HB; have HO_0 := n0_; have HK := n1_; have HB := n2_; clear n0_ n1_ n2_; (try clear hb); (try clear hkp); (try clear hy0); have q21 : (t122 : Int) ≤ ((x0_1.length : Int) : Int) := of_decide_eq_true (by first | (with_reducible assumption) | assumption); obtain ⟨i021, hi021, _, hsz21, _⟩ := info_parts info3; have hcut21 := cut_to (P := Try.prog) 48 3 .i64 Try.underlying48 hi021 (some ad117) x0_1.length co19 t122 (of_decide_eq_true (by first | (with_reducible assumption) | assumption)) q21 (Sg.reads' HO_0.out).2; have hL_ := Aside0.mk (Sg.reads' HO_0.out).1; have hr21 := Sg.take (m := (t122 : Int).toNat) HO_0.out (by have := hL_.out; omega); have hy21 : y125.length = (t122 : Int).toNat := (by have := hL_.out; rw [Ny125.out, List.length_take]; omega); rw [← Ny125.out] at hr21; rw [← hy21] at hcut21; replace hr21 : Sg (px.1, nums .i64 (t124.drop (t122 : Int).toNat) ++ px.2) 3 w20 w0.heap.size (fun k_ => (P0_ k_ ∨ w.heap.size ≤ k_)) (.slice (some ad117) y125.length co19) y125 := (by rw [hy21]; exact hr21); clear hy21 hi021 hsz21 HO_0; have HO127 := Aside0.mk hr21; clear hr21; replace q21 := eq_true q21))
                        repeat (go_quiet (first | (go_at_call 91; (with_reducible refine (stats_parted_int.segs k1 px (fun k_ => some k_ = (.slice (some ad117) x0_1.length co19 : Value).ownBlock) (.slice (some ad117) x0_1.length co19) x0_1 ji14 t122 t123 t124 w0 _ ?side1 ?side2 A15.out).mono ?_); (case side1 => repeat (first | (with_reducible first | exact HB.out | apply below_alloc | apply pw_below_drewN | apply below_drew1) | exact HB.out)); (case side2 => exact Sg.tight HO_0.out); rintro e w20 ⟨rfl, hy0, hb, hkp⟩; have n0_ := Aside0.mk (Sg.reok hy0 (fun k_ e_ => HO_0.out.1 k_ e_)); have n1_ := Aside0.mk (Kept.then_ (S := (fun k_ => P0_ k_)) (by repeat (first | (with_reducible first | exact HK.out | apply Kept.alloc | apply Kept.drewN | apply Kept.drew) | exact HK.out)) hkp (fun k_ hs_ => (fun e_ => (HO_0.out.1 k_ e_.symm)) hs_)); have n2_ := Aside0.mk (hb); clear HO_0; clear HK; clear HB; have HO_0 := n0_; have HK := n1_; have HB := n2_; clear n0_ n1_ n2_; (try clear hb); (try clear hkp); (try clear hy0); have q21 : (t122 : Int) ≤ ((x0_1.length : Int) : Int) := of_decide_eq_true (by first | (with_reducible assumption) | assumption); obtain ⟨i021, hi021, _, hsz21, _⟩ := info_parts info3; have hcut21 := cut_to (P := Try.prog) 48 3 .i64 Try.underlying48 hi021 (some ad117) x0_1.length co19 t122 (of_decide_eq_true (by first | (with_reducible assumption) | assumption)) q21 (Sg.reads' HO_0.out).2; have hL_ := Aside0.mk (Sg.reads' HO_0.out).1; have hr21 := Sg.take (m := (t122 : Int).toNat) HO_0.out (by have := hL_.out; omega); have hy21 : y125.length = (t122 : Int).toNat := (by have := hL_.out; rw [Ny125.out, List.length_take]; omega); rw [← Ny125.out] at hr21; rw [← hy21] at hcut21; replace hr21 : Sg (px.1, nums .i64 (t124.drop (t122 : Int).toNat) ++ px.2) 3 w20 w0.heap.size (fun k_ => (P0_ k_ ∨ w.heap.size ≤ k_)) (.slice (some ad117) y125.length co19) y125 := (by rw [hy21]; exact hr21); clear hy21 hi021 hsz21 HO_0; have HO127 := Aside0.mk hr21; clear hr21; replace q21 := eq_true q21)); try go_wp2_with (first | (go_at_call 91; (with_reducible refine (stats_parted_int.segs k1 px (fun k_ => some k_ = (.slice (some ad117) x0_1.length co19 : Value).ownBlock) (.slice (some ad117) x0_1.length co19) x0_1 ji14 t122 t123 t124 w0 _ ?side1 ?side2 A15.out).mono ?_); (case side1 => repeat (first | (with_reducible first | exact HB.out | apply below_alloc | apply pw_below_drewN | apply below_drew1) | exact HB.out)); (case side2 => exact Sg.tight HO_0.out); rintro e w20 ⟨rfl, hy0, hb, hkp⟩; have n0_ := Aside0.mk (Sg.reok hy0 (fun k_ e_ => HO_0.out.1 k_ e_)); have n1_ := Aside0.mk (Kept.then_ (S := (fun k_ => P0_ k_)) (by repeat (first | (with_reducible first | exact HK.out | apply Kept.alloc | apply Kept.drewN | apply Kept.drew) | exact HK.out)) hkp (fun k_ hs_ => (fun e_ => (HO_0.out.1 k_ e_.symm)) hs_)); have n2_ := Aside0.mk (hb); clear HO_0; clear HK; clear HB; have HO_0 := n0_; have HK := n1_; have HB := n2_; clear n0_ n1_ n2_; (try clear hb); (try clear hkp); (try clear hy0); have q21 : (t122 : Int) ≤ ((x0_1.length : Int) : Int) := of_decide_eq_true (by first | (with_reducible assumption) | assumption); obtain ⟨i021, hi021, _, hsz21, _⟩ := info_parts info3; have hcut21 := cut_to (P := Try.prog) 48 3 .i64 Try.underlying48 hi021 (some ad117) x0_1.length co19 t122 (of_decide_eq_true (by first | (with_reducible assumption) | assumption)) q21 (Sg.reads' HO_0.out).2; have hL_ := Aside0.mk (Sg.reads' HO_0.out).1; have hr21 := Sg.take (m := (t122 : Int).toNat) HO_0.out (by have := hL_.out; omega); have hy21 : y125.length = (t122 : Int).toNat := (by have := hL_.out; rw [Ny125.out, List.length_take]; omega); rw [← Ny125.out] at hr21; rw [← hy21] at hcut21; replace hr21 : Sg (px.1, nums .i64 (t124.drop (t122 : Int).toNat) ++ px.2) 3 w20 w0.heap.size (fun k_ => (P0_ k_ ∨ w.heap.size ≤ k_)) (.slice (some ad117) y125.length co19) y125 := (by rw [hy21]; exact hr21); clear hy21 hi021 hsz21 HO_0; have HO127 := Aside0.mk hr21; clear hr21; replace q21 := eq_true q21)))
                        go_roundg k1
                        case measure => have := HK1.out; omega
                        case rel => exact ⟨(px.1, nums .i64 (t124.drop (t122 : Int).toNat) ++ px.2), (y125), (x1_1), z1, (by first | rfl | (simp; done) | (simp [*]; done)), H', HE1, ⟨by have := HK1.out; omega⟩, ⟨by (with_reducible repeat (first | apply Sg.alloc | apply Sg.drewN | apply Sg.drew)); exact HO127.out, by first | exact HV.out | (rw [← HV.out]; rfl)⟩, ⟨by repeat (first | (with_reducible first | exact HK.out | apply Kept.alloc | apply Kept.drewN | apply Kept.drew) | exact HK.out)⟩, ⟨by repeat (first | (with_reducible first | exact HB.out | apply below_alloc | apply pw_below_drewN | apply below_drew1) | exact HB.out)⟩⟩
                      · rw [if_neg c18] at H
                        exact absurd H (by simp)
                    · rw [if_neg c17] at H
                      exact absurd H (by simp)
                  · rw [if_neg c16] at H
                    have c16b0 : decide (x1_1 < t122) = false := decide_eq_false c16
                    clear c16
                    by_cases c22 : x1_1 < t123
                    · rw [if_pos c22] at H
                      have c22b0 : decide (x1_1 < t123) = true := decide_eq_true c22
                      clear c22
                      simp only [Option.some.injEq, Prod.mk.injEq] at H
                      obtain ⟨rfl, rfl⟩ := H
                      obtain ⟨Ao23, co23, eo23, _⟩ := Sg.slice' HO_0.out
                      subst eo23
                      have p117 : 0 ≤ (0 : Int) := (by omega)
                      have q117 : 0 < (x0_1.length : Int) := of_decide_eq_true (by first | (with_reducible assumption) | assumption)
                      obtain ⟨ad117, e117, hx117_0⟩ := Sg.at_int HO_0.out 0 p117 q117
                      cases e117
                      have qi117 : (0 < x0_1.length) = True := eq_true (by omega)
                      (try rw [show ((0 : Int)).toNat = 0 from rfl] at hx117_0)
                      (try rw [Addr.add_zero'] at hx117_0)
                      replace p117 := eq_true p117
                      replace q117 := eq_true q117
                      have p118 : 0 ≤ ((ji5) : Int) := of_decide_eq_true (by first | (with_reducible assumption) | assumption)
                      have q118 : (ji5) < (x0_1.length : Int) := of_decide_eq_true (by first | (with_reducible assumption) | assumption)
                      obtain ⟨ad118, e118, hx118_0⟩ := Sg.at_int HO_0.out (ji5) p118 q118
                      obtain rfl : ad117 = ad118 := (by injection e118)
                      replace p118 := eq_true p118
                      replace q118 := eq_true q118
                      have p119 : 0 ≤ (0 : Int) := (by omega)
                      have q119 : 0 < (x0_1.length : Int) := of_decide_eq_true (by first | (with_reducible assumption) | assumption)
                      obtain ⟨ad119, e119, hx119_0⟩ := Sg.at_int HO_0.out 0 p119 q119
                      obtain rfl : ad117 = ad119 := (by injection e119)
                      have qi119 : (0 < x0_1.length) = True := eq_true (by omega)
                      (try rw [show ((0 : Int)).toNat = 0 from rfl] at hx119_0)
                      (try rw [Addr.add_zero'] at hx119_0)
                      replace p119 := eq_true p119
                      replace q119 := eq_true q119
                      have p120 : 0 ≤ ((ji5) : Int) := of_decide_eq_true (by first | (with_reducible assumption) | assumption)
                      have q120 : (ji5) < (x0_1.length : Int) := of_decide_eq_true (by first | (with_reducible assumption) | assumption)
                      obtain ⟨ad120, e120, hx120_0⟩ := Sg.at_int HO_0.out (ji5) p120 q120
                      obtain rfl : ad117 = ad120 := (by injection e120)
                      replace p120 := eq_true p120
                      replace q120 := eq_true q120
                      have p121 : 0 ≤ ((ji10) : Int) := of_decide_eq_true (by first | (with_reducible assumption) | assumption)
                      have q121 : (ji10) < (x0_1.length : Int) := of_decide_eq_true (by first | (with_reducible assumption) | assumption)
                      obtain ⟨ad121, e121, hx121_0⟩ := Sg.at_int HO_0.out (ji10) p121 q121
                      obtain rfl : ad117 = ad121 := (by injection e121)
                      replace p121 := eq_true p121
                      replace q121 := eq_true q121
                      go_wp2_with (first | (go_at_call 91; (with_reducible refine (stats_parted_int.segs k1 px (fun k_ => some k_ = (.slice (some ad117) x0_1.length co23 : Value).ownBlock) (.slice (some ad117) x0_1.length co23) x0_1 ji14 t122 t123 t124 w0 _ ?side1 ?side2 A15.out).mono ?_); (case side1 => repeat (first | (with_reducible first | exact HB.out | apply below_alloc | apply pw_below_drewN | apply below_drew1) | exact HB.out)); (case side2 => exact Sg.tight HO_0.out); rintro e w24 ⟨rfl, hy0, hb, hkp⟩; have n0_ := Aside0.mk (Sg.reok hy0 (fun k_ e_ => HO_0.out.1 k_ e_)); have n1_ := Aside0.mk (Kept.then_ (S := (fun k_ => P0_ k_)) (by repeat (first | (with_reducible first | exact HK.out | apply Kept.alloc | apply Kept.drewN | apply Kept.drew) | exact HK.out)) hkp (fun k_ hs_ => (fun e_ => (HO_0.out.1 k_ e_.symm)) hs_)); have n2_ := Aside0.mk (hb); clear HO_0; clear HK; clear HB; have HO_0 := n0_; have HK := n1_; have HB := n2_; clear n0_ n1_ n2_; (try clear hb); (try clear hkp); (try clear hy0)))
                      repeat (go_quiet (first | (go_at_call 91; (with_reducible refine (stats_parted_int.segs k1 px (fun k_ => some k_ = (.slice (some ad117) x0_1.length co23 : Value).ownBlock) (.slice (some ad117) x0_1.length co23) x0_1 ji14 t122 t123 t124 w0 _ ?side1 ?side2 A15.out).mono ?_); (case side1 => repeat (first | (with_reducible first | exact HB.out | apply below_alloc | apply pw_below_drewN | apply below_drew1) | exact HB.out)); (case side2 => exact Sg.tight HO_0.out); rintro e w24 ⟨rfl, hy0, hb, hkp⟩; have n0_ := Aside0.mk (Sg.reok hy0 (fun k_ e_ => HO_0.out.1 k_ e_)); have n1_ := Aside0.mk (Kept.then_ (S := (fun k_ => P0_ k_)) (by repeat (first | (with_reducible first | exact HK.out | apply Kept.alloc | apply Kept.drewN | apply Kept.drew) | exact HK.out)) hkp (fun k_ hs_ => (fun e_ => (HO_0.out.1 k_ e_.symm)) hs_)); have n2_ := Aside0.mk (hb); clear HO_0; clear HK; clear HB; have HO_0 := n0_; have HK := n1_; have HB := n2_; clear n0_ n1_ n2_; (try clear hb); (try clear hkp); (try clear hy0))); try go_wp2_with (first | (go_at_call 91; (with_reducible refine (stats_parted_int.segs k1 px (fun k_ => some k_ = (.slice (some ad117) x0_1.length co23 : Value).ownBlock) (.slice (some ad117) x0_1.length co23) x0_1 ji14 t122 t123 t124 w0 _ ?side1 ?side2 A15.out).mono ?_); (case side1 => repeat (first | (with_reducible first | exact HB.out | apply below_alloc | apply pw_below_drewN | apply below_drew1) | exact HB.out)); (case side2 => exact Sg.tight HO_0.out); rintro e w24 ⟨rfl, hy0, hb, hkp⟩; have n0_ := Aside0.mk (Sg.reok hy0 (fun k_ e_ => HO_0.out.1 k_ e_)); have n1_ := Aside0.mk (Kept.then_ (S := (fun k_ => P0_ k_)) (by repeat (first | (with_reducible first | exact HK.out | apply Kept.alloc | apply Kept.drewN | apply Kept.drew) | exact HK.out)) hkp (fun k_ hs_ => (fun e_ => (HO_0.out.1 k_ e_.symm)) hs_)); have n2_ := Aside0.mk (hb); clear HO_0; clear HK; clear HB; have HO_0 := n0_; have HK := n1_; have HB := n2_; clear n0_ n1_ n2_; (try clear hb); (try clear hkp); (try clear hy0))))
                      go_ret
                      exact ⟨by first | rfl | (simp [errW_none, errW_some] <;> rfl) | (simp only [← hji5, ← hji8, ← hji9, ← hji10, ← hji13, ← hji14]; first | rfl | (simp [errW_none, errW_some] <;> rfl)) | (simp [*, errW_none, errW_some] <;> rfl), stats_kth_int.last (by (with_reducible repeat (first | apply Sg.alloc | apply Sg.drewN | apply Sg.drew)); exact HO_0.out) HE.out HV.out HLZ.out (.inl HGZ.out) HBZ.out, by repeat (first | (with_reducible first | exact HB.out | apply below_alloc | apply pw_below_drewN | apply below_drew1) | exact HB.out), by repeat (first | (with_reducible first | exact HK.out | apply Kept.alloc | apply Kept.drewN | apply Kept.drew) | exact HK.out)⟩
                    · rw [if_neg c22] at H
                      have c22b0 : decide (x1_1 < t123) = false := decide_eq_false c22
                      clear c22
                      by_cases c25 : 0 ≤ t123
                      · rw [if_pos c25] at H
                        have c25b0 := eq_true c25
                        have c25b1 : decide (0 ≤ t123) = true := decide_eq_true c25
                        clear c25
                        by_cases c26 : t123 ≤ (x0_1.length : Int)
                        · rw [if_pos c26] at H
                          have c26b0 := eq_true c26
                          have c26b1 : decide (t123 ≤ (x0_1.length : Int)) = true := decide_eq_true c26
                          clear c26
                          obtain ⟨⟨r_, z1⟩, hz1, hz2⟩ := Option.bind_eq_some_iff.mp H
                          have hz3 : r_ = r ∧ t124.take (t123 : Int).toNat ++ z1 = z_ := by simpa using hz2
                          obtain ⟨rfl, hz3⟩ := hz3
                          replace H := hz1
                          clear hz1 hz2
                          have HE1 := Aside0.mk (show px.1 ++ nums .i64 (t124.take (t123 : Int).toNat) ++ nums .i64 z1 ++ px.2 = nums .i64 r3 ++ rest by rw [← HE.out, ← hz3]; simp [nums])
                          clear hz3
                          obtain ⟨y128, hy128⟩ : ∃ y_ : List Int, y_ = (t124.drop (t123 : Int).toNat) := ⟨_, rfl⟩
                          replace H : (stats_kth_int.l0 k1 y128 (wrap64 (x1_1 - t123))) = some (r_, z1) := by first | (rw [hy128]; with_reducible exact H) | (have H2_ := (Option.bind_some _ _).symm.trans H; rw [hy128]; with_reducible exact H2_) | (have H2_ := (Option.bind_some _ _).symm.trans H; with_reducible exact H2_) | with_reducible exact H | (rw [hy128]; exact H) | exact H
                          have Ny128 := Aside0.mk hy128
                          clear hy128
                          have H' := Aside0.mk H
                          clear H
                          obtain ⟨Ao27, co27, eo27, _⟩ := Sg.slice' HO_0.out
                          subst eo27
                          have p117 : 0 ≤ (0 : Int) := (by omega)
                          have q117 : 0 < (x0_1.length : Int) := of_decide_eq_true (by first | (with_reducible assumption) | assumption)
                          obtain ⟨ad117, e117, hx117_0⟩ := Sg.at_int HO_0.out 0 p117 q117
                          cases e117
                          have qi117 : (0 < x0_1.length) = True := eq_true (by omega)
                          (try rw [show ((0 : Int)).toNat = 0 from rfl] at hx117_0)
                          (try rw [Addr.add_zero'] at hx117_0)
                          replace p117 := eq_true p117
                          replace q117 := eq_true q117
                          have p118 : 0 ≤ ((ji5) : Int) := of_decide_eq_true (by first | (with_reducible assumption) | assumption)
                          have q118 : (ji5) < (x0_1.length : Int) := of_decide_eq_true (by first | (with_reducible assumption) | assumption)
                          obtain ⟨ad118, e118, hx118_0⟩ := Sg.at_int HO_0.out (ji5) p118 q118
                          obtain rfl : ad117 = ad118 := (by injection e118)
                          replace p118 := eq_true p118
                          replace q118 := eq_true q118
                          have p119 : 0 ≤ (0 : Int) := (by omega)
                          have q119 : 0 < (x0_1.length : Int) := of_decide_eq_true (by first | (with_reducible assumption) | assumption)
                          obtain ⟨ad119, e119, hx119_0⟩ := Sg.at_int HO_0.out 0 p119 q119
                          obtain rfl : ad117 = ad119 := (by injection e119)
                          have qi119 : (0 < x0_1.length) = True := eq_true (by omega)
                          (try rw [show ((0 : Int)).toNat = 0 from rfl] at hx119_0)
                          (try rw [Addr.add_zero'] at hx119_0)
                          replace p119 := eq_true p119
                          replace q119 := eq_true q119
                          have p120 : 0 ≤ ((ji5) : Int) := of_decide_eq_true (by first | (with_reducible assumption) | assumption)
                          have q120 : (ji5) < (x0_1.length : Int) := of_decide_eq_true (by first | (with_reducible assumption) | assumption)
                          obtain ⟨ad120, e120, hx120_0⟩ := Sg.at_int HO_0.out (ji5) p120 q120
                          obtain rfl : ad117 = ad120 := (by injection e120)
                          replace p120 := eq_true p120
                          replace q120 := eq_true q120
                          have p121 : 0 ≤ ((ji10) : Int) := of_decide_eq_true (by first | (with_reducible assumption) | assumption)
                          have q121 : (ji10) < (x0_1.length : Int) := of_decide_eq_true (by first | (with_reducible assumption) | assumption)
                          obtain ⟨ad121, e121, hx121_0⟩ := Sg.at_int HO_0.out (ji10) p121 q121
                          obtain rfl : ad117 = ad121 := (by injection e121)
                          replace p121 := eq_true p121
                          replace q121 := eq_true q121
                          go_wp2_with (first | (go_at_call 91; (with_reducible refine (stats_parted_int.segs k1 px (fun k_ => some k_ = (.slice (some ad117) x0_1.length co27 : Value).ownBlock) (.slice (some ad117) x0_1.length co27) x0_1 ji14 t122 t123 t124 w0 _ ?side1 ?side2 A15.out).mono ?_); (case side1 => repeat (first | (with_reducible first | exact HB.out | apply below_alloc | apply pw_below_drewN | apply below_drew1) | exact HB.out)); (case side2 => exact Sg.tight HO_0.out); rintro e w28 ⟨rfl, hy0, hb, hkp⟩; have n0_ := Aside0.mk (Sg.reok hy0 (fun k_ e_ => HO_0.out.1 k_ e_)); have n1_ := Aside0.mk (Kept.then_ (S := (fun k_ => P0_ k_)) (by repeat (first | (with_reducible first | exact HK.out | apply Kept.alloc | apply Kept.drewN | apply Kept.drew) | exact HK.out)) hkp (fun k_ hs_ => (fun e_ => (HO_0.out.1 k_ e_.symm)) hs_)); have n2_ := Aside0.mk (hb); clear HO_0; clear HK; clear HB; have HO_0 := n0_; have HK := n1_; have HB := n2_; clear n0_ n1_ n2_; (try clear hb); (try clear hkp); (try clear hy0); have q29 : (t123 : Int) ≤ ((x0_1.length : Int) : Int) := of_decide_eq_true (by first | (with_reducible assumption) | assumption); obtain ⟨i029, hi029, _, hsz29, _⟩ := info_parts info3; have hcut29 := cut_from (P := Try.prog) 48 3 .i64 Try.underlying48 hi029 1 hsz29 (some ad117) x0_1.length co27 t123 (of_decide_eq_true (by first | (with_reducible assumption) | assumption)) q29; have hL_ := Aside0.mk (Sg.reads' HO_0.out).1; have hr29 := Sg.drop (k := (t123 : Int).toNat) HO_0.out (by have hN_ := stats_kth_int.some_len H'.out; rw [Ny128.out, List.length_drop] at hN_; omega); obtain ⟨A29, hA29⟩ : ∃ A1, A1 = (if co27 = (t123 : Int).toNat then (some ad117) else ((some ad117) : Option Addr).map (·.add ((t123 : Int).toNat * 1))) := ⟨_, rfl⟩; obtain ⟨c29, hc29⟩ : ∃ c1, c1 = co27 - (t123 : Int).toNat := ⟨_, rfl⟩; have hy29 : y128.length = x0_1.length - (t123 : Int).toNat := (by rw [Ny128.out, List.length_drop, ← hL_.out]); rw [← Ny128.out] at hr29; rw [← hy29, ← hA29, ← hc29] at hcut29; replace hr29 : Sg (px.1 ++ nums .i64 (t124.take (t123 : Int).toNat), px.2) 3 w28 w0.heap.size (fun k_ => (P0_ k_ ∨ w.heap.size ≤ k_)) (.slice A29 y128.length c29) y128 := (by rw [hA29, hc29, hy29]; exact hr29); have HE29 : Aside0 ((Value.slice A29 y128.length c29).ownBlock = (.slice (some ad117) x0_1.length co27 : Value).ownBlock) := ⟨by rw [hA29]; split; (rfl); (exact congrArg some (add_block _ _))⟩; clear hy29 hi029 hsz29 HO_0 hA29 hc29; have HO130 := Aside0.mk hr29; clear hr29; replace q29 := eq_true q29))
                          repeat (go_quiet (first | (go_at_call 91; (with_reducible refine (stats_parted_int.segs k1 px (fun k_ => some k_ = (.slice (some ad117) x0_1.length co27 : Value).ownBlock) (.slice (some ad117) x0_1.length co27) x0_1 ji14 t122 t123 t124 w0 _ ?side1 ?side2 A15.out).mono ?_); (case side1 => repeat (first | (with_reducible first | exact HB.out | apply below_alloc | apply pw_below_drewN | apply below_drew1) | exact HB.out)); (case side2 => exact Sg.tight HO_0.out); rintro e w28 ⟨rfl, hy0, hb, hkp⟩; have n0_ := Aside0.mk (Sg.reok hy0 (fun k_ e_ => HO_0.out.1 k_ e_)); have n1_ := Aside0.mk (Kept.then_ (S := (fun k_ => P0_ k_)) (by repeat (first | (with_reducible first | exact HK.out | apply Kept.alloc | apply Kept.drewN | apply Kept.drew) | exact HK.out)) hkp (fun k_ hs_ => (fun e_ => (HO_0.out.1 k_ e_.symm)) hs_)); have n2_ := Aside0.mk (hb); clear HO_0; clear HK; clear HB; have HO_0 := n0_; have HK := n1_; have HB := n2_; clear n0_ n1_ n2_; (try clear hb); (try clear hkp); (try clear hy0); have q29 : (t123 : Int) ≤ ((x0_1.length : Int) : Int) := of_decide_eq_true (by first | (with_reducible assumption) | assumption); obtain ⟨i029, hi029, _, hsz29, _⟩ := info_parts info3; have hcut29 := cut_from (P := Try.prog) 48 3 .i64 Try.underlying48 hi029 1 hsz29 (some ad117) x0_1.length co27 t123 (of_decide_eq_true (by first | (with_reducible assumption) | assumption)) q29; have hL_ := Aside0.mk (Sg.reads' HO_0.out).1; have hr29 := Sg.drop (k := (t123 : Int).toNat) HO_0.out (by have hN_ := stats_kth_int.some_len H'.out; rw [Ny128.out, List.length_drop] at hN_; omega); obtain ⟨A29, hA29⟩ : ∃ A1, A1 = (if co27 = (t123 : Int).toNat then (some ad117) else ((some ad117) : Option Addr).map (·.add ((t123 : Int).toNat * 1))) := ⟨_, rfl⟩; obtain ⟨c29, hc29⟩ : ∃ c1, c1 = co27 - (t123 : Int).toNat := ⟨_, rfl⟩; have hy29 : y128.length = x0_1.length - (t123 : Int).toNat := (by rw [Ny128.out, List.length_drop, ← hL_.out]); rw [← Ny128.out] at hr29; rw [← hy29, ← hA29, ← hc29] at hcut29; replace hr29 : Sg (px.1 ++ nums .i64 (t124.take (t123 : Int).toNat), px.2) 3 w28 w0.heap.size (fun k_ => (P0_ k_ ∨ w.heap.size ≤ k_)) (.slice A29 y128.length c29) y128 := (by rw [hA29, hc29, hy29]; exact hr29); have HE29 : Aside0 ((Value.slice A29 y128.length c29).ownBlock = (.slice (some ad117) x0_1.length co27 : Value).ownBlock) := ⟨by rw [hA29]; split; (rfl); (exact congrArg some (add_block _ _))⟩; clear hy29 hi029 hsz29 HO_0 hA29 hc29; have HO130 := Aside0.mk hr29; clear hr29; replace q29 := eq_true q29)); try go_wp2_with (first | (go_at_call 91; (with_reducible refine (stats_parted_int.segs k1 px (fun k_ => some k_ = (.slice (some ad117) x0_1.length co27 : Value).ownBlock) (.slice (some ad117) x0_1.length co27) x0_1 ji14 t122 t123 t124 w0 _ ?side1 ?side2 A15.out).mono ?_); (case side1 => repeat (first | (with_reducible first | exact HB.out | apply below_alloc | apply pw_below_drewN | apply below_drew1) | exact HB.out)); (case side2 => exact Sg.tight HO_0.out); rintro e w28 ⟨rfl, hy0, hb, hkp⟩; have n0_ := Aside0.mk (Sg.reok hy0 (fun k_ e_ => HO_0.out.1 k_ e_)); have n1_ := Aside0.mk (Kept.then_ (S := (fun k_ => P0_ k_)) (by repeat (first | (with_reducible first | exact HK.out | apply Kept.alloc | apply Kept.drewN | apply Kept.drew) | exact HK.out)) hkp (fun k_ hs_ => (fun e_ => (HO_0.out.1 k_ e_.symm)) hs_)); have n2_ := Aside0.mk (hb); clear HO_0; clear HK; clear HB; have HO_0 := n0_; have HK := n1_; have HB := n2_; clear n0_ n1_ n2_; (try clear hb); (try clear hkp); (try clear hy0); have q29 : (t123 : Int) ≤ ((x0_1.length : Int) : Int) := of_decide_eq_true (by first | (with_reducible assumption) | assumption); obtain ⟨i029, hi029, _, hsz29, _⟩ := info_parts info3; have hcut29 := cut_from (P := Try.prog) 48 3 .i64 Try.underlying48 hi029 1 hsz29 (some ad117) x0_1.length co27 t123 (of_decide_eq_true (by first | (with_reducible assumption) | assumption)) q29; have hL_ := Aside0.mk (Sg.reads' HO_0.out).1; have hr29 := Sg.drop (k := (t123 : Int).toNat) HO_0.out (by have hN_ := stats_kth_int.some_len H'.out; rw [Ny128.out, List.length_drop] at hN_; omega); obtain ⟨A29, hA29⟩ : ∃ A1, A1 = (if co27 = (t123 : Int).toNat then (some ad117) else ((some ad117) : Option Addr).map (·.add ((t123 : Int).toNat * 1))) := ⟨_, rfl⟩; obtain ⟨c29, hc29⟩ : ∃ c1, c1 = co27 - (t123 : Int).toNat := ⟨_, rfl⟩; have hy29 : y128.length = x0_1.length - (t123 : Int).toNat := (by rw [Ny128.out, List.length_drop, ← hL_.out]); rw [← Ny128.out] at hr29; rw [← hy29, ← hA29, ← hc29] at hcut29; replace hr29 : Sg (px.1 ++ nums .i64 (t124.take (t123 : Int).toNat), px.2) 3 w28 w0.heap.size (fun k_ => (P0_ k_ ∨ w.heap.size ≤ k_)) (.slice A29 y128.length c29) y128 := (by rw [hA29, hc29, hy29]; exact hr29); have HE29 : Aside0 ((Value.slice A29 y128.length c29).ownBlock = (.slice (some ad117) x0_1.length co27 : Value).ownBlock) := ⟨by rw [hA29]; split; (rfl); (exact congrArg some (add_block _ _))⟩; clear hy29 hi029 hsz29 HO_0 hA29 hc29; have HO130 := Aside0.mk hr29; clear hr29; replace q29 := eq_true q29)))
                          go_roundg k1
                          case measure => have := HK1.out; omega
                          case rel => exact ⟨(px.1 ++ nums .i64 (t124.take (t123 : Int).toNat), px.2), (y128), (wrap64 (x1_1 - t123)), z1, (by first | rfl | (simp; done) | (simp [*]; done)), H', HE1, ⟨by have := HK1.out; omega⟩, ⟨by (with_reducible repeat (first | apply Sg.alloc | apply Sg.drewN | apply Sg.drew)); exact HO130.out, by rw [HE29.out]; exact HV.out⟩, ⟨by repeat (first | (with_reducible first | exact HK.out | apply Kept.alloc | apply Kept.drewN | apply Kept.drew) | exact HK.out)⟩, ⟨by repeat (first | (with_reducible first | exact HB.out | apply below_alloc | apply pw_below_drewN | apply below_drew1) | exact HB.out)⟩⟩
                        · rw [if_neg c26] at H
                          exact absurd H (by simp)
                      · rw [if_neg c25] at H
                        exact absurd H (by simp)
                · rw [if_neg c12] at H
                  exact absurd H (by simp)
              · rw [if_neg c11] at H
                exact absurd H (by simp)
            · rw [if_neg c7] at H
              exact absurd H (by simp)
          · rw [if_neg c6] at H
            exact absurd H (by simp)
        · rw [if_neg c4] at H
          exact absurd H (by simp)
      · rw [if_neg c3] at H
        have c3b0 : decide (1 < (x0_1.length : Int)) = false := decide_eq_false c3
        have c3b1 : decide (1 < x0_1.length) = false := decide_eq_false (by omega)
        clear c3
        by_cases c30 : 0 < (x0_1.length : Int)
        · rw [if_pos c30] at H
          have c30b0 : decide (0 < (x0_1.length : Int)) = true := decide_eq_true c30
          have c30b1 : decide (0 < x0_1.length) = true := decide_eq_true (by omega)
          clear c30
          simp only [Option.some.injEq, Prod.mk.injEq] at H
          obtain ⟨rfl, rfl⟩ := H
          obtain ⟨Ao31, co31, eo31, _⟩ := Sg.slice' HO_0.out
          subst eo31
          have p116 : 0 ≤ (0 : Int) := (by omega)
          have q116 : 0 < (x0_1.length : Int) := of_decide_eq_true (by first | (with_reducible assumption) | assumption)
          obtain ⟨ad116, e116, hx116_0⟩ := Sg.at_int HO_0.out 0 p116 q116
          cases e116
          have qi116 : (0 < x0_1.length) = True := eq_true (by omega)
          (try rw [show ((0 : Int)).toNat = 0 from rfl] at hx116_0)
          (try rw [Addr.add_zero'] at hx116_0)
          replace p116 := eq_true p116
          replace q116 := eq_true q116
          go_wp2
          repeat (go_quiet (fail); try go_wp2)
          go_ret
          exact ⟨by first | rfl | (simp [errW_none, errW_some] <;> rfl) | (simp [*, errW_none, errW_some] <;> rfl), stats_kth_int.last (by (with_reducible repeat (first | apply Sg.alloc | apply Sg.drewN | apply Sg.drew)); exact HO_0.out) HE.out HV.out HLZ.out (.inl HGZ.out) HBZ.out, by repeat (first | (with_reducible first | exact HB.out | apply below_alloc | apply pw_below_drewN | apply below_drew1) | exact HB.out), by repeat (first | (with_reducible first | exact HK.out | apply Kept.alloc | apply Kept.drewN | apply Kept.drew) | exact HK.out)⟩
        · rw [if_neg c30] at H
          exact absurd H (by simp)


end Go.Proofs.Ytlglopainaploaa.PL
