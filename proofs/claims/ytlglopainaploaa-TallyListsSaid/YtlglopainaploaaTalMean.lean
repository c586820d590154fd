/- What a tally tells of its numbers' mean. -/
import Derived.Test.YtlglopainaploaaTalPd
namespace Go.Proofs.Ytlglopainaploaa.Tal
open Go.RowKit Go.Proofs.YtlglopainaploaaW.PrintWords Go.Proofs.YtlglopainaploaaW.PrintLast Go.Proofs.YtlglopainaploaaW.PrintMore
open Go.Proofs.Ytlglopainaploaa.PL Go.Proofs.Ytlglopainaploaa.Pure
set_option linter.unusedVariables false
set_option linter.unusedSimpArgs false

set_option maxHeartbeats 1600000 in
set_option maxRecDepth 100000 in
theorem mean1_calls {w : World} {g t k : Nat} {s : TS} {n e : Int} (hg : w.cell? ⟨g, 0, none⟩ = some (.pointer (some ⟨t, 0, none⟩))) (h : TRep w t s) (hw : s.ks 1 ≠ 0 → wide_Mean.f k s.hi s.lo (s.ks 1) = some (n, e)) :
    Calls Try.prog 43 #[.pointer (some ⟨g, 0, none⟩)] w fun q w' => q = .returned (.tuple #[.int .i64 (if s.ks 1 = 0 then ((0 : Int), (1 : Int)) else (n, 0)).1, .int .i64 (if s.ks 1 = 0 then ((0 : Int), (1 : Int)) else (n, 0)).2]) ∧ Below w.heap.size w w' := by
  have c1 := h.c1
  have c2 := h.c2
  have ck := h.ck (i := 1) (by decide)
  simp only [Nat.reduceAdd] at ck
  clear h
  by_cases z : s.ks 1 = 0
  · rw [if_pos z]
    have d : (s.ks 1 == 0) = true := beq_iff_eq.mpr z
    clear z hw
    go_enter Try.func43, Try.ntmps43
    go_wp2
    go_ret2
    exact ⟨rfl, Below.refl _ _⟩
  · rw [if_neg z]
    have d : (s.ks 1 == 0) = false := beq_eq_false_iff_ne.mpr z
    have HW := Aside0.mk (hw z)
    clear z hw
    go_enter Try.func43, Try.ntmps43
    go_wp2_with fail
    go_region_with (first | (go_at_call 44; with_reducible refine (wide_Mean.calls k _ _ _ _ _ _ HW.out).mono ?_; rintro q w' ⟨rfl, hb⟩; have HB := Aside0.mk hb; clear hb))
    all_goals
      go_wp2
      go_ret2
      exact ⟨rfl, ⟨HB.out.os, HB.out.tape, HB.out.output, HB.out.size, HB.out.block⟩⟩
def meanR (s : TS) (n : Int) : Int × Int := askR s (if s.ks 1 = 0 then (0, 1) else (n, 0))
set_option maxHeartbeats 1600000 in
set_option maxRecDepth 100000 in
theorem mean_t {w : World} {t k : Nat} {s : TS} {n e : Int} (h : TRep w t s) (hw : s.ks 1 ≠ 0 → wide_Mean.f k s.hi s.lo (s.ks 1) = some (n, e)) :
    Calls Try.prog 10 #[.pointer (some ⟨t, 0, none⟩)] w fun q w' => q = .returned (.tuple #[.int .i64 (meanR s n).1, .int .i64 (meanR s n).2]) ∧ Below w.heap.size w w' := by
  have HT := Aside0.mk (h.alloc (.cells #[.pointer (some ⟨t, 0, none⟩)] 26))
  have C : Aside0 (Calls Try.prog 40 #[.pointer (some ⟨t, 0, none⟩), .func (.func 43) #[] #[.pointer (some ⟨w.heap.size, 0, none⟩)]] (w.alloc (.cells #[.pointer (some ⟨t, 0, none⟩)] 26)) fun q w' => q = .returned (.tuple #[.int .i64 (meanR s n).1, .int .i64 (meanR s n).2]) ∧ Below (w.alloc (.cells #[.pointer (some ⟨t, 0, none⟩)] 26)).heap.size (w.alloc (.cells #[.pointer (some ⟨t, 0, none⟩)] 26)) w') :=
    ⟨asked_with (fun w => enters_ Try.func43 (by kernel_rfl) rfl _ w) HT.out (fun m => mean1_calls (k := k) (e := e) (by simp [World.cell?_alloc_new]) (HT.out.drewN m) hw)⟩
  clear h hw
  go_enter Try.func10, Try.ntmps10
  go_wp2_with (first | (go_at_call 40; with_reducible refine C.out.mono ?_; rintro q w' ⟨rfl, hb⟩; have HB := Aside0.mk hb; clear hb))
  go_ret2
  exact ⟨rfl, below_of_alloc HB.out⟩
theorem rhe_leC {v c b : Int} (c0 : 1 ≤ c) (h0 : 0 ≤ v) (h : v ≤ c * b) : rhe v c ≤ b := by
  have := meanV_le (v := v) (c := c) (b := b) c0 h
  unfold meanV absI at this
  rw [if_neg (by omega), if_neg (by omega)] at this
  exact this
theorem mean_ok {w : World} {t N : Nat} {s : TS} {L : List Va} (h : TRep w t s) (ok : TOk s N L) :
    Calls Try.prog 10 #[.pointer (some ⟨t, 0, none⟩)] w fun q w' => q = .returned (.tuple #[.int .i64 (ask L (meanA (numsOf L))).1, .int .i64 (ask L (meanA (numsOf L))).2]) ∧ Below w.heap.size w w' := by
  have hk := ks1 ok
  have hl := ok.nums.len
  by_cases c : (numsOf L).length = 0
  · have r := mean_t (k := 0) (n := 0) (e := 0) h (fun q => absurd (by omega) q)
    unfold meanR at r
    rw [if_pos (by omega), askR_of ok] at r
    unfold meanA
    rw [if_pos c]
    exact r
  · have bd := sumL_bd ok.nums.fits
    have m := mean_v (c := ((numsOf L).length : Int)) (sumR_in ok) (by omega) (by omega)
    have rb : rhe (absI (sumL (numsOf L))) ((numsOf L).length : Int) ≤ 1000000000000000000 := by
      refine rhe_leC (by omega) (by unfold absI; split <;> omega) ?_
      rw [Int.mul_comm]
      unfold absI
      split <;> omega
    rw [if_neg (by omega)] at m
    obtain ⟨k0, hk0⟩ := m
    have hk1 := hk0 k0 (Nat.le_refl _)
    dsimp only at hk1
    rw [← ok.nums.hi, ← ok.nums.lo, ← hk] at hk1
    have r := mean_t (k := k0) h (fun _ => hk1)
    unfold meanR at r
    rw [if_neg (by omega), askR_of ok] at r
    unfold meanA
    rw [if_neg c]
    rw [hk] at r
    exact r
end Go.Proofs.Ytlglopainaploaa.Tal
