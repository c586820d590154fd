/- What the printed functions of the package wide tell, in plain numbers. -/
import Derived.Test.YtlglopainaploaaPLx3
import Derived.Test.YtlglopainaploaaPLx3
import Derived.Test.YtlglopainaploaaBase
set_option linter.unusedVariables false
set_option linter.unusedSimpArgs false
namespace Go.Proofs.Ytlglopainaploaa.Pure
open Go.RowKit Go.Proofs.Ytlglopainaploaa.PL Go.Proofs.YtlglopainaploaaW.PrintWords Go.Proofs.YtlglopainaploaaW.PrintLast Go.Proofs.YtlglopainaploaaW.PrintMore

/-- A right sum. -/
def WV (h l : Int) : Prop := 0 ≤ l ∧ l < 1000000000000000000 ∧ -2147483648 ≤ h ∧ h < 2147483648
instance (h l : Int) : Decidable (WV h l) := inferInstanceAs (Decidable (_ ∧ _))
theorem check_of (h l : Int) : wide_Check.f h l = some (if WV h l then 0 else 2) := by
  unfold wide_Check.f
  by_cases c1 : l < 0
  · rw [if_pos c1, if_neg (show ¬ WV h l from fun q => by obtain ⟨_, _, _, _⟩ := q; omega)]
  rw [if_neg c1]
  by_cases c2 : l ≥ 1000000000000000000
  · rw [if_pos c2, if_neg (show ¬ WV h l from fun q => by obtain ⟨_, _, _, _⟩ := q; omega)]
  rw [if_neg c2]
  by_cases c3 : h < -2147483648
  · rw [if_pos c3, if_neg (show ¬ WV h l from fun q => by obtain ⟨_, _, _, _⟩ := q; omega)]
  rw [if_neg c3]
  by_cases c4 : h ≥ 2147483648
  · rw [if_pos c4, if_neg (show ¬ WV h l from fun q => by obtain ⟨_, _, _, _⟩ := q; omega)]
  rw [if_neg c4, if_pos (show WV h l from ⟨by omega, by omega, by omega, by omega⟩)]

/-- A sum made right: what the low part holds more than it may goes over. -/
def carry (h l : Int) : Int × Int × Int :=
  if -2147483648 ≤ h + l / 1000000000000000000 ∧ h + l / 1000000000000000000 < 2147483648 then (h + l / 1000000000000000000, l % 1000000000000000000, 0) else (0, 0, 3)

theorem carried_of (h l : Int) (h0 : -4294967296 ≤ h) (h1 : h ≤ 4294967296) (l0 : -2000000000000000000 ≤ l) (l1 : l ≤ 2000000000000000000) :
    wide_carried.f h l = some (carry h l) := by
  unfold wide_carried.f carry
  have key : (Int.tdiv l 1000000000000000000 = l / 1000000000000000000 ∧ Int.tmod l 1000000000000000000 = l % 1000000000000000000) ∨
      (l % 1000000000000000000 ≠ 0 ∧ Int.tdiv l 1000000000000000000 = l / 1000000000000000000 + 1 ∧ Int.tmod l 1000000000000000000 = l % 1000000000000000000 - 1000000000000000000) := by
    by_cases hl : 0 ≤ l
    · exact .inl ⟨Int.tdiv_eq_ediv_of_nonneg hl, Int.tmod_eq_emod_of_nonneg hl⟩
    · obtain ⟨m, rfl⟩ : ∃ m, l = -m := ⟨-l, by omega⟩
      rw [Int.neg_tdiv, Int.neg_tmod, Int.tdiv_eq_ediv_of_nonneg (by omega), Int.tmod_eq_emod_of_nonneg (by omega)]
      omega
  rcases key with ⟨e1, e2⟩ | ⟨hne, e1, e2⟩
  · rw [e1, e2, if_neg (by omega), wr64 (x := l / 1000000000000000000) (by omega) (by omega), wr64 (x := h + l / 1000000000000000000) (by omega) (by omega), check_of]
    simp only [Option.bind_some]
    by_cases c : -2147483648 ≤ h + l / 1000000000000000000 ∧ h + l / 1000000000000000000 < 2147483648
    · rw [if_pos (show WV _ _ from ⟨by omega, by omega, c.1, c.2⟩), if_pos rfl, if_pos c]
    · rw [if_neg (show ¬ WV _ _ from fun q => c ⟨q.2.2.1, q.2.2.2⟩), if_neg (by decide), if_neg c]
  · rw [e1, e2, if_pos (by omega), wr64 (x := l / 1000000000000000000 + 1) (by omega) (by omega), wr64 (x := h + (l / 1000000000000000000 + 1)) (by omega) (by omega), wr64 (x := h + (l / 1000000000000000000 + 1) - 1) (by omega) (by omega), wr64 (x := l % 1000000000000000000 - 1000000000000000000 + 1000000000000000000) (by omega) (by omega), check_of,
      show h + (l / 1000000000000000000 + 1) - 1 = h + l / 1000000000000000000 by omega, show l % 1000000000000000000 - 1000000000000000000 + 1000000000000000000 = l % 1000000000000000000 by omega]
    simp only [Option.bind_some]
    by_cases c : -2147483648 ≤ h + l / 1000000000000000000 ∧ h + l / 1000000000000000000 < 2147483648
    · rw [if_pos (show WV _ _ from ⟨by omega, by omega, c.1, c.2⟩), if_pos rfl, if_pos c]
    · rw [if_neg (show ¬ WV _ _ from fun q => c ⟨q.2.2.1, q.2.2.2⟩), if_neg (by decide), if_neg c]

theorem add_of (h l n : Int) : wide_Add.f h l n = some (if WV h l ∧ FitsI n then carry h (l + n) else (0, 0, 2)) := by
  unfold wide_Add.f
  rw [check_of, fits_of]
  simp only [Option.bind_some]
  by_cases c : WV h l
  · rw [if_pos c, if_pos rfl]
    by_cases d : FitsI n
    · obtain ⟨a1, a2, a3, a4⟩ := c; obtain ⟨b1, b2⟩ := d
      rw [decide_eq_true (show FitsI n from ⟨b1, b2⟩), if_pos rfl, if_pos (⟨⟨a1, a2, a3, a4⟩, ⟨b1, b2⟩⟩ : _ ∧ _), wr64 (by omega) (by omega), carried_of _ _ (by omega) (by omega) (by omega) (by omega)]
      rfl
    · rw [decide_eq_false d, if_neg (by decide), if_neg (fun q => d q.2)]
  · rw [if_neg c, if_neg (by decide), if_neg (fun q => c q.1)]

/-- A sum's value. -/
def val (h l : Int) : Int := h * 1000000000000000000 + l
/-- A sum is known by its value. -/
theorem carry_val {h l h' l' : Int} (e : carry h l = (h', l', 0)) : val h' l' = val h l ∧ WV h' l' := by
  unfold carry at e
  split at e
  · simp only [Prod.mk.injEq] at e
    obtain ⟨rfl, rfl, _⟩ := e
    unfold val WV; omega
  · simp at e
theorem val_inj {h l h' l' : Int} (w : WV h l) (w' : WV h' l') (e : val h l = val h' l') : h = h' ∧ l = l' := by
  unfold val at e; obtain ⟨a, b, c, d⟩ := w; obtain ⟨a', b', c', d'⟩ := w'; omega
theorem carry_code (h l : Int) : (carry h l).2.2 = 0 ∨ carry h l = (0, 0, 3) := by
  unfold carry; split
  · exact .inl rfl
  · exact .inr rfl
theorem carry_ok {h l : Int} (h0 : -2147483648 * 1000000000000000000 ≤ val h l) (h1 : val h l < 2147483648 * 1000000000000000000) :
    carry h l = (val h l / 1000000000000000000, val h l % 1000000000000000000, 0) := by
  unfold val carry at *
  rw [if_pos (by omega)]
  simp only [Prod.mk.injEq, and_true]
  omega
theorem carry_over {h l : Int} (h0 : val h l < -2147483648 * 1000000000000000000 ∨ 2147483648 * 1000000000000000000 ≤ val h l) :
    carry h l = (0, 0, 3) := by
  unfold val carry at *
  rw [if_neg (by omega)]

theorem total_of (h l : Int) : wide_Total.f h l = some (if WV h l then (if -1000000000000000000 ≤ val h l ∧ val h l ≤ 1000000000000000000 then (val h l, 0) else (0, 3)) else (0, 2)) := by
  unfold wide_Total.f
  rw [check_of]
  simp only [Option.bind_some]
  by_cases c : WV h l
  · rw [if_pos c, if_pos rfl, if_pos c]
    obtain ⟨a1, a2, a3, a4⟩ := c
    unfold val
    by_cases c1 : h < -1
    · rw [if_pos c1, if_neg (by omega)]
    rw [if_neg c1]
    by_cases c2 : h > 1
    · rw [if_pos c2, if_neg (by omega)]
    rw [if_neg c2, wr64 (x := h * 1000000000000000000) (by omega) (by omega), wr64 (x := h * 1000000000000000000 + l) (by omega) (by omega)]
    by_cases c3 : h = 1
    · rw [if_pos c3]
      by_cases c4 : l = 0
      · rw [if_pos c4, if_pos (by omega)]
      · rw [if_neg c4, if_neg (by omega)]
    · rw [if_neg c3, if_pos (by omega)]
  · rw [if_neg c, if_neg (by decide), if_neg c]

theorem sub64_of {x y : Int} (x0 : 0 ≤ x) (x1 : x < 18446744073709551616) (y0 : 0 ≤ y) (y1 : y < 18446744073709551616) :
    bits_Sub64.r1 x y = (x - y) % 18446744073709551616 ∧ bits_Sub64.r2 x y = if x < y then 1 else 0 := by
  obtain ⟨a, rfl⟩ := Int.eq_ofNat_of_zero_le x0
  obtain ⟨b, rfl⟩ := Int.eq_ofNat_of_zero_le y0
  unfold bits_Sub64.r1 bits_Sub64.r2
  rw [Int.toNat_natCast, Int.toNat_natCast]
  refine ⟨by omega, ?_⟩
  by_cases c : a < b
  · rw [if_pos c, if_pos (by omega)]; rfl
  · rw [if_neg c, if_neg (by omega)]; rfl
theorem add64_of {x y : Int} (x0 : 0 ≤ x) (y0 : 0 ≤ y) :
    bits_Add64.r1 x y = (x + y) % 18446744073709551616 ∧ bits_Add64.r2 x y = (x + y) / 18446744073709551616 := by
  obtain ⟨a, rfl⟩ := Int.eq_ofNat_of_zero_le x0
  obtain ⟨b, rfl⟩ := Int.eq_ofNat_of_zero_le y0
  unfold bits_Add64.r1 bits_Add64.r2
  rw [Int.toNat_natCast, Int.toNat_natCast]
  omega
theorem words_of {h l : Int} (w : WV h l) : wide_words.f h l = some (absI (val h l) / 18446744073709551616, absI (val h l) % 18446744073709551616) := by
  obtain ⟨a1, a2, a3, a4⟩ := w
  unfold wide_words.f
  have e1 : IntKind.u64.wrap (mx h (wrap64 (-h))) = absI h := by
    rw [wr64 (by omega) (by omega)]; unfold mx absI; rw [IntKind.wrap_u64]
    split <;> split <;> omega
  have e2 : 0 ≤ absI h ∧ absI h ≤ 2147483648 := by unfold absI; split <;> omega
  have e3 : bits_Mul64.f (absI h) 1000000000000000000 = some (absI h * 1000000000000000000 / 18446744073709551616, absI h * 1000000000000000000 % 18446744073709551616) := by
    unfold bits_Mul64.f; rw [if_pos ⟨by omega, by omega, by omega, by omega⟩]
  rw [e1, e3]
  simp only [Option.bind_some]
  have el : IntKind.u64.wrap l = l := w64 (by omega) (by omega)
  rw [el]
  by_cases c : h < 0
  · rw [if_pos c]
    have ea : absI h = -h := by unfold absI; rw [if_pos c]
    have ev : absI (val h l) = -h * 1000000000000000000 - l := by unfold absI val; rw [if_pos (by omega)]; omega
    rw [ea, ev]
    have hs := sub64_of (x := -h * 1000000000000000000 % 18446744073709551616) (y := l) (by omega) (by omega) (by omega) (by omega)
    rw [hs.1, hs.2, IntKind.wrap_u64]
    congr 1
    refine Prod.ext ?_ ?_
    · dsimp only
      have hX0 : 1000000000000000000 ≤ -h * 1000000000000000000 := by omega
      have hX1 : -h * 1000000000000000000 ≤ 2147483648000000000000000000 := by omega
      generalize -h * 1000000000000000000 = X at *
      clear ev hs e3 e1 ea
      by_cases d : X % 18446744073709551616 < l
      · rw [if_pos d, show (X - l) / 18446744073709551616 = X / 18446744073709551616 - 1 by omega]
        have b0 : 1 ≤ X / 18446744073709551616 := by omega
        have b1 : X / 18446744073709551616 < 200000000000 := by omega
        omega
      · rw [if_neg d, show (X - l) / 18446744073709551616 = X / 18446744073709551616 by omega]
        have b0 : 0 ≤ X / 18446744073709551616 := by omega
        have b1 : X / 18446744073709551616 < 200000000000 := by omega
        omega
    · dsimp only; omega
  · rw [if_neg c]
    have ea : absI h = h := by unfold absI; rw [if_neg c]
    have ev : absI (val h l) = h * 1000000000000000000 + l := by unfold absI val; rw [if_neg (by omega)]
    rw [ea, ev]
    have hs := add64_of (x := h * 1000000000000000000 % 18446744073709551616) (y := l) (by omega) (by omega)
    rw [hs.1, hs.2, IntKind.wrap_u64]
    congr 1
    refine Prod.ext ?_ ?_
    · dsimp only; omega
    · dsimp only; omega

/-- What the mean is. -/
def meanOf (h l c : Int) : Int × Int := if rhe (absI (val h l)) c > 1000000000000000000 then (0, 3) else (if h < 0 then -rhe (absI (val h l)) c else rhe (absI (val h l)) c, 0)

theorem mean_of (h l c : Int) : Ev (fun k => wide_Mean.f k h l c) (if WV h l ∧ 1 ≤ c ∧ c ≤ 2147483648 then meanOf h l c else (0, 2)) := by
  have bad : Ev (fun k => wide_Mean.j0 k c true h l) (0, 2) := Ev.step (f := fun _ => some (0, 2)) (fun k => by simp only [wide_Mean.j0]; rw [if_pos trivial]) (Ev.now _)
  by_cases w : WV h l
  · have hc : ∀ k, wide_Mean.f k h l c = if c < 1 then wide_Mean.j0 k c true h l else wide_Mean.j0 k c (decide (c > 2147483648)) h l := fun k => by
      unfold wide_Mean.f; rw [check_of, if_pos w]; simp only [Option.bind_some, if_true]
    by_cases c1 : c < 1
    · rw [if_neg (by omega)]
      exact Ev.congr (fun k => by rw [hc, if_pos c1]) bad
    by_cases c2 : c > 2147483648
    · rw [if_neg (by omega)]
      exact Ev.congr (fun k => by rw [hc, if_neg c1, decide_eq_true c2]) bad
    rw [if_pos ⟨w, by omega, by omega⟩]
    refine Ev.congr (f := fun k => wide_Mean.j0 k c false h l) (fun k => by rw [hc, if_neg c1, decide_eq_false c2]) ?_
    have hw : IntKind.u64.wrap c = c := w64 (by omega) (by omega)
    have hV : 0 ≤ absI (val h l) ∧ absI (val h l) ≤ 2147483648 * 1000000000000000000 := by
      obtain ⟨a1, a2, a3, a4⟩ := w; unfold absI val; split <;> omega
    unfold meanOf
    have hwd := words_of w
    generalize absI (val h l) = S at *
    have hcp : 0 < c := by omega
    have hdm := Int.mul_ediv_add_emod S c
    have hr0 := Int.emod_nonneg S (b := c) (by omega)
    have hr1 := Int.emod_lt_of_pos S (b := c) hcp
    have hq0 : 0 ≤ S / c := Int.ediv_nonneg hV.1 (by omega)
    by_cases c3 : S / 18446744073709551616 ≥ c
    · have hbig : 18446744073709551616 ≤ S / c := (Int.le_ediv_iff_mul_le hcp).2 (by omega)
      have hrhe : rhe S c > 1000000000000000000 := by unfold rhe; split <;> omega
      rw [if_pos hrhe]
      refine Ev.step (f := fun _ => some (0, 3)) (fun k => ?_) (Ev.now _)
      simp only [wide_Mean.j0]; rw [if_neg (by decide), hwd]; simp only [Option.bind_some]; rw [hw, if_pos c3]
    · have hsm : S / c < 18446744073709551616 := Int.ediv_lt_of_lt_mul hcp (by omega)
      have hdiv := div64 (hi := S / 18446744073709551616) (lo := S % 18446744073709551616) (y := c) (by omega) (by omega) (by omega) (by omega) (by omega)
      rw [show S / 18446744073709551616 * 18446744073709551616 + S % 18446744073709551616 = S by omega] at hdiv
      have hj2 : ∀ x8 : Int, 0 ≤ x8 → x8 < 18446744073709551616 → Ev (fun k => wide_Mean.j2 k x8 h l) (if x8 > 1000000000000000000 then (0, 3) else (if h < 0 then -x8 else x8, 0)) := by
        intro x8 x0 x1
        refine Ev.step (f := fun _ => some (if x8 > 1000000000000000000 then (0, 3) else (if h < 0 then -x8 else x8, 0))) (fun k => ?_) (Ev.now _)
        simp only [wide_Mean.j2]
        by_cases d : x8 > 1000000000000000000
        · rw [if_pos d, if_pos d]
        · rw [if_neg d, if_neg d, wr64 (x := x8) (by omega) (by omega), wr64 (by omega) (by omega)]
          by_cases e : h < 0
          · rw [if_pos e, if_pos e]
          · rw [if_neg e, if_neg e]
      have hj1 : ∀ b : Bool, S / c ≤ 1000000000000000000 → Ev (fun k => wide_Mean.j1 k (S / c) b h l) (if (if b then S / c + 1 else S / c) > 1000000000000000000 then (0, 3) else (if h < 0 then -(if b then S / c + 1 else S / c) else (if b then S / c + 1 else S / c), 0)) := by
        intro b hle
        cases b with
        | true =>
          refine Ev.step (f := fun k => wide_Mean.j2 k (S / c + 1) h l) (fun k => ?_) (hj2 _ (by omega) (by omega))
          simp only [wide_Mean.j1]; rw [if_pos trivial, w64 (by omega) (by omega)]
        | false =>
          refine Ev.step (f := fun k => wide_Mean.j2 k (S / c) h l) (fun k => ?_) (hj2 _ (by omega) (by omega))
          simp only [wide_Mean.j1]; rw [if_neg (by decide)]
      have hj0 : ∀ k, wide_Mean.j0 (k + 1) c false h l = (bits_Div64.f k (S / 18446744073709551616) (S % 18446744073709551616) c).bind fun bt => (if bt.1 > 1000000000000000000 then (some (0, 3)) else (if bt.2 > (IntKind.u64.wrap (c - bt.2)) then (wide_Mean.j1 k bt.1 true h l) else (if bt.2 = (IntKind.u64.wrap (c - bt.2)) then (wide_Mean.j1 k bt.1 ((Go.bits .and .u64 bt.1 1) == 1) h l) else (wide_Mean.j1 k bt.1 false h l)))) := fun k => by
        simp only [wide_Mean.j0]; rw [if_neg (by decide), hwd]; simp only [Option.bind_some]; rw [hw, if_neg c3]
      refine Ev.step hj0 (Ev.bind hdiv ?_)
      dsimp only
      by_cases c4 : S / c > 1000000000000000000
      · have hrhe : rhe S c > 1000000000000000000 := by unfold rhe; split <;> omega
        rw [if_pos hrhe]
        exact Ev.congr (f := fun _ => some (0, 3)) (fun k => by rw [if_pos c4]) (Ev.now _)
      · have hwr : IntKind.u64.wrap (c - S % c) = c - S % c := w64 (by omega) (by omega)
        by_cases c5 : S % c > c - S % c
        · rw [show rhe S c = S / c + 1 from if_pos (.inl c5)]
          refine Ev.congr (fun k => ?_) (hj1 true (by omega))
          rw [if_neg c4, hwr, if_pos c5]
        · by_cases c6 : S % c = c - S % c
          · by_cases c7 : S / c % 2 = 1
            · rw [show rhe S c = S / c + 1 from if_pos (.inr ⟨c6, c7⟩)]
              refine Ev.congr (fun k => ?_) (hj1 true (by omega))
              rw [if_neg c4, hwr, if_neg c5, if_pos c6, and1 hq0 hsm, c7]; rfl
            · rw [show rhe S c = S / c from if_neg (by rintro (q | q); exact c5 q; exact c7 q.2)]
              refine Ev.congr (fun k => ?_) (hj1 false (by omega))
              rw [if_neg c4, hwr, if_neg c5, if_pos c6, and1 hq0 hsm, beq_eq_false_iff_ne.2 c7]
          · rw [show rhe S c = S / c from if_neg (by rintro (q | q); exact c5 q; exact c6 q.1)]
            refine Ev.congr (fun k => ?_) (hj1 false (by omega))
            rw [if_neg c4, hwr, if_neg c5, if_neg c6]
  · rw [if_neg (fun q => w q.1)]
    refine Ev.congr (fun k => ?_) bad
    unfold wide_Mean.f; rw [check_of, if_neg w]; simp only [Option.bind_some]; rw [if_neg (by decide)]
end Go.Proofs.Ytlglopainaploaa.Pure
