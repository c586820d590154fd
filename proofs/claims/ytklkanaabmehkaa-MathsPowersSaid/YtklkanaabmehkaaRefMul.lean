/- What the reference's printed product tells: digits of a million each. -/
import Derived.Test.YtklkanaabmehkaaPQx3
import Derived.Test.YtklkanaabmehkaaRefDiv
set_option linter.unusedVariables false
set_option linter.unusedSimpArgs false
namespace Go.Proofs.Ytklkanaabmehkaa.Pure
open Go.RowKit Go.Proofs.Ytklkanaabmehkaa.PQ Go.Proofs.YtklkanaabmehkaaW.PrintWords Go.Proofs.YtklkanaabmehkaaW.PrintLast Go.Proofs.YtklkanaabmehkaaW.PrintMore

def digs (a : Int) : List Int := [a % 1000000, a / 1000000 % 1000000, a / 1000000 / 1000000 % 1000000, a / 1000000 / 1000000 / 1000000 % 1000000]
theorem limbs_l0 {x : Int} (x0 : 0 ≤ x) (x1 : x ≤ 1000000000000000000) {l : List Int} (hl : l.length < 10) {i : Int} (i0 : 0 ≤ i) (i1 : i < 4) {r : List Int}
    (h : Ev (fun k => foolscapref01_limbs.l0 k (x / 1000000) (l ++ [x % 1000000]) (i + 1)) r) : Ev (fun k => foolscapref01_limbs.l0 k x l i) r := by
  refine Ev.step (fun k => ?_) h
  simp only [foolscapref01_limbs.l0]
  rw [if_pos i1, if_pos (by omega), Int.tdiv_eq_ediv_of_nonneg x0, Int.tmod_eq_emod_of_nonneg x0, wr64 (x := x / 1000000) (by omega) (by omega), wr64 (x := i + 1) (by omega) (by omega)]
theorem limbs_of {a : Int} (a0 : 0 ≤ a) (a1 : a ≤ 1000000000000000000) : Ev (fun k => foolscapref01_limbs.f k a) (digs a) := by
  unfold foolscapref01_limbs.f
  refine limbs_l0 a0 a1 (by decide) (by decide) (by decide) ?_
  refine limbs_l0 (by omega) (by omega) (by simp) (by decide) (by decide) ?_
  refine limbs_l0 (by omega) (by omega) (by simp) (by decide) (by decide) ?_
  refine limbs_l0 (by omega) (by omega) (by simp) (by decide) (by decide) ?_
  exact Ev.step (f := fun _ => some (digs a)) (fun k => by simp only [foolscapref01_limbs.l0]; rw [if_neg (by decide)]; rfl) (Ev.now _)

/-- What digits of a million stand for. -/
def V8 (l : List Int) : Int := rd l 0 + 1000000 * rd l 1 + 1000000000000 * rd l 2 + 1000000000000000000 * rd l 3 + 1000000000000000000000000 * rd l 4 + 1000000000000000000000000000000 * rd l 5 + 1000000000000000000000000000000000000 * rd l 6 + 1000000000000000000000000000000000000000000 * rd l 7
def In8 (c : Int) (l : List Int) : Prop := l.length = 8 ∧ ∀ j, 0 ≤ rd l j ∧ rd l j ≤ c
theorem rd_set (l : List Int) (n : Nat) (v j : Int) : rd (l.set n v) j = if n = j.toNat ∧ n < l.length then v else rd l j := by
  unfold rd
  rw [List.getD_eq_getElem?_getD, List.getD_eq_getElem?_getD, List.getElem?_set]
  by_cases c : n = j.toNat
  · rw [if_pos c]
    by_cases d : n < l.length
    · rw [if_pos d, if_pos ⟨c, d⟩]; rfl
    · rw [if_neg d, if_neg (fun q => d q.2), ← c, List.getElem?_eq_none (by omega)]
  · rw [if_neg c, if_neg (fun q => c q.1)]
theorem In8.set {c d : Int} {l : List Int} (h : In8 c l) (cd : c ≤ d) {n : Nat} {v : Int} (v0 : 0 ≤ v) (v1 : v ≤ d) : In8 d (l.set n v) := by
  refine ⟨by rw [List.length_set]; exact h.1, fun j => ?_⟩
  rw [rd_set]
  have := h.2 j
  split <;> omega
theorem In8.up {c d : Int} {l : List Int} (h : In8 c l) (cd : c ≤ d) : In8 d l := ⟨h.1, fun j => by have := h.2 j; omega⟩
theorem V8_set {l : List Int} (h : l.length = 8) {n : Nat} (hn : n < 8) (v : Int) : V8 (l.set n (rd l n + v)) = V8 l + 1000000 ^ n * v := by
  unfold V8
  simp only [rd_set, h]
  have hc : n = 0 ∨ n = 1 ∨ n = 2 ∨ n = 3 ∨ n = 4 ∨ n = 5 ∨ n = 6 ∨ n = 7 := by omega
  rcases hc with rfl | rfl | rfl | rfl | rfl | rfl | rfl | rfl <;> simp <;> omega
/-- A row of the sums. -/
theorem mul_l1 {a b : Int} {P Q : List Int} (hP : P.length = 4) (hQ : Q.length = 4) (bP : ∀ j, 0 ≤ rd P j ∧ rd P j < 1000000) (bQ : ∀ j, 0 ≤ rd Q j ∧ rd Q j < 1000000)
    {i : Nat} (i1 : i < 4) {r : Int × Int} {c : Int} (c0 : 0 ≤ c) (c1 : c ≤ 100000000000000) : ∀ (d j : Nat) (l : List Int), j + d = 4 → In8 (c + j * 1000000000000) l →
    (∀ l', In8 (c + 4000000000000) l' → V8 l' = V8 l + 1000000 ^ i * rd P i * ((if j ≤ 0 then rd Q 0 else 0) + (if j ≤ 1 then 1000000 * rd Q 1 else 0) + (if j ≤ 2 then 1000000000000 * rd Q 2 else 0) + (if j ≤ 3 then 1000000000000000000 * rd Q 3 else 0)) →
      Ev (fun k => foolscapref01_Mul.l0 k a b P Q l' (i + 1)) r) →
    Ev (fun k => foolscapref01_Mul.l1 k a b P Q l i j) r := by
  intro d
  induction d with
  | zero =>
    intro j l hj hl H
    refine Ev.step (fun k => ?_) (H l ?_ ?_)
    · simp only [foolscapref01_Mul.l1]
      rw [if_neg (by omega), wr64 (x := (i : Int) + 1) (by omega) (by omega)]
    · rw [show (j : Int) = 4 by omega] at hl; exact hl
    · rw [if_neg (by omega), if_neg (by omega), if_neg (by omega), if_neg (by omega)]; simp
  | succ d ih =>
    intro j l hj hl H
    have w1 : wrap64 ((i : Int) + j) = ((i + j : Nat) : Int) := by rw [wr64 (by omega) (by omega)]; omega
    have hb := hl.2 ((i + j : Nat) : Int)
    have hp := bP i
    have hq := bQ j
    have hm := mul_bound hp.1 hq.1 (Int.le_of_lt hp.2) (Int.le_of_lt hq.2)
    refine Ev.step (fun k => ?_) (ih (j + 1) (l.set (i + j) (rd l ((i + j : Nat) : Int) + rd P i * rd Q j)) (by omega) ?_ ?_)
    · simp only [foolscapref01_Mul.l1]
      rw [w1, if_pos (by omega), if_pos (by omega), if_pos (by rw [hl.1]; omega), if_pos (by omega), if_pos (by rw [hP]; omega), if_pos (by omega), if_pos (by rw [hQ]; omega), wr64 (x := rd P i * rd Q j) (by omega) (by omega),
        wr64 (x := rd l ((i + j : Nat) : Int) + rd P i * rd Q j) (by omega) (by omega), wr64 (x := (j : Int) + 1) (by omega) (by omega), Int.toNat_natCast]
      rfl
    · exact hl.set (by omega) (by omega) (by omega)
    · intro l' hl' hV
      refine H l' hl' ?_
      rw [hV, V8_set hl.1 (by omega)]
      have hc : j = 0 ∨ j = 1 ∨ j = 2 ∨ j = 3 := by omega
      rw [Int.pow_add]
      rcases hc with rfl | rfl | rfl | rfl <;> simp <;> grind
/-- All rows. -/
theorem mul_rows {a b : Int} {P Q : List Int} (hP : P.length = 4) (hQ : Q.length = 4) (bP : ∀ j, 0 ≤ rd P j ∧ rd P j < 1000000) (bQ : ∀ j, 0 ≤ rd Q j ∧ rd Q j < 1000000) {r : Int × Int} {A B : Int}
    (hA : A = rd P 0 + 1000000 * rd P 1 + 1000000000000 * rd P 2 + 1000000000000000000 * rd P 3) (hB : B = rd Q 0 + 1000000 * rd Q 1 + 1000000000000 * rd Q 2 + 1000000000000000000 * rd Q 3)
    (H : ∀ l', In8 16000000000000 l' → V8 l' = A * B → Ev (fun k => foolscapref01_Mul.l2 k a b l' 0) r) :
    Ev (fun k => foolscapref01_Mul.l0 k a b P Q (List.replicate 8 0) 0) r := by
  have row : ∀ (i : Nat) (l : List Int) (c : Int), i < 4 → 0 ≤ c → c ≤ 100000000000000 → In8 c l →
      (∀ l', In8 (c + 4000000000000) l' → V8 l' = V8 l + 1000000 ^ i * rd P i * B → Ev (fun k => foolscapref01_Mul.l0 k a b P Q l' (i + 1)) r) → Ev (fun k => foolscapref01_Mul.l0 k a b P Q l i) r := by
    intro i l c hi c0 c1 hl h
    refine Ev.step (fun k => ?_) (mul_l1 (a := a) (b := b) hP hQ bP bQ hi c0 c1 4 0 l rfl (by rw [show c + ((0 : Nat) : Int) * 1000000000000 = c by omega]; exact hl) (fun l' hl' hV => h l' hl' ?_))
    · simp only [foolscapref01_Mul.l0]; rw [if_pos (by omega)]; rfl
    · rw [hV, hB]; simp
  have z8 : In8 0 (List.replicate 8 0) := ⟨rfl, fun j => by
    have : rd (List.replicate 8 0) j = 0 := by
      unfold rd; rw [List.getD_eq_getElem?_getD, List.getElem?_replicate]; split <;> rfl
    omega⟩
  refine row 0 _ 0 (by decide) (by decide) (by decide) z8 (fun l1 h1 v1 => ?_)
  refine row 1 l1 4000000000000 (by decide) (by decide) (by decide) h1 (fun l2 h2 v2 => ?_)
  refine row 2 l2 8000000000000 (by decide) (by decide) (by decide) h2 (fun l3 h3 v3 => ?_)
  refine row 3 l3 12000000000000 (by decide) (by decide) (by decide) h3 (fun l4 h4 v4 => ?_)
  have v0 : V8 (List.replicate 8 0) = 0 := by decide
  refine Ev.step (fun k => ?_) (H l4 h4 ?_)
  · simp only [foolscapref01_Mul.l0]; rw [if_neg (by decide)]
  · rw [v4, v3, v2, v1, v0, hA]
    simp only [Int.natCast_zero, Int.cast_ofNat_Int, Int.natCast_one]
    grind
/-- Some digits are below a million. -/
def Norm (V : Int) (i : Nat) (l : List Int) : Prop := l.length = 8 ∧ V8 l = V ∧ (∀ j : Nat, 0 ≤ rd l j) ∧ (∀ j : Nat, j < i → rd l j < 1000000) ∧ rd l i ≤ 17000000000000 ∧ ∀ j : Nat, i < j → rd l j ≤ 16000000000000
theorem norm_l2 {a b V : Int} {r : Int × Int} (H : ∀ l, Norm V 7 l → Ev (fun k => foolscapref01_Mul.l2 k a b l 7) r) :
    ∀ (d i : Nat) (l : List Int), i + d = 7 → Norm V i l → Ev (fun k => foolscapref01_Mul.l2 k a b l i) r := by
  intro d
  induction d with
  | zero =>
    intro i l hi hl
    obtain rfl : i = 7 := by omega
    exact H l hl
  | succ d ih =>
    intro i l hi ⟨h1, h2, h3, h4, h5, h6⟩
    have hx := h3 i
    have hy := h3 (i + 1)
    have hz := h6 (i + 1) (by omega)
    have ew : wrap64 ((i : Int) + 1) = ((i + 1 : Nat) : Int) := by rw [wr64 (by omega) (by omega)]; omega
    have ey : rd (l.set (i + 1) (rd l ((i + 1 : Nat) : Int) + rd l i / 1000000)) i = rd l i := by
      rw [rd_set, if_neg (by omega)]
    refine Ev.step (fun k => ?_) (ih (i + 1) ((l.set (i + 1) (rd l ((i + 1 : Nat) : Int) + rd l i / 1000000)).set i (rd l i % 1000000)) (by omega) ⟨?_, ?_, ?_, ?_, ?_, ?_⟩)
    · simp only [foolscapref01_Mul.l2]
      rw [if_pos (by omega), ew, if_pos (by omega), if_pos (by rw [h1]; omega), if_pos (by omega), if_pos (by rw [h1]; omega), Int.tdiv_eq_ediv_of_nonneg hx, wr64 (x := rd l i / 1000000) (by omega) (by omega),
        wr64 (x := rd l ((i + 1 : Nat) : Int) + rd l i / 1000000) (by omega) (by omega)]
      simp only [Option.bind_some, Int.toNat_natCast]
      rw [ey, Int.tmod_eq_emod_of_nonneg hx]
    · rw [List.length_set, List.length_set]; exact h1
    · have e1 := V8_set (l := l) h1 (n := i + 1) (by omega) (rd l i / 1000000)
      have e2 := V8_set (l := l.set (i + 1) (rd l ((i + 1 : Nat) : Int) + rd l i / 1000000)) (by rw [List.length_set]; exact h1) (n := i) (by omega) (rd l i % 1000000 - rd l i)
      rw [ey, show rd l i + (rd l i % 1000000 - rd l i) = rd l i % 1000000 by omega] at e2
      rw [e2, e1, h2, Int.pow_succ, Int.mul_assoc, show rd l i % 1000000 - rd l i = -(1000000 * (rd l i / 1000000)) by omega]
      grind
    · intro j
      rw [rd_set, rd_set]
      have := h3 j
      split
      · omega
      · split <;> omega
    · intro j hj
      rw [rd_set, rd_set]
      have := h3 j
      by_cases c : i = j
      · rw [if_pos ⟨by omega, by rw [List.length_set, h1]; omega⟩]; omega
      · rw [if_neg (fun q => c (by have := q.1; omega)), if_neg (fun q => by have := q.1; omega)]
        exact h4 j (by omega)
    · rw [rd_set, if_neg (fun q => by have := q.1; omega), rd_set, if_pos ⟨by omega, by rw [h1]; omega⟩]; omega
    · intro j hj
      rw [rd_set, if_neg (fun q => by have := q.1; omega), rd_set, if_neg (fun q => by have := q.1; omega)]
      exact h6 j (by omega)
theorem digs_bd (a j : Int) : 0 ≤ rd (digs a) j ∧ rd (digs a) j < 1000000 := by
  unfold rd digs
  rcases hj : j.toNat with _ | _ | _ | _ | n <;> simp <;> omega
theorem refMul_end {a b S : Int} {l : List Int} (hS : absI a * absI b = S) (h : Norm S 7 l) : Ev (fun k => foolscapref01_Mul.l2 k a b l 7) (mulV a b) := by
  obtain ⟨h1, h2, h3, h4, h5, h6⟩ := h
  have d0 := h3 0; have d1 := h3 1; have d2 := h3 2; have d3 := h3 3; have d4 := h3 4; have d5 := h3 5; have d6 := h3 6; have d7 := h3 7
  have u0 := h4 0 (by decide); have u1 := h4 1 (by decide); have u2 := h4 2 (by decide); have u3 := h4 3 (by decide); have u4 := h4 4 (by decide); have u5 := h4 5 (by decide); have u6 := h4 6 (by decide)
  simp only [Int.natCast_zero, Int.cast_ofNat_Int, Int.natCast_one] at *
  have over : Ev (fun k => foolscapref01_Mul.j4 k a b l true) (0, 3) := Ev.step (f := fun _ => some (0, 3)) (fun k => by simp only [foolscapref01_Mul.j4]; rw [if_pos trivial]) (Ev.now _)
  have hl2 : ∀ k, foolscapref01_Mul.l2 (k + 1) a b l 7 = if rd l 5 + rd l 6 + rd l 7 > 0 then foolscapref01_Mul.j4 k a b l true else foolscapref01_Mul.j4 k a b l (decide (rd l 4 > 1)) := fun k => by
    simp only [foolscapref01_Mul.l2]
    rw [if_neg (by decide), h1, if_pos (show (5 : Int) < ((8 : Nat) : Int) by decide), if_pos (show (6 : Int) < ((8 : Nat) : Int) by decide), if_pos (show (7 : Int) < ((8 : Nat) : Int) by decide), if_pos (show (4 : Int) < ((8 : Nat) : Int) by decide), wr64 (x := rd l 5 + rd l 6) (by omega) (by omega), wr64 (x := rd l 5 + rd l 6 + rd l 7) (by omega) (by omega)]
  unfold V8 at h2
  unfold mulV
  rw [hS]
  by_cases c : rd l 5 + rd l 6 + rd l 7 > 0 ∨ rd l 4 > 1
  · have hbig := rhe_ge (S := S) (c := 1000000) (b := 2000000000000000000) (by decide) (by omega)
    rw [if_pos (by omega)]
    refine Ev.step (fun k => ?_) over
    rw [hl2]
    by_cases e : rd l 5 + rd l 6 + rd l 7 > 0
    · rw [if_pos e]
    · rw [if_neg e, decide_eq_true (by omega)]
  · have e4 : rd l 4 ≤ 1 := by omega
    have hq : S / 1000000 = rd l 1 + 1000000 * (rd l 2 + 1000000 * (rd l 3 + 1000000 * rd l 4)) := by omega
    have hr : S % 1000000 = rd l 0 := by omega
    have hev := refEven_rhe (S := S) (c := 1000000) (by decide) (by decide) (by omega) (by omega)
    have hrh := rhe_nonneg (S := S) (c := 1000000) (by decide) (by omega)
    rw [hq, hr] at hev
    refine Ev.step (fun k => by rw [hl2, if_neg (by omega), decide_eq_false (by omega)]) (Ev.step (f := fun _ => some _) (fun k => ?_) (Ev.now _))
    simp only [foolscapref01_Mul.j4]
    rw [if_neg (by decide), h1, if_pos (by decide), if_pos (by decide), if_pos (by decide), if_pos (by decide), if_pos (by decide), wr64 (x := 1000000 * rd l 4) (by omega) (by omega), wr64 (x := rd l 3 + 1000000 * rd l 4) (by omega) (by omega),
      wr64 (x := 1000000 * (rd l 3 + 1000000 * rd l 4)) (by omega) (by omega), wr64 (x := rd l 2 + 1000000 * (rd l 3 + 1000000 * rd l 4)) (by omega) (by omega), wr64 (x := 1000000 * (rd l 2 + 1000000 * (rd l 3 + 1000000 * rd l 4))) (by omega) (by omega),
      wr64 (x := rd l 1 + 1000000 * (rd l 2 + 1000000 * (rd l 3 + 1000000 * rd l 4))) (by omega) (by omega), hev]
    simp only [Option.bind_some]
    by_cases g : rhe S 1000000 > 1000000000000000000
    · rw [if_pos g, if_pos g]
    · rw [if_neg g, if_neg g, wr64 (x := -rhe S 1000000) (by omega) (by omega), sgn_bne]
      unfold signed
      by_cases d : (!(decide (a < 0) == decide (b < 0))) = true
      · rw [if_pos d, if_pos d]
      · rw [if_neg d, if_neg d]
theorem refMul_of (a b : Int) : Ev (fun k => foolscapref01_Mul.f k a b) (if FitsI a ∧ FitsI b then mulV a b else (0, 2)) := by
  have bad : Ev (fun k => foolscapref01_Mul.j0 k a b true) (0, 2) := Ev.step (f := fun _ => some (0, 2)) (fun k => by simp only [foolscapref01_Mul.j0]; rw [if_pos trivial]) (Ev.now _)
  by_cases fa : FitsI a
  · by_cases fb : FitsI b
    · rw [if_pos ⟨fa, fb⟩]
      have hf : ∀ k, foolscapref01_Mul.f k a b = foolscapref01_Mul.j0 k a b false := fun k => by unfold foolscapref01_Mul.f; rw [refFits_of, refFits_of, decide_eq_true fa, decide_eq_true fb]; rfl
      refine Ev.congr hf ?_
      have ha := absI_fits fa
      have hb := absI_fits fb
      have sa : foolscapref01_Size.f a = some (absI a) := refSize_of (by obtain ⟨_, _⟩ := fa; omega) (by obtain ⟨_, _⟩ := fa; omega)
      have sb : foolscapref01_Size.f b = some (absI b) := refSize_of (by obtain ⟨_, _⟩ := fb; omega) (by obtain ⟨_, _⟩ := fb; omega)
      have hV : ∀ x : Int, 0 ≤ x → x ≤ 1000000000000000000 → x = rd (digs x) 0 + 1000000 * rd (digs x) 1 + 1000000000000 * rd (digs x) 2 + 1000000000000000000 * rd (digs x) 3 := fun x x0 x1 => by
        show x = x % 1000000 + 1000000 * (x / 1000000 % 1000000) + 1000000000000 * (x / 1000000 / 1000000 % 1000000) + 1000000000000000000 * (x / 1000000 / 1000000 / 1000000 % 1000000)
        omega
      have main := mul_rows (a := a) (b := b) (P := digs (absI a)) (Q := digs (absI b)) (r := mulV a b) (A := absI a) (B := absI b) rfl rfl (digs_bd _) (digs_bd _) (hV _ ha.1 ha.2) (hV _ hb.1 hb.2) (fun l hl hv =>
        norm_l2 (V := absI a * absI b) (fun l' h' => refMul_end rfl h') 7 0 l rfl ⟨hl.1, hv, fun j => (hl.2 _).1, fun j hj => absurd hj (by omega), by have := (hl.2 ((0 : Nat) : Int)).2; omega, fun j _ => (hl.2 _).2⟩)
      refine Ev.step (f := fun k => (foolscapref01_limbs.f k (absI a)).bind fun t122 => (foolscapref01_limbs.f k (absI b)).bind fun t126 => foolscapref01_Mul.l0 k a b t122 t126 (List.replicate 8 0) 0) (fun k => ?_) (Ev.bind (limbs_of ha.1 ha.2) (Ev.bind (limbs_of hb.1 hb.2) main))
      simp only [foolscapref01_Mul.j0]
      rw [if_neg (by decide), sa, sb]
      simp only [Option.bind_some]
      rfl
    · rw [if_neg (fun q => fb q.2)]
      exact Ev.congr (fun k => by unfold foolscapref01_Mul.f; rw [refFits_of, refFits_of, decide_eq_true fa, decide_eq_false fb]; rfl) bad
  · rw [if_neg (fun q => fa q.1)]
    exact Ev.congr (fun k => by unfold foolscapref01_Mul.f; rw [refFits_of, decide_eq_false fa]; rfl) bad
end Go.Proofs.Ytklkanaabmehkaa.Pure
