/- The long division of math/bits, as its printed function tells it, is the division of numbers. -/
import Derived.Test.YtlglopainaploaaPLx2
import Derived.Laws.BitsLemmas
import Derived.Laws.Bits64
import Derived.Lib.ItoaNum
set_option linter.unusedVariables false
set_option linter.unusedSimpArgs false
namespace Go.Proofs.Ytlglopainaploaa.Pure
open Go.RowKit Go.Proofs.Ytlglopainaploaa.PL Go.Proofs.YtlglopainaploaaW.PrintWords Go.Proofs.YtlglopainaploaaW.PrintLast Go.Proofs.YtlglopainaploaaW.PrintMore

theorem w64 {x : Int} (h0 : 0 ≤ x) (h1 : x < 18446744073709551616) : IntKind.u64.wrap x = x := by
  rw [IntKind.wrap_u64]; omega

theorem knuth_mul {q yn1 yn0 rhat un32 y : Int} (hy : y = yn1 * 4294967296 + yn0) (hi : q * yn1 + rhat = un32) :
    q * y = (un32 - rhat) * 4294967296 + q * yn0 := by
  subst hy; subst hi
  rw [Int.mul_add, ← Int.mul_assoc]
  omega

/-- A digit of the quotient is too great just where the test says so. -/
theorem knuth_test {q yn1 yn0 rhat un32 un1 y : Int} (hy : y = yn1 * 4294967296 + yn0) (hi : q * yn1 + rhat = un32) :
    (un32 * 4294967296 + un1 < q * y) ↔ (rhat * 4294967296 + un1 < q * yn0) := by
  have := knuth_mul hy hi
  omega

theorem mul_bound {a b A B : Int} (ha : 0 ≤ a) (hb : 0 ≤ b) (hA : a ≤ A) (hB : b ≤ B) : 0 ≤ a * b ∧ a * b ≤ A * B :=
  ⟨Int.mul_nonneg ha hb, Int.mul_le_mul hA hB hb (by omega)⟩

/-- What is known at the head of a digit's loop. -/
structure Digit (y yn1 yn0 un32 un1 q rhat : Int) : Prop where
  hy : y = yn1 * 4294967296 + yn0
  n1 : 2147483648 ≤ yn1
  n1' : yn1 < 4294967296
  n0 : 0 ≤ yn0
  n0' : yn0 < 4294967296
  u : 0 ≤ un32
  uy : un32 < y
  u1 : 0 ≤ un1
  u1' : un1 < 4294967296
  hi : q * yn1 + rhat = un32
  r : 0 ≤ rhat
  r' : rhat < 4294967296
  qd : (un32 * 4294967296 + un1) / y ≤ q
  q' : q ≤ 4294967297

theorem Digit.pos {y yn1 yn0 un32 un1 q rhat : Int} (h : Digit y yn1 yn0 un32 un1 q rhat) : 0 < y := by have := h.hy; have := h.n1; have := h.n0; omega
theorem Digit.small {y yn1 yn0 un32 un1 q rhat : Int} (h : Digit y yn1 yn0 un32 un1 q rhat) :
    0 ≤ (un32 * 4294967296 + un1) / y ∧ (un32 * 4294967296 + un1) / y < 4294967296 := by
  have hp := h.pos
  constructor
  · exact Int.ediv_nonneg (by have := h.u; have := h.u1; omega) (by omega)
  · refine Int.ediv_lt_of_lt_mul hp ?_
    have := h.uy; have := h.u1'
    omega
/-- The test that the loop makes. -/
def Digit.test (yn0 un1 q rhat : Int) : Bool := decide (q ≥ 4294967296) || decide ((IntKind.u64.wrap (q * yn0)) > (IntKind.u64.wrap ((IntKind.u64.wrap (4294967296 * rhat)) + un1)))
theorem Digit.test_iff {y yn1 yn0 un32 un1 q rhat : Int} (h : Digit y yn1 yn0 un32 un1 q rhat) :
    Digit.test yn0 un1 q rhat = true ↔ (un32 * 4294967296 + un1) / y < q := by
  have hp := h.pos
  have hs := h.small
  have hq0 : 0 ≤ q := by have := h.qd; omega
  rw [Int.ediv_lt_iff_lt_mul hp, knuth_test h.hy h.hi]
  unfold Digit.test
  rw [Bool.or_eq_true, decide_eq_true_eq, decide_eq_true_eq]
  by_cases hb : q ≥ 4294967296
  · have h1 : (un32 * 4294967296 + un1) / y < q := by omega
    rw [Int.ediv_lt_iff_lt_mul hp, knuth_test h.hy h.hi] at h1
    exact ⟨fun _ => h1, fun _ => .inl hb⟩
  · have hm := mul_bound (a := q) (b := yn0) (A := 4294967295) (B := 4294967295) hq0 h.n0 (by omega) (by have := h.n0'; omega)
    have hr := h.r; have hr' := h.r'; have hu := h.u1; have hu' := h.u1'
    rw [w64 hm.1 (by omega), w64 (x := 4294967296 * rhat) (by omega) (by omega), w64 (x := 4294967296 * rhat + un1) (by omega) (by omega)]
    constructor
    · rintro (h1 | h1)
      · exact absurd h1 hb
      · omega
    · intro h1; right; omega
/-- One step down. -/
theorem Digit.down {y yn1 yn0 un32 un1 q rhat : Int} (h : Digit y yn1 yn0 un32 un1 q rhat) (ht : (un32 * 4294967296 + un1) / y < q) (hr : rhat + yn1 < 4294967296) :
    Digit y yn1 yn0 un32 un1 (q - 1) (rhat + yn1) := by
  refine ⟨h.hy, h.n1, h.n1', h.n0, h.n0', h.u, h.uy, h.u1, h.u1', ?_, ?_, hr, by omega, by have := h.q'; omega⟩
  · have := h.hi; rw [Int.sub_mul]; omega
  · have := h.r; have := h.n1; omega
/-- The last step: what is left is too great for another one. -/
theorem Digit.last {y yn1 yn0 un32 un1 q rhat : Int} (h : Digit y yn1 yn0 un32 un1 q rhat) (ht : (un32 * 4294967296 + un1) / y < q) (hr : 4294967296 ≤ rhat + yn1) :
    q - 1 = (un32 * 4294967296 + un1) / y := by
  have hp := h.pos
  have hs := h.small
  have hi : (q - 1) * yn1 + (rhat + yn1) = un32 := by have := h.hi; rw [Int.sub_mul]; omega
  have hm := mul_bound (a := q - 1) (b := yn0) (A := 4294967296) (B := 4294967295) (by omega) h.n0 (by have := h.q'; omega) (by have := h.n0'; omega)
  have h1 : ¬ (un32 * 4294967296 + un1 < (q - 1) * y) := by
    rw [knuth_test h.hy hi]; have := h.u1; omega
  have h2 : q - 1 ≤ (un32 * 4294967296 + un1) / y := (Int.le_ediv_iff_mul_le hp).2 (by omega)
  omega
theorem Digit.begin {y yn1 yn0 un32 un1 : Int} (hy : y = yn1 * 4294967296 + yn0) (n1 : 2147483648 ≤ yn1) (n1' : yn1 < 4294967296) (n0 : 0 ≤ yn0) (n0' : yn0 < 4294967296)
    (u : 0 ≤ un32) (uy : un32 < y) (u1 : 0 ≤ un1) (u1' : un1 < 4294967296) : Digit y yn1 yn0 un32 un1 (un32 / yn1) (un32 % yn1) := by
  have hp : 0 < y := by omega
  have hdm := Int.mul_ediv_add_emod un32 yn1
  have hr0 := Int.emod_nonneg un32 (b := yn1) (by omega)
  have hr1 := Int.emod_lt_of_pos un32 (b := yn1) (by omega)
  have hq0 : 0 ≤ un32 / yn1 := Int.ediv_nonneg u (by omega)
  refine ⟨hy, n1, n1', n0, n0', u, uy, u1, u1', by rw [Int.mul_comm]; exact hdm, hr0, by omega, ?_, ?_⟩
  · have h1 : (un32 * 4294967296 + un1) / y < un32 / yn1 + 1 := by
      refine Int.ediv_lt_of_lt_mul hp ?_
      have h2 : un32 + 1 ≤ (un32 / yn1 + 1) * yn1 := by rw [Int.add_mul, Int.mul_comm]; omega
      have h3 : (un32 / yn1 + 1) * y = (un32 / yn1 + 1) * yn1 * 4294967296 + (un32 / yn1 + 1) * yn0 := by
        rw [hy, Int.mul_add, Int.mul_assoc]
      have h4 : 0 ≤ (un32 / yn1 + 1) * yn0 := Int.mul_nonneg (by omega) n0
      omega
    omega
  · have h1 : un32 / yn1 < 4294967298 := by
      refine Int.ediv_lt_of_lt_mul (by omega) ?_
      omega
    omega

theorem Digit.wraps {y yn1 yn0 un32 un1 q rhat : Int} (h : Digit y yn1 yn0 un32 un1 q rhat) (ht : (un32 * 4294967296 + un1) / y < q) :
    IntKind.u64.wrap (q - 1) = q - 1 ∧ IntKind.u64.wrap (rhat + yn1) = rhat + yn1 := by
  have hs := h.small; have := h.q'; have := h.r; have := h.r'; have := h.n1; have := h.n1'
  exact ⟨w64 (by omega) (by omega), w64 (by omega) (by omega)⟩

/-- The first digit's loop ends at the first digit. -/
theorem div_l0 {x13 x14 x8 : Int} {res : Int × Int} (n : Nat) : ∀ {y yn1 yn0 un32 q rhat : Int}, Digit y yn1 yn0 un32 x13 q rhat → (4294967296 - rhat).toNat ≤ n →
    Ev (fun k => bits_Div64.j2 k y x8 yn1 yn0 un32 x13 x14 ((un32 * 4294967296 + x13) / y)) res →
    Ev (fun k => bits_Div64.l0 k y x8 yn1 yn0 un32 x13 x14 q rhat) res := by
  induction n with
  | zero => intro y yn1 yn0 un32 q rhat h hn _; have := h.r'; omega
  | succ n ih =>
    intro y yn1 yn0 un32 q rhat h hn hr
    have head : ∀ k, bits_Div64.l0 (k + 1) y x8 yn1 yn0 un32 x13 x14 q rhat = bits_Div64.j1 k y x8 yn1 yn0 un32 x13 x14 q rhat (Digit.test yn0 x13 q rhat) := by
      intro k
      simp only [bits_Div64.l0, Digit.test]
      by_cases hb : q ≥ 4294967296
      · rw [if_pos hb, decide_eq_true hb, Bool.true_or]
      · rw [if_neg hb, decide_eq_false hb, Bool.false_or]
    refine Ev.step head ?_
    cases hb : Digit.test yn0 x13 q rhat with
    | false =>
      refine Ev.step (f := fun k => bits_Div64.j2 k y x8 yn1 yn0 un32 x13 x14 q) (fun k => by simp only [bits_Div64.j1]; rw [if_neg (by decide)]) ?_
      have hq : q = (un32 * 4294967296 + x13) / y := by
        have h1 := h.qd
        have h2 : ¬ (un32 * 4294967296 + x13) / y < q := by rw [← h.test_iff, hb]; decide
        omega
      rw [hq]; exact hr
    | true =>
      have ht := h.test_iff.1 hb
      have hw := h.wraps ht
      by_cases hlt : rhat + yn1 < 4294967296
      · refine Ev.step (f := fun k => bits_Div64.l0 k y x8 yn1 yn0 un32 x13 x14 (q - 1) (rhat + yn1)) (fun k => by simp only [bits_Div64.j1]; rw [if_pos trivial, hw.1, hw.2, if_neg (by omega)]) ?_
        exact ih (h.down ht hlt) (by have := h.n1; have := h.r; omega) hr
      · refine Ev.step (f := fun k => bits_Div64.j2 k y x8 yn1 yn0 un32 x13 x14 (q - 1)) (fun k => by simp only [bits_Div64.j1]; rw [if_pos trivial, hw.1, hw.2, if_pos (by omega)]) ?_
        rw [h.last ht (by omega)]; exact hr

/-- What the second digit's loop ends with. -/
def divEnd (y x8 x14 x15 x17 q : Int) : Int × Int :=
  (IntKind.u64.wrap ((IntKind.u64.wrap (x15 * 4294967296)) + q), shr .u64 (IntKind.u64.wrap ((IntKind.u64.wrap ((IntKind.u64.wrap (x17 * 4294967296)) + x14)) - (IntKind.u64.wrap (q * y)))) x8)
theorem div_l1 {x14 x8 x15 : Int} (h8 : 0 ≤ x8) (n : Nat) : ∀ {y yn1 yn0 un21 q rhat : Int}, Digit y yn1 yn0 un21 x14 q rhat → (4294967296 - rhat).toNat ≤ n →
    Ev (fun k => bits_Div64.l1 k y x8 yn1 yn0 x14 x15 rhat un21 q) (divEnd y x8 x14 x15 un21 ((un21 * 4294967296 + x14) / y)) := by
  induction n with
  | zero => intro y yn1 yn0 un32 q rhat h hn; have := h.r'; omega
  | succ n ih =>
    intro y yn1 yn0 un21 q rhat h hn
    have head : ∀ k, bits_Div64.l1 (k + 1) y x8 yn1 yn0 x14 x15 rhat un21 q = bits_Div64.j4 k y x8 yn1 yn0 x14 x15 rhat un21 q (Digit.test yn0 x14 q rhat) := by
      intro k
      simp only [bits_Div64.l1, Digit.test]
      by_cases hb : q ≥ 4294967296
      · rw [if_pos hb, decide_eq_true hb, Bool.true_or]
      · rw [if_neg hb, decide_eq_false hb, Bool.false_or]
    refine Ev.step head ?_
    cases hb : Digit.test yn0 x14 q rhat with
    | false =>
      refine Ev.step (f := fun k => some (divEnd y x8 x14 x15 un21 q)) (fun k => by simp only [bits_Div64.j4, divEnd]; rw [if_neg (by decide), if_pos h8]) ?_
      have hq : q = (un21 * 4294967296 + x14) / y := by
        have h1 := h.qd
        have h2 : ¬ (un21 * 4294967296 + x14) / y < q := by rw [← h.test_iff, hb]; decide
        omega
      rw [← hq]; exact Ev.now _
    | true =>
      have ht := h.test_iff.1 hb
      have hw := h.wraps ht
      by_cases hlt : rhat + yn1 < 4294967296
      · refine Ev.step (f := fun k => bits_Div64.l1 k y x8 yn1 yn0 x14 x15 (rhat + yn1) un21 (q - 1)) (fun k => by simp only [bits_Div64.j4]; rw [if_pos trivial, hw.1, hw.2, if_neg (by omega)]) ?_
        exact ih (h.down ht hlt) (by have := h.n1; have := h.r; omega)
      · refine Ev.step (f := fun k => some (divEnd y x8 x14 x15 un21 (q - 1))) (fun k => by simp only [bits_Div64.j4, divEnd]; rw [if_pos trivial, hw.1, hw.2, if_pos (by omega), if_pos h8]) ?_
        rw [h.last ht (by omega)]; exact Ev.now _

theorem div_j2 {y yn1 yn0 un32 x13 x14 x8 : Int} (h8 : 0 ≤ x8) (hy : y = yn1 * 4294967296 + yn0) (n1 : 2147483648 ≤ yn1) (n1' : yn1 < 4294967296) (n0 : 0 ≤ yn0) (n0' : yn0 < 4294967296)
    (u : 0 ≤ un32) (uy : un32 < y) (u1 : 0 ≤ x13) (u1' : x13 < 4294967296) (u0 : 0 ≤ x14) (u0' : x14 < 4294967296) :
    Ev (fun k => bits_Div64.j2 k y x8 yn1 yn0 un32 x13 x14 ((un32 * 4294967296 + x13) / y))
      (divEnd y x8 x14 ((un32 * 4294967296 + x13) / y) ((un32 * 4294967296 + x13) % y) (((un32 * 4294967296 + x13) % y * 4294967296 + x14) / y)) := by
  have hp : 0 < y := by omega
  have hN := Int.mul_ediv_add_emod (un32 * 4294967296 + x13) y
  have hR0 := Int.emod_nonneg (un32 * 4294967296 + x13) (b := y) (by omega)
  have hR1 := Int.emod_lt_of_pos (un32 * 4294967296 + x13) (b := y) hp
  generalize hq : (un32 * 4294967296 + x13) / y = q at *
  generalize hR : (un32 * 4294967296 + x13) % y = R at *
  have hun : (IntKind.u64.wrap ((IntKind.u64.wrap ((IntKind.u64.wrap (un32 * 4294967296)) + x13)) - (IntKind.u64.wrap (q * y)))) = R := by
    rw [Int.mul_comm q y]
    generalize y * q = P at *
    simp only [IntKind.wrap_u64]
    omega
  have hd := Digit.begin hy n1 n1' n0 n0' hR0 hR1 u0 u0'
  have hq0 : 0 ≤ R / yn1 := Int.ediv_nonneg hR0 (by omega)
  have hb := hd.q'
  have htd : IntKind.u64.wrap (Int.tdiv R yn1) = R / yn1 := by
    rw [Int.tdiv_eq_ediv_of_nonneg hR0]; exact w64 hq0 (by omega)
  have hrr : IntKind.u64.wrap (R - IntKind.u64.wrap (R / yn1 * yn1)) = R % yn1 := by
    have h1 := hd.hi; have h2 := hd.r; have h3 := hd.r'
    generalize R / yn1 * yn1 = P at *
    simp only [IntKind.wrap_u64]
    omega
  refine Ev.step (f := fun k => bits_Div64.l1 k y x8 yn1 yn0 x14 q (R % yn1) R (R / yn1)) (fun k => ?_) (div_l1 h8 (4294967296 - R % yn1).toNat hd (Nat.le_refl _))
  simp only [bits_Div64.j2]
  rw [if_neg (by omega), hun, htd, hrr]

/-- The two digits. -/
theorem div_digits {y yn1 yn0 un32 x13 x14 x8 : Int} (h8 : 0 ≤ x8) (hy : y = yn1 * 4294967296 + yn0) (n1 : 2147483648 ≤ yn1) (n1' : yn1 < 4294967296) (n0 : 0 ≤ yn0) (n0' : yn0 < 4294967296)
    (u : 0 ≤ un32) (uy : un32 < y) (u1 : 0 ≤ x13) (u1' : x13 < 4294967296) (u0 : 0 ≤ x14) (u0' : x14 < 4294967296) :
    Ev (fun k => bits_Div64.l0 k y x8 yn1 yn0 un32 x13 x14 (IntKind.u64.wrap (Int.tdiv un32 yn1)) (IntKind.u64.wrap (un32 - IntKind.u64.wrap (IntKind.u64.wrap (Int.tdiv un32 yn1) * yn1))))
      (((un32 * 4294967296 + x13) * 4294967296 + x14) / y, shr .u64 (((un32 * 4294967296 + x13) * 4294967296 + x14) % y) x8) := by
  have hp : 0 < y := by omega
  have hd := Digit.begin hy n1 n1' n0 n0' u uy u1 u1'
  have hq0 : 0 ≤ un32 / yn1 := Int.ediv_nonneg u (by omega)
  have hb := hd.q'
  have htd : IntKind.u64.wrap (Int.tdiv un32 yn1) = un32 / yn1 := by
    rw [Int.tdiv_eq_ediv_of_nonneg u]; exact w64 hq0 (by omega)
  have hrr : IntKind.u64.wrap (un32 - IntKind.u64.wrap (un32 / yn1 * yn1)) = un32 % yn1 := by
    have h1 := hd.hi; have h2 := hd.r; have h3 := hd.r'
    generalize un32 / yn1 * yn1 = P at *
    simp only [IntKind.wrap_u64]
    omega
  rw [htd, hrr]
  have hs := hd.small
  have hend : divEnd y x8 x14 ((un32 * 4294967296 + x13) / y) ((un32 * 4294967296 + x13) % y) (((un32 * 4294967296 + x13) % y * 4294967296 + x14) / y)
      = (((un32 * 4294967296 + x13) * 4294967296 + x14) / y, shr .u64 (((un32 * 4294967296 + x13) * 4294967296 + x14) % y) x8) := by
    have hN := Int.mul_ediv_add_emod (un32 * 4294967296 + x13) y
    have hR0 := Int.emod_nonneg (un32 * 4294967296 + x13) (b := y) (by omega)
    have hR1 := Int.emod_lt_of_pos (un32 * 4294967296 + x13) (b := y) hp
    have hs0 : 0 ≤ ((un32 * 4294967296 + x13) % y * 4294967296 + x14) / y := Int.ediv_nonneg (by omega) (by omega)
    have hs1 : ((un32 * 4294967296 + x13) % y * 4294967296 + x14) / y < 4294967296 := Int.ediv_lt_of_lt_mul hp (by omega)
    generalize (un32 * 4294967296 + x13) / y = q1 at *
    generalize (un32 * 4294967296 + x13) % y = R at *
    have hN2 := Int.mul_ediv_add_emod (R * 4294967296 + x14) y
    have hS0 := Int.emod_nonneg (R * 4294967296 + x14) (b := y) (by omega)
    have hS1 := Int.emod_lt_of_pos (R * 4294967296 + x14) (b := y) hp
    generalize (R * 4294967296 + x14) / y = q0 at *
    generalize (R * 4294967296 + x14) % y = S at *
    have hu : ((un32 * 4294967296 + x13) * 4294967296 + x14) / y = q1 * 4294967296 + q0 ∧ ((un32 * 4294967296 + x13) * 4294967296 + x14) % y = S := by
      refine (Int.ediv_emod_unique hp).2 ⟨?_, hS0, hS1⟩
      rw [Int.mul_add, ← Int.mul_assoc]
      omega
    have hy64 : y < 18446744073709551616 := by omega
    rw [hu.1, hu.2]
    unfold divEnd
    have e1 : IntKind.u64.wrap (IntKind.u64.wrap (q1 * 4294967296) + q0) = q1 * 4294967296 + q0 := by
      simp only [IntKind.wrap_u64]; omega
    have e2 : IntKind.u64.wrap (IntKind.u64.wrap (IntKind.u64.wrap (R * 4294967296) + x14) - IntKind.u64.wrap (q0 * y)) = S := by
      rw [Int.mul_comm q0 y]
      generalize y * q0 = P at *
      simp only [IntKind.wrap_u64]
      omega
    rw [e1, e2]
  rw [← hend]
  exact div_l0 (4294967296 - un32 % yn1).toNat hd (Nat.le_refl _) (div_j2 h8 hy n1 n1' n0 n0' u uy u1 u1' u0 u0')

/-- The shift by which the divisor's highest bit comes to the top. -/
theorem shift_of {y : Int} (h0 : 0 < y) (h1 : y < 18446744073709551616) :
    ∃ s : Nat, s ≤ 63 ∧ (64 - (Lib.bitLen y.toNat : Int)) = s ∧ 9223372036854775808 ≤ y * 2 ^ s ∧ y * 2 ^ s < 18446744073709551616 := by
  obtain ⟨n, rfl⟩ := Int.eq_ofNat_of_zero_le (Int.le_of_lt h0)
  have hb := Lib.bitLenAux_bounds 64 n (by omega) (by omega)
  have hl : Lib.bitLenAux 64 n ≤ 64 := Lib.bitLenAux_le 64 n 64 (by omega)
  obtain ⟨hb1, hb2, hb3⟩ := hb
  rw [Int.toNat_natCast]
  show ∃ s : Nat, s ≤ 63 ∧ (64 - (Lib.bitLenAux 64 n : Int)) = s ∧ _
  generalize Lib.bitLenAux 64 n = L at *
  have e1 : 2 ^ (L - 1) * 2 ^ (64 - L) = (9223372036854775808 : Nat) := by
    rw [← Nat.pow_add, show L - 1 + (64 - L) = 63 by omega]
  have e2 : 2 ^ L * 2 ^ (64 - L) = (18446744073709551616 : Nat) := by
    rw [← Nat.pow_add, show L + (64 - L) = 64 by omega]
  have h3 := Nat.mul_le_mul_right (2 ^ (64 - L)) hb2
  have h4 := (Nat.mul_lt_mul_right (Nat.two_pow_pos (64 - L))).2 hb3
  refine ⟨64 - L, by omega, by omega, ?_, ?_⟩
  · rw [e1] at h3
    have h3' := Int.ofNat_le.2 h3
    rw [Int.natCast_mul, Int.natCast_pow] at h3'
    exact h3'
  · rw [e2] at h4
    have h4' := Int.ofNat_lt.2 h4
    rw [Int.natCast_mul, Int.natCast_pow] at h4'
    exact h4'

theorem w64s (n : Int) (h₀ : 0 ≤ n) (h₁ : n < 2 ^ 64) : IntKind.u64.wrap n = n := w64 h₀ (by simpa using h₁)

/-- Div64: the quotient and what is left. -/
theorem div64 {hi lo y : Int} (h0 : 0 ≤ hi) (hy : hi < y) (hy' : y < 18446744073709551616) (l0 : 0 ≤ lo) (l1 : lo < 18446744073709551616) :
    Ev (fun k => bits_Div64.f k hi lo y) ((hi * 18446744073709551616 + lo) / y, (hi * 18446744073709551616 + lo) % y) := by
  have hp : 0 < y := by omega
  by_cases hz : hi = 0
  · subst hz
    refine Ev.congr (f := fun _ => some ((0 * 18446744073709551616 + lo) / y, (0 * 18446744073709551616 + lo) % y)) (fun k => ?_) (Ev.now _)
    simp only [bits_Div64.f]
    have hq0 : 0 ≤ lo / y := Int.ediv_nonneg l0 (by omega)
    have hq1 : lo / y ≤ lo := Int.ediv_le_self y l0
    rw [if_neg (by omega), if_neg (by omega), if_pos trivial, Int.tdiv_eq_ediv_of_nonneg l0, Int.tmod_eq_emod_of_nonneg l0, w64 hq0 (by omega), Int.zero_mul, Int.zero_add]
  · obtain ⟨s, hs, hL, hs1, hs2⟩ := shift_of hp hy'
    have hlz : bits_LeadingZeros64.f y = some (s : Int) := by
      unfold bits_LeadingZeros64.f
      rw [if_pos ⟨by omega, by omega⟩, hL]
    have ws : IntKind.u64.wrap (s : Int) = s := w64 (by omega) (by omega)
    have ws2 : IntKind.u64.wrap (64 - (s : Int)) = 64 - s := w64 (by omega) (by omega)
    have ePH : (2 : Int) ^ s * 2 ^ (64 - s) = 18446744073709551616 := by
      rw [← Int.pow_add, show s + (64 - s) = 64 by omega]; try rfl
    have hP : (0 : Int) < 2 ^ s := Int.pow_pos (by decide)
    have hH : (0 : Int) < 2 ^ (64 - s) := Int.pow_pos (by decide)
    have eshl : ∀ x : Int, shl .u64 x s = IntKind.u64.wrap (x * 2 ^ s) := fun x => by
      unfold shl; rw [Int.toNat_natCast, Nat.min_eq_left (show s ≤ IntKind.u64.bits from (by show s ≤ 64; omega))]
    have eshr : shr .u64 lo (64 - (s : Int)) = lo / 2 ^ (64 - s) := by
      unfold shr; rw [show (64 - (s : Int)).toNat = 64 - s by omega, Nat.min_eq_left (show 64 - s ≤ IntKind.u64.bits from (by show 64 - s ≤ 64; omega))]
    have eshr2 : ∀ x : Int, shr .u64 x s = x / 2 ^ s := fun x => by
      unfold shr; rw [Int.toNat_natCast, Nat.min_eq_left (show s ≤ IntKind.u64.bits from (by show s ≤ 64; omega))]
    generalize hPd : (2 : Int) ^ s = P at *
    generalize hHd : (2 : Int) ^ (64 - s) = H at *
    have hyn : shl .u64 y s = y * P := by rw [eshl]; exact w64 (by omega) hs2
    have hhi : (hi + 1) * P ≤ y * P := Int.mul_le_mul_of_nonneg_right (by omega) (by omega)
    have hhi0 : 0 ≤ hi * P := Int.mul_nonneg h0 (by omega)
    rw [Int.add_mul, Int.one_mul] at hhi
    have hhin : shl .u64 hi s = hi * P := by rw [eshl]; exact w64 hhi0 (by omega)
    have hlq0 : 0 ≤ lo / H := Int.ediv_nonneg l0 (by omega)
    have hlq1 : lo / H < P := Int.ediv_lt_of_lt_mul hH (by rw [ePH]; exact l1)
    have hlm := Int.mul_ediv_add_emod lo H
    have hlm0 := Int.emod_nonneg lo (b := H) (by omega)
    have hlm1 := Int.emod_lt_of_pos lo (b := H) hH
    have hor : Go.bits .or .u64 (hi * P) (lo / H) = hi * P + lo / H := by
      refine bits_join .u64 64 (by decide) w64s s (hi * P) (lo / H) hhi0 (by rw [hPd]; exact Int.mul_emod_left _ _) (by show hi * P < 18446744073709551616; omega) hlq0 (by rw [hPd]; exact hlq1) (by show lo / H < 18446744073709551616; omega)
    have hlo : shl .u64 lo s = lo % H * P := by
      rw [eshl]
      have e : lo * P = lo / H * 18446744073709551616 + lo % H * P := by
        rw [← ePH, Int.mul_comm P H, ← Int.mul_assoc, ← Int.add_mul, Int.mul_comm (lo / H) H, hlm]
      have b0 : 0 ≤ lo % H * P := Int.mul_nonneg hlm0 (by omega)
      have b1 : (lo % H + 1) * P ≤ H * P := Int.mul_le_mul_of_nonneg_right (by omega) (by omega)
      rw [Int.add_mul, Int.one_mul, Int.mul_comm H P, ePH] at b1
      rw [e, IntKind.wrap_u64]
      generalize lo % H * P = Z at *
      omega
    have hloB : 0 ≤ lo % H * P ∧ lo % H * P < 18446744073709551616 := by
      have b0 : 0 ≤ lo % H * P := Int.mul_nonneg hlm0 (by omega)
      have b1 : (lo % H + 1) * P ≤ H * P := Int.mul_le_mul_of_nonneg_right (by omega) (by omega)
      rw [Int.add_mul, Int.one_mul, Int.mul_comm H P, ePH] at b1
      exact ⟨b0, by omega⟩
    have hmask : ∀ x : Int, 0 ≤ x → x < 18446744073709551616 → Go.bits .and .u64 x 4294967295 = x % 4294967296 := fun x a b =>
      bits_mask .u64 64 (by decide) w64s 32 (by decide) x a (by simpa using b)
    have hdig := div_digits (y := y * P) (yn1 := y * P / 4294967296) (yn0 := y * P % 4294967296) (un32 := hi * P + lo / H) (x13 := lo % H * P / 4294967296) (x14 := lo % H * P % 4294967296) (x8 := (s : Int))
      (by omega) (by omega) (by omega) (by omega) (by omega) (by omega) (by omega) (by omega) (by omega) (by omega) (by omega) (by omega)
    have eU : ((hi * P + lo / H) * 4294967296 + lo % H * P / 4294967296) * 4294967296 + lo % H * P % 4294967296 = (hi * 18446744073709551616 + lo) * P := by
      have e : lo * P = lo / H * 18446744073709551616 + lo % H * P := by
        rw [← ePH, Int.mul_comm P H, ← Int.mul_assoc, ← Int.add_mul, Int.mul_comm (lo / H) H, hlm]
      rw [show (hi * 18446744073709551616 + lo) * P = hi * P * 18446744073709551616 + lo * P by rw [Int.add_mul, Int.mul_assoc, Int.mul_comm 18446744073709551616 P, ← Int.mul_assoc], e]
      omega
    rw [eU] at hdig
    have eR : (hi * 18446744073709551616 + lo) * P / (y * P) = (hi * 18446744073709551616 + lo) / y ∧ shr .u64 ((hi * 18446744073709551616 + lo) * P % (y * P)) s = (hi * 18446744073709551616 + lo) % y := by
      rw [eshr2]
      constructor
      · exact Int.mul_ediv_mul_of_pos_left _ _ hP
      · rw [Int.mul_comm _ P, Int.mul_comm y P, Int.mul_emod_mul_of_pos _ _ hP]
        exact Int.mul_ediv_cancel_left _ (by omega)
    rw [eR.1, eR.2] at hdig
    refine Ev.congr (fun k => ?_) hdig
    simp only [bits_Div64.f]
    rw [if_neg (by omega), if_neg (by omega), if_neg hz, hlz]
    simp only [Option.bind_some]
    rw [ws, ws2, if_pos (by omega), if_pos (by omega), hyn, hhin, eshr, hor, hlo, hmask _ (by omega) hs2, hmask _ hloB.1 hloB.2, if_neg (by omega)]
end Go.Proofs.Ytlglopainaploaa.Pure
