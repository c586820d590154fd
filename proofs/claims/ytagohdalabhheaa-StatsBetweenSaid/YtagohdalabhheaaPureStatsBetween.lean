/- Mean and midst lie between the ends; half of the numbers at least are not above the midst, and half not below: the statement over numbers. -/
import Derived.Test.YtagohdalabhheaaPCx10
import Derived.Test.YtagohdalabhheaaMed16
import Derived.Test.YtagohdalabhheaaEnds16
import Derived.Test.YtagohdalabhheaaLives16
set_option linter.unusedVariables false
set_option linter.unusedSimpArgs false
namespace Go.Proofs.Ytagohdalabhheaa.Pure
open Go.RowKit Go.Proofs.Ytagohdalabhheaa.PC Go.Proofs.YtagohdalabhheaaW.PrintWords Go.Proofs.YtagohdalabhheaaW.PrintLast Go.Proofs.YtagohdalabhheaaW.PrintMore

def cGe (l : List Int) (r : Int) : Nat := l.countP (fun x => decide (r ≤ x))
theorem cGe_lt (l : List Int) (r : Int) : cLt l r + cGe l r = l.length := by
  unfold cLt cGe
  induction l with
  | nil => rfl
  | cons x xs ih =>
    rw [List.countP_cons, List.countP_cons, List.length_cons]
    by_cases h : x < r
    · rw [if_pos (by simpa using h), if_neg (by simp; omega)]; omega
    · rw [if_neg (by simpa using h), if_pos (by simp; omega)]; omega
theorem cLe_mono {l : List Int} {r s : Int} (h : r ≤ s) : cLe l r ≤ cLe l s := List.countP_mono_left (fun x _ hx => by simp at hx ⊢; omega)
theorem cGe_mono {l : List Int} {r s : Int} (h : r ≤ s) : cGe l s ≤ cGe l r := List.countP_mono_left (fun x _ hx => by simp at hx ⊢; omega)
theorem sumI_ends {l : List Int} {a b : Int} (h : ∀ x ∈ l, a ≤ x ∧ x ≤ b) : (l.length : Int) * a ≤ sumI l ∧ sumI l ≤ (l.length : Int) * b := by
  induction l with
  | nil => simp [sumI]
  | cons x xs ih =>
    obtain ⟨h1, h2⟩ := ih (fun y hy => h y (List.mem_cons_of_mem _ hy))
    obtain ⟨f1, f2⟩ := h x List.mem_cons_self
    simp only [sumI, List.length_cons]
    rw [show ((xs.length + 1 : Nat) : Int) * a = (xs.length : Int) * a + a by rw [Int.natCast_add, Int.add_mul]; simp, show ((xs.length + 1 : Nat) : Int) * b = (xs.length : Int) * b + b by rw [Int.natCast_add, Int.add_mul]; simp]
    omega
theorem drop_rd16 (l : List Int) (i : Nat) (h : i < l.length) : l.drop i = rd l i :: l.drop (i + 1) := by
  rw [List.drop_eq_getElem_cons h, rd_get l i h]
theorem between_l0 {l : List Int} {lo hi mean mid : Int} (hl : l.length ≤ 2000) (hb : ∀ x ∈ l, lo ≤ x ∧ x ≤ hi) (m1 : lo ≤ mean ∧ mean ≤ hi) (m2 : lo ≤ mid ∧ mid ≤ hi) : ∀ (d i : Nat) (u o : Int), i + d = l.length → 0 ≤ u → u ≤ i → 0 ≤ o → o ≤ i →
    (l.length : Int) ≤ 2 * (u + cLe (l.drop i) mid) → (l.length : Int) ≤ 2 * (o + cGe (l.drop i) mid) → Ev (fun k => foolscaplaw16_StatsBetween.l0 k l lo hi 0 mean 0 mid 0 u o i) true := by
  intro d
  induction d with
  | zero =>
    intro i u o hi' u0 u1 o0 o1 hu ho
    rw [List.drop_of_length_le (by omega)] at hu ho
    have z1 : cLe [] mid = 0 := rfl
    have z2 : cGe [] mid = 0 := rfl
    rw [z1] at hu
    rw [z2] at ho
    refine Ev.step (fun k => ?_) ends
    simp only [foolscaplaw16_StatsBetween.l0]
    rw [if_neg (by omega), if_pos trivial, if_pos trivial, if_pos trivial, if_pos (by omega), if_pos (by omega), if_pos (by omega), if_pos (by omega), wr64 (x := 2 * u) (by omega) (by omega), wr64 (x := 2 * o) (by omega) (by omega), if_pos (by omega), if_pos (by omega)]
  | succ d ih =>
    intro i u o hi' u0 u1 o0 o1 hu ho
    have w1 : ∀ _ : Unit, wrap64 ((i : Int) + 1) = ((i + 1 : Nat) : Int) := fun _ => wr64 (x := (i : Int) + 1) (by omega) (by omega)
    have w2 : ∀ _ : Unit, wrap64 (u + 1) = u + 1 := fun _ => wr64 (by omega) (by omega)
    have w3 : ∀ _ : Unit, wrap64 (o + 1) = o + 1 := fun _ => wr64 (by omega) (by omega)
    obtain ⟨b1, b2⟩ := hb (rd l i) (rd_mem (by omega) (by omega))
    rw [drop_rd16 l i (by omega)] at hu ho
    unfold cLe at hu
    unfold cGe at ho
    rw [List.countP_cons] at hu ho
    have j2 : ∀ u', 0 ≤ u' → u' ≤ ((i + 1 : Nat) : Int) → (l.length : Int) ≤ 2 * (u' + cLe (l.drop (i + 1)) mid) → Ev (fun k => foolscaplaw16_StatsBetween.j2 k l lo hi 0 mean 0 mid 0 u' o i) true := fun u' h0 h1 h2 => by
      by_cases c : rd l i ≥ mid
      · rw [if_pos (by simpa using c)] at ho
        refine Ev.step (fun k => ?_) (ih (i + 1) u' (o + 1) (by omega) h0 h1 (by omega) (by omega) h2 (by unfold cGe; omega))
        simp only [foolscaplaw16_StatsBetween.j2]
        rw [if_pos (by omega), if_pos (by omega), if_pos c, if_neg (by omega), if_neg (by omega), w1 (), w3 ()]
      · rw [if_neg (by simpa using c)] at ho
        refine Ev.step (fun k => ?_) (ih (i + 1) u' o (by omega) h0 h1 (by omega) (by omega) h2 (by unfold cGe; omega))
        simp only [foolscaplaw16_StatsBetween.j2]
        rw [if_pos (by omega), if_pos (by omega), if_neg c, if_neg (by omega), if_neg (by omega), w1 ()]
    by_cases c : rd l i ≤ mid
    · rw [if_pos (by simpa using c)] at hu
      refine Ev.step (fun k => ?_) (j2 (u + 1) (by omega) (by omega) (by unfold cLe; omega))
      simp only [foolscaplaw16_StatsBetween.l0]
      rw [if_pos (by omega), if_pos (by omega), if_pos c, w2 ()]
    · rw [if_neg (by simpa using c)] at hu
      refine Ev.step (fun k => ?_) (j2 u (by omega) (by omega) (by unfold cLe; omega))
      simp only [foolscaplaw16_StatsBetween.l0]
      rw [if_pos (by omega), if_pos (by omega), if_neg c]
theorem MedIs.half {l : List Int} {r : Int × Int} {lo hi : Int} (g : GoodL l) (p : 0 < l.length) (h : MedIs l r) (hlo : KthIs l 0 lo) (hhi : KthIs l (l.length - 1) hi) :
    r.2 = 0 ∧ lo ≤ r.1 ∧ r.1 ≤ hi ∧ l.length ≤ 2 * cLe l r.1 ∧ l.length ≤ 2 * cGe l r.1 := by
  rcases h with ⟨n, _⟩ | ⟨_, _, b, hb, h⟩
  · exact absurd ⟨g, p⟩ n
  · have b1 := hlo.mono (by omega) hb
    have b2 := hb.mono (by omega) hhi
    have b3 := hb.2.1
    have b4 := hb.2.2
    have b5 := cGe_lt l b
    rcases h with ⟨o, rfl⟩ | ⟨o, a, ha, rfl⟩
    · exact ⟨rfl, b1, b2, by dsimp only; omega, by dsimp only; omega⟩
    · have a1 := hlo.mono (by omega) ha
      have ab := ha.mono (by omega) hb
      have a4 := ha.2.2
      have c1 := meanV_ge (v := a + b) (c := 2) (b := a) (by decide) (by omega)
      have c2 := meanV_le (v := a + b) (c := 2) (b := b) (by decide) (by omega)
      have d1 := cLe_mono (l := l) c1
      have d2 := cGe_mono (l := l) c2
      exact ⟨rfl, by dsimp only; omega, by dsimp only; omega, by dsimp only; omega, by dsimp only; omega⟩
def tail (k : Nat) (l : List Int) (a b c d : Int × Int) : Option Bool := if a.2 = 0 then (foolscaplaw16_StatsBetween.l0 k l a.1 b.1 b.2 c.1 c.2 d.1 d.2 0 0 0) else (if a.2 = 5 then (if b.2 = 5 then (if c.2 = 5 then (if d.2 = 5 then ((foolscaplaw16_lives.f k).bind fun t276 => (some t276)) else (some false)) else (some false)) else (some false)) else (some false))
theorem tail_of {l : List Int} (p : 0 < l.length) (q : l.length ≤ 2000) {a b d : Int × Int} (ha : SmallIs l 1 a) (hb : SmallIs l l.length b) (hd : MedIs l d) : Ev (fun k => tail k l a b (meanL l) d) true := by
  by_cases gl : GoodL l
  · rcases ha with ⟨_, _, _, a2, ka⟩ | ⟨n, _⟩
    · rcases hb with ⟨_, _, _, b2, kb⟩ | ⟨n, _⟩
      · have ka' : KthIs l 0 a.1 := ka
        have kb' : KthIs l (l.length - 1) b.1 := by rw [show ((l.length : Int) - 1).toNat = l.length - 1 by omega] at kb; exact kb
        obtain ⟨d2, h1, h2, h3, h4⟩ := hd.half gl p ka' kb'
        have hall : ∀ x ∈ l, a.1 ≤ x ∧ x ≤ b.1 := fun x hx => by
          have q1 := ka'.2.1
          have q2 := kb'.2.2
          constructor
          · by_cases c : x < a.1
            · have : 0 < cLt l a.1 := List.countP_pos_iff.2 ⟨x, hx, by simpa using c⟩
              omega
            · omega
          · have h5 : cLe l b.1 ≤ l.length := List.countP_le_length
            have h6 : cLe l b.1 = l.length := by omega
            have := List.countP_eq_length.1 h6 x hx
            simpa using this
        have hs := sumI_ends hall
        have m1 := meanV_ge (v := sumI l) (c := l.length) (b := a.1) (by omega) hs.1
        have m2 := meanV_le (v := sumI l) (c := l.length) (b := b.1) (by omega) hs.2
        have hm : meanL l = (meanV (sumI l) l.length, 0) := by
          unfold meanL
          rw [if_pos gl, if_neg (fun q => by rw [q] at p; simp at p)]
        rw [hm]
        refine Ev.congr (f := fun k => foolscaplaw16_StatsBetween.l0 k l a.1 b.1 0 (meanV (sumI l) l.length) 0 d.1 0 0 0 0) (fun k => ?_) ?_
        · unfold tail; rw [if_pos a2, b2, d2]
        · exact between_l0 q hall ⟨m1, m2⟩ ⟨h1, h2⟩ l.length 0 0 0 (by omega) (by omega) (by omega) (by omega) (by omega) (by rw [List.drop_zero]; omega) (by rw [List.drop_zero]; omega)
      · exact absurd ⟨gl, by omega, by omega⟩ n
    · exact absurd ⟨gl, by omega, by omega⟩ n
  · have ea' : a = (0, 5) := ha.one (.inr ⟨fun q => gl q.1, rfl⟩)
    have eb' : b = (0, 5) := hb.one (.inr ⟨fun q => gl q.1, rfl⟩)
    have ed' : d = (0, 5) := hd.one (.inl ⟨fun q => gl q.1, rfl⟩)
    have hm : meanL l = (0, 5) := if_neg gl
    rw [ea', eb', ed', hm]
    exact Ev.congr (fun k => by unfold tail; rw [if_neg (by decide), if_pos rfl, if_pos rfl, if_pos rfl, if_pos rfl]) ends
theorem StatsBetween : foolscaplaw16_StatsBetween.Pure := by
  intro l _ _ _
  refine Ev.rounds (g := fun k => foolscaplaw16_StatsBetween.f k l) ?_
  have out : Ev (fun k => foolscaplaw16_StatsBetween.j0 k l true) true := Ev.step (fun k => by simp only [foolscaplaw16_StatsBetween.j0]; rw [if_pos trivial]) ends
  have into : 0 < l.length → l.length ≤ 2000 → Ev (fun k => foolscaplaw16_StatsBetween.j0 k l false) true := fun p q => by
    obtain ⟨a, ha, ea⟩ := least_of (l := l) p
    obtain ⟨b, hb, eb⟩ := greatest_of (l := l) p
    obtain ⟨d, hd, ed⟩ := median_of l
    have h : Ev (fun k => (stats_Least.f k l).bind fun a => (stats_Greatest.f k l).bind fun b => (stats_Mean.f k l).bind fun c => (stats_Median.f k l).bind fun d => tail k l a b c d) true := Ev.bind ea (Ev.bind eb (Ev.bind (mean_ofL l) (Ev.bind ed (tail_of p q ha hb hd))))
    refine Ev.step (fun k => ?_) h
    simp only [foolscaplaw16_StatsBetween.j0, tail]
    rw [if_neg (by decide)]
  refine Ev.congr (g := fun k => if (l.length : Int) = 0 then foolscaplaw16_StatsBetween.j0 k l true else foolscaplaw16_StatsBetween.j0 k l (decide ((l.length : Int) > 2000))) (fun k => rfl) ?_
  by_cases z : (l.length : Int) = 0
  · exact Ev.congr (fun k => if_pos z) out
  by_cases g : (l.length : Int) > 2000
  · exact Ev.congr (fun k => (if_neg z).trans (by rw [decide_eq_true g])) out
  · exact Ev.congr (fun k => (if_neg z).trans (by rw [decide_eq_false g])) (into (by omega) (by omega))
end Go.Proofs.Ytagohdalabhheaa.Pure
