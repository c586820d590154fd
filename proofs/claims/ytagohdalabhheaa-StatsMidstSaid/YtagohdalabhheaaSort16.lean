/- The numbers in rising order: what the reference's printed sorting tells. -/
import Derived.Test.YtagohdalabhheaaPBx8
import Derived.Test.YtagohdalabhheaaKth
set_option linter.unusedVariables false
set_option linter.unusedSimpArgs false
namespace Go.Proofs.Ytagohdalabhheaa.Pure
open Go.RowKit Go.Proofs.Ytagohdalabhheaa.PB Go.Proofs.YtagohdalabhheaaW.PrintWords Go.Proofs.YtagohdalabhheaaW.PrintLast Go.Proofs.YtagohdalabhheaaW.PrintMore

theorem set_mid (A B : List Int) (h v : Int) : (A ++ h :: B).set A.length v = A ++ v :: B := by
  rw [List.set_append_right _ _ (Nat.le_refl _), Nat.sub_self]; rfl
theorem rd_app_left (A B : List Int) {i : Int} (h0 : 0 ≤ i) (h1 : i < A.length) : rd (A ++ B) i = rd A i := by
  unfold rd
  rw [List.getD_eq_getElem?_getD, List.getD_eq_getElem?_getD, List.getElem?_append_left (by omega)]
theorem rd_last (A B : List Int) (a : Int) : rd (A ++ [a] ++ B) (A.length : Int) = a := by
  unfold rd
  rw [Int.toNat_natCast, List.append_assoc, List.getD_eq_getElem?_getD, List.getElem?_append_right (Nat.le_refl _), Nat.sub_self]; rfl
/-- A number is put in its place: A is what is left of the row, B what stands behind the place. -/
theorem rising_put {l : List Int} (hl : (l.length : Int) < 17592186044416) {i : Nat} (hi : i < l.length) {out : List Int} (ho : (out.length : Int) < 17592186044416) (hs : out.Pairwise (· ≤ ·)) :
    ∀ (m : Nat) (A B : List Int) (h : Int), A.length = m → A ++ B = out → (∀ x ∈ B, rd l i ≤ x) →
    ∃ A' B', A' ++ B' = out ∧ (∀ x ∈ A', x ≤ rd l i) ∧ (∀ x ∈ B', rd l i ≤ x) ∧ ∀ r, Ev (fun k => foolscapref16_Rising.l0 k l (A' ++ rd l i :: B') ((i + 1 : Nat) : Int)) r → Ev (fun k => foolscapref16_Rising.l1 k l (A ++ h :: B) i (m : Int)) r := by
  intro m
  have w1 : wrap64 ((i : Int) + 1) = ((i + 1 : Nat) : Int) := by rw [wrK (by omega) (by omega)]; omega
  induction m with
  | zero =>
    intro A B h hA hAB hB
    have hA0 : A = [] := List.eq_nil_of_length_eq_zero hA
    subst hA0
    refine ⟨[], B, hAB, by simp, hB, fun r e => Ev.step (fun k => ?_) e⟩
    simp only [foolscapref16_Rising.l1]
    rw [if_neg (by omega), if_pos (by omega), if_pos (by omega), if_pos (by omega), if_pos (by simp), w1]
    rfl
  | succ m ih =>
    intro A B h hA hAB hB
    obtain ⟨A0, a, rfl⟩ : ∃ A0 a, A = A0 ++ [a] := by
      rcases List.eq_nil_or_concat A with e | ⟨A0, a, e⟩
      · subst e; simp at hA
      · exact ⟨A0, a, by simpa using e⟩
    have hA0 : A0.length = m := by simp at hA; omega
    have hlen : out.length = m + 1 + B.length := by rw [← hAB, List.length_append, hA]
    have ha : rd (A0 ++ [a] ++ h :: B) (m : Int) = a := by rw [← hA0]; exact rd_last A0 (h :: B) a
    have wm : wrap64 (((m + 1 : Nat) : Int) - 1) = (m : Int) := by rw [wrK (by omega) (by omega)]; omega
    have hL : ((A0 ++ [a] ++ h :: B).length : Int) = out.length + 1 := by simp; omega
    by_cases c : a > rd l i
    · obtain ⟨A', B', e1, e2, e3, e4⟩ := ih A0 (a :: B) a hA0 (by rw [← hAB]; simp) (by
        intro x hx
        rcases List.mem_cons.1 hx with rfl | hx
        · omega
        · exact hB x hx)
      refine ⟨A', B', e1, e2, e3, fun r e => Ev.step (fun k => ?_) (e4 r e)⟩
      simp only [foolscapref16_Rising.l1]
      rw [if_pos (by omega), wm, if_pos (by omega), if_pos (by omega), if_pos (by omega), if_pos (by omega), ha, if_pos c, if_pos (by omega), if_pos (by omega)]
      rw [show (((m + 1 : Nat) : Int)).toNat = (A0 ++ [a]).length by rw [hA]; simp, set_mid]
      simp
    · refine ⟨A0 ++ [a], B, hAB, ?_, hB, fun r e => Ev.step (fun k => ?_) e⟩
      · rw [← hAB, List.append_assoc, List.pairwise_append] at hs
        intro x hx
        rcases List.mem_append.1 hx with hx | hx
        · have := hs.2.2 x hx a (by simp); omega
        · have : x = a := by simpa using hx
          omega
      · simp only [foolscapref16_Rising.l1]
        rw [if_pos (by omega), wm, if_pos (by omega), if_pos (by omega), if_pos (by omega), if_pos (by omega), ha, if_neg c, if_pos (by omega), if_pos (by omega), w1]
        rw [show (((m + 1 : Nat) : Int)).toNat = (A0 ++ [a]).length by rw [hA]; simp, set_mid]
theorem rising_l0 {l : List Int} (hl : (l.length : Int) < 17592186044416) : ∀ (d i : Nat) (out : List Int), i + d = l.length → out.Perm (l.take i) → out.Pairwise (· ≤ ·) →
    ∃ r, Ev (fun k => foolscapref16_Rising.l0 k l out i) r ∧ r.Perm l ∧ r.Pairwise (· ≤ ·) := by
  intro d
  induction d with
  | zero =>
    intro i out hi hp hs
    refine ⟨out, Ev.step (f := fun _ => some out) (fun k => by simp only [foolscapref16_Rising.l0]; rw [if_neg (by omega)]) (Ev.now _), ?_, hs⟩
    rw [List.take_of_length_le (by omega)] at hp; exact hp
  | succ d ih =>
    intro i out hi hp hs
    have ho : out.length = i := by rw [hp.length_eq, List.length_take]; omega
    obtain ⟨A, B, e1, e2, e3, e4⟩ := rising_put hl (i := i) (by omega) (by omega) hs out.length out [] 0 rfl (by simp) (by simp)
    have ht : l.take (i + 1) = l.take i ++ [rd l i] := by
      rw [List.take_add_one, List.getElem?_eq_getElem (by omega), rd_get l i (by omega)]; rfl
    have hs1 : (A ++ rd l i :: B).Pairwise (· ≤ ·) := by
      rw [← e1, List.pairwise_append] at hs
      rw [List.pairwise_append, List.pairwise_cons]
      refine ⟨hs.1, ⟨e3, hs.2.1⟩, ?_⟩
      intro x hx y hy
      rcases List.mem_cons.1 hy with rfl | hy
      · exact e2 x hx
      · exact hs.2.2 x hx y hy
    have hp1 : (A ++ rd l i :: B).Perm (l.take (i + 1)) := by
      rw [ht]
      refine List.perm_middle.trans ?_
      rw [e1]
      exact (List.Perm.cons _ hp).trans (List.perm_append_singleton _ _).symm
    obtain ⟨r, e, hr1, hr2⟩ := ih (i + 1) (A ++ rd l i :: B) (by omega) hp1 hs1
    refine ⟨r, Ev.step (fun k => ?_) (e4 r e), hr1, hr2⟩
    simp only [foolscapref16_Rising.l0]
    rw [if_pos (by omega), if_pos (by omega)]
theorem rising_of {l : List Int} (hl : (l.length : Int) < 17592186044416) : ∃ r, Ev (fun k => foolscapref16_Rising.f k l) r ∧ r.Perm l ∧ r.Pairwise (· ≤ ·) :=
  rising_l0 hl l.length 0 [] (by omega) (by simp) List.Pairwise.nil
/-- In a row that rises each number stands at its place. -/
theorem sorted_kth {s : List Int} (hs : s.Pairwise (· ≤ ·)) {j : Nat} (hj : j < s.length) : KthIs s j s[j] := by
  have h1 : s = s.take j ++ s[j] :: s.drop (j + 1) := by rw [← List.drop_eq_getElem_cons hj, List.take_append_drop]
  have hp := hs
  rw [h1, List.pairwise_append, List.pairwise_cons] at hp
  refine ⟨List.getElem_mem hj, ?_, ?_⟩
  · have : cLt s s[j] = cLt (s.take j ++ s[j] :: s.drop (j + 1)) s[j] := by rw [← h1]
    rw [this, cLt_app, cLt_none (l := s[j] :: s.drop (j + 1)) (fun x hx => by
      rcases List.mem_cons.1 hx with rfl | hx
      · exact Int.le_refl _
      · exact hp.2.1.1 x hx)]
    have : cLt (s.take j) s[j] ≤ (s.take j).length := List.countP_le_length
    rw [List.length_take] at this; omega
  · have : cLe s s[j] = cLe (s.take j ++ s[j] :: s.drop (j + 1)) s[j] := by rw [← h1]
    rw [this, cLe_app, cLe_all (l := s.take j) (fun x hx => hp.2.2 x hx _ List.mem_cons_self), List.length_take]
    have : 0 < cLe (s[j] :: s.drop (j + 1)) s[j] := List.countP_pos_iff.2 ⟨s[j], List.mem_cons_self, by simp⟩
    omega
end Go.Proofs.Ytagohdalabhheaa.Pure
