/- What stands at a place of a sorted list: plain words. -/
import Derived.Test.YtlglopainaploaaTalPd
namespace Go.Proofs.Ytlglopainaploaa.Tal
open Go.RowKit Go.Proofs.YtlglopainaploaaW.PrintWords Go.Proofs.YtlglopainaploaaW.PrintLast Go.Proofs.YtlglopainaploaaW.PrintMore
open Go.Proofs.Ytlglopainaploaa.PL Go.Proofs.Ytlglopainaploaa.Pure
set_option linter.unusedVariables false
set_option linter.unusedSimpArgs false

theorem srt_len (l : List Int) : (srt l).length = l.length := (srt_perm l).length_eq
theorem atA_get {l : List Int} {i : Nat} (h : i < l.length) : atA l i = (srt l)[i]'(by rw [srt_len]; exact h) := by
  unfold atA
  rw [List.getD_eq_getElem?_getD, List.getElem?_eq_getElem (by rw [srt_len]; exact h)]
  rfl
theorem at_mem {l : List Int} {i : Nat} (h : i < l.length) : atA l i ∈ l := by
  rw [atA_get h]
  exact (srt_perm l).mem_iff.1 (List.getElem_mem _)
theorem at_mono {l : List Int} {i j : Nat} (h : i ≤ j) (hj : j < l.length) : atA l i ≤ atA l j := by
  rw [atA_get hj, atA_get (Nat.lt_of_le_of_lt h hj)]
  rcases Nat.lt_or_eq_of_le h with q | q
  · exact List.pairwise_iff_getElem.1 (srt_sorted l) i j _ _ q
  · subst q
    exact Int.le_refl _
theorem sorted_counts : ∀ {s : List Int} {i : Nat} {x : Int}, s.Pairwise (· ≤ ·) → s[i]? = some x → s.countP (fun y => decide (y < x)) ≤ i ∧ i < s.countP (fun y => decide (y < x)) + s.countP (fun y => decide (y = x))
  | [], _, _, _, h => by cases h
  | a :: t, 0, x, hs, h => by
    obtain ⟨h1, _⟩ := List.pairwise_cons.1 hs
    obtain rfl : a = x := Option.some.inj h
    rw [List.countP_cons, List.countP_cons]
    have z : t.countP (fun y => decide (y < a)) = 0 := List.countP_eq_zero.2 (fun y hy => by have := h1 y hy; simp; omega)
    rw [z]
    simp
  | a :: t, i + 1, x, hs, h => by
    obtain ⟨h1, h2⟩ := List.pairwise_cons.1 hs
    have h' : t[i]? = some x := h
    obtain ⟨c1, c2⟩ := sorted_counts h2 h'
    have ax : a ≤ x := h1 x (List.mem_of_getElem? h')
    rw [List.countP_cons, List.countP_cons]
    by_cases q : a < x
    · rw [if_pos (by simpa using q), if_neg (by simp; omega)]
      omega
    · rw [if_neg (by simpa using q), if_pos (by simp; omega)]
      omega
theorem at_counts {l : List Int} {i : Nat} (h : i < l.length) : l.countP (fun y => decide (y < atA l i)) ≤ i ∧ i < l.countP (fun y => decide (y < atA l i)) + l.countP (fun y => decide (y = atA l i)) := by
  have := sorted_counts (srt_sorted l) (i := i) (x := atA l i) (by rw [atA_get h]; exact List.getElem?_eq_getElem _)
  rwa [(srt_perm l).countP_eq, (srt_perm l).countP_eq] at this
/-- Only numbers. -/
def AllNum (L : List Va) : Prop := ∀ x ∈ L, ∃ n, 0 ≤ n ∧ n ≤ 1000000 ∧ x = vNum n
theorem AllNum.fault {L : List Va} (h : AllNum L) : faultOf L = 0 := by
  have z : ∀ c, cnt L (vFault c) = 0 := fun c => by
    have := cnt_bd L (vFault c)
    by_cases q : 0 < cnt L (vFault c)
    · obtain ⟨n, _, _, e⟩ := h _ (cnt_pos.1 q)
      injection e with e _
      exact absurd e (by decide)
    · omega
  unfold faultOf
  rw [faultL_congr (g := fun _ => 0) 8 0 (fun c _ => z c)]
  rfl
theorem AllNum.nums : ∀ {L : List Va}, AllNum L → (numsOf L).length = L.length ∧ ∀ x ∈ numsOf L, 0 ≤ x ∧ x ≤ 1000000
  | [], _ => ⟨rfl, fun _ h => (by cases h)⟩
  | a :: L, h => by
    obtain ⟨i1, i2⟩ := AllNum.nums (L := L) (fun x hx => h x (List.mem_cons_of_mem _ hx))
    obtain ⟨n, n0, n1, e⟩ := h a List.mem_cons_self
    subst e
    simp only [numsOf]
    rw [if_pos trivial]
    refine ⟨by simp only [List.length_cons]; omega, fun x hx => ?_⟩
    rcases List.mem_cons.1 hx with rfl | hx
    · exact ⟨n0, n1⟩
    · exact i2 x hx
/-- What the k-th of them tells. -/
theorem AllNum.small {L : List Va} (h : AllNum L) {k : Nat} (h1 : 1 ≤ k) (h2 : k ≤ L.length) : ask L (smallA (numsOf L) k) = (atA (numsOf L) (k - 1), 0) := by
  unfold ask smallA
  rw [if_pos h.fault, if_neg (by have := h.nums.1; omega)]
  congr 2
  omega
end Go.Proofs.Ytlglopainaploaa.Tal
