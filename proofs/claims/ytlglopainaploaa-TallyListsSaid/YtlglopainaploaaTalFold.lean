/- Folding a text: byte by byte; twice as once. -/
import Derived.Test.YtlglopainaploaaPLx1
import Derived.Laws.RangeAny
namespace Go.Proofs.Ytlglopainaploaa.Tal
open Go.RowKit Go.Proofs.YtlglopainaploaaW.PrintWords Go.Proofs.YtlglopainaploaaW.PrintLast Go.Proofs.YtlglopainaploaaW.PrintMore
open Go.Proofs.Ytlglopainaploaa.PL
set_option linter.unusedVariables false
set_option linter.unusedSimpArgs false

def upb (x : Int) : Int := if 97 ≤ x ∧ x ≤ 122 then x - 32 else x
def bt (s : ByteArray) (i : Nat) : Int := ((s.get! i).toNat : Int)
theorem bt_rng (s : ByteArray) (i : Nat) : 0 ≤ bt s i ∧ bt s i < 256 := by
  have := (s.get! i).toNat_lt
  unfold bt
  omega
theorem get_bt (s : ByteArray) (i : Nat) (h : i < s.size) : ((s[i]'h).toNat : Int) = bt s i := by
  unfold bt
  have e : s.get! i = s[i]'h := by
    simp [ByteArray.get!, getElem!_pos, h]
    rfl
  rw [e]
theorem nums_getD (s : ByteArray) (i : Nat) (h : i < s.size) : (value_Fold.nums s).getD i 0 = bt s i := by
  rw [← get_bt s i h]
  unfold value_Fold.nums
  rw [List.getD_eq_getElem?_getD, List.getElem?_map]
  have h2 : i < s.data.toList.length := h
  rw [List.getElem?_eq_getElem h2]
  rfl
theorem nums_len (s : ByteArray) : (value_Fold.nums s).length = s.size := by
  unfold value_Fold.nums
  rw [List.length_map]
  rfl
theorem decode_skip (s : ByteArray) (pos : Nat) (k : Nat) (h1 : 1 ≤ k) (h2 : k < (Utf8.decode s pos).2) : 128 ≤ bt s (pos + k) := by
  unfold bt
  simp only [Utf8.decode] at h2
  have key : ∀ j, (s.get! (pos + j)).toNat / 64 = 2 → 128 ≤ (s.get! (pos + j)).toNat := fun j hj => by omega
  have c : k = 1 ∨ k = 2 ∨ k = 3 ∨ 4 ≤ k := by omega
  repeat' split at h2
  all_goals simp_all
  all_goals first
    | (exfalso; omega)
    | (rcases c with rfl | rfl | rfl | c <;> first | (exfalso; omega) | omega)
theorem go_spec : ∀ (n : Nat) (s : ByteArray) (pos : Nat) (xs : List Int), s.size ≤ pos + n → xs.length = s.size → (∀ i, pos ≤ i → i < s.size → xs.getD i 0 = bt s i) →
    ∀ i, i < s.size → (value_Fold.go n s pos xs).getD i 0 = if pos ≤ i then upb (bt s i) else xs.getD i 0
  | 0, s, pos, xs, hn, hl, hx, i, hi => by
    rw [if_neg (by omega)]
    rfl
  | n + 1, s, pos, xs, hn, hl, hx, i, hi => by
    simp only [value_Fold.go]
    by_cases hp : pos < s.size
    · rw [if_pos hp]
      by_cases ha : (s[pos]'hp).toNat < 128
      · have gb := get_bt s pos hp
        rw [decode_ascii s pos hp ha]
        dsimp only
        by_cases c : 97 ≤ (s[pos]'hp).toNat ∧ (s[pos]'hp).toNat ≤ 122
        · rw [if_pos c, go_spec n s (pos + 1) _ (by omega) (by rw [List.length_set]; exact hl) (fun j hj hj2 => by
            rw [List.getD_eq_getElem?_getD, List.getElem?_set_ne (by omega), ← List.getD_eq_getElem?_getD]
            exact hx j (by omega) hj2) i hi]
          by_cases q : pos = i
          · subst q
            rw [if_neg (by omega), if_pos (Nat.le_refl _), List.getD_eq_getElem?_getD, List.getElem?_set_self (by omega)]
            show IntKind.u8.wrap (xs.getD pos 0 - 32) = _
            rw [hx pos (Nat.le_refl _) hp]
            unfold upb
            rw [if_pos (by omega)]
            have r := bt_rng s pos
            show (bt s pos - 32) % 256 = bt s pos - 32
            omega
          · by_cases q2 : pos + 1 ≤ i
            · rw [if_pos q2, if_pos (by omega)]
            · rw [if_neg q2, if_neg (by omega), List.getD_eq_getElem?_getD, List.getElem?_set_ne q, ← List.getD_eq_getElem?_getD]
        · rw [if_neg c, go_spec n s (pos + 1) _ (by omega) hl (fun j hj hj2 => hx j (by omega) hj2) i hi]
          by_cases q : pos = i
          · subst q
            rw [if_neg (by omega), if_pos (Nat.le_refl _), hx pos (Nat.le_refl _) hp]
            unfold upb
            rw [if_neg (by omega)]
          · by_cases q2 : pos + 1 ≤ i
            · rw [if_pos q2, if_pos (by omega)]
            · rw [if_neg q2, if_neg (by omega)]
      · have hh := decode_high s pos hp (by omega)
        rw [if_neg (by omega), go_spec n s _ _ (by omega) hl (fun j hj hj2 => hx j (by omega) hj2) i hi]
        by_cases q : pos + (Utf8.decode s pos).2 ≤ i
        · rw [if_pos q, if_pos (by omega)]
        · rw [if_neg q]
          by_cases q2 : pos ≤ i
          · rw [if_pos q2, hx i q2 hi]
            have gb := get_bt s pos hp
            have b : 128 ≤ bt s i := by
              by_cases q3 : pos = i
              · subst q3; omega
              · have := decode_skip s pos (i - pos) (by omega) (by omega)
                rwa [show pos + (i - pos) = i by omega] at this
            unfold upb
            rw [if_neg (by omega)]
          · rw [if_neg q2]
    · rw [if_neg hp, if_neg (by omega)]
theorem go_length : ∀ (n : Nat) (s : ByteArray) (p : Nat) (xs : List Int), (value_Fold.go n s p xs).length = xs.length
  | 0, _, _, _ => rfl
  | n + 1, s, p, xs => by
    simp only [value_Fold.go]
    split
    · rw [go_length]
      split
      · rw [List.length_set]
      · rfl
    · rfl
theorem go_map (s : ByteArray) : value_Fold.go s.size s 0 (value_Fold.nums s) = (value_Fold.nums s).map upb := by
  apply List.ext_getElem?
  intro i
  have hl : (value_Fold.go s.size s 0 (value_Fold.nums s)).length = s.size := by rw [go_length, nums_len]
  by_cases h : i < s.size
  · have g := go_spec s.size s 0 (value_Fold.nums s) (by omega) (nums_len s) (fun j _ hj => nums_getD s j hj) i h
    rw [if_pos (Nat.zero_le _)] at g
    have m := nums_getD s i h
    rw [List.getD_eq_getElem?_getD, List.getElem?_eq_getElem (by omega)] at g
    rw [List.getD_eq_getElem?_getD, List.getElem?_eq_getElem (by rw [nums_len]; exact h)] at m
    rw [List.getElem?_eq_getElem (by omega), List.getElem?_map, List.getElem?_eq_getElem (by rw [nums_len]; exact h)]
    simp only [Option.getD_some] at g m
    simp only [Option.map_some]
    rw [g, m]
  · rw [List.getElem?_eq_none (by omega), List.getElem?_eq_none (by rw [List.length_map, nums_len]; omega)]
/-- Fold, byte by byte. -/
theorem fold_is (s : ByteArray) : value_Fold.s s = strOfNums ((value_Fold.nums s).map upb) := by unfold value_Fold.s; rw [go_map]
theorem nums_rng {s : ByteArray} {x : Int} (h : x ∈ value_Fold.nums s) : 0 ≤ x ∧ x < 256 := by
  unfold value_Fold.nums at h
  obtain ⟨b, _, rfl⟩ := List.mem_map.1 h
  have := b.toNat_lt
  omega
theorem upb_rng {x : Int} (h : 0 ≤ x ∧ x < 256) : 0 ≤ upb x ∧ upb x < 256 := by unfold upb; split <;> omega
theorem upb_upb (x : Int) : upb (upb x) = upb x := by unfold upb; repeat' split <;> omega
theorem nums_str {l : List Int} (h : ∀ x ∈ l, 0 ≤ x ∧ x < 256) : value_Fold.nums (strOfNums l) = l := by
  unfold value_Fold.nums strOfNums
  simp only [List.map_map]
  conv => rhs; rw [← List.map_id l]
  apply List.map_congr_left
  intro x hx
  have := h x hx
  simp only [Function.comp, id]
  have e : (UInt8.ofNat x.toNat).toNat = x.toNat % 256 := by simp
  rw [e]
  omega
theorem fold_nums (s : ByteArray) : value_Fold.nums (value_Fold.s s) = (value_Fold.nums s).map upb := by
  rw [fold_is]
  exact nums_str (fun x hx => by
    obtain ⟨y, hy, rfl⟩ := List.mem_map.1 hx
    exact upb_rng (nums_rng hy))
/-- Twice as once. -/
theorem fold_fold (s : ByteArray) : value_Fold.s (value_Fold.s s) = value_Fold.s s := by
  rw [fold_is (value_Fold.s s), fold_nums, List.map_map, fold_is s]
  congr 1
  apply List.map_congr_left
  intro x _
  exact upb_upb x
end Go.Proofs.Ytlglopainaploaa.Tal
