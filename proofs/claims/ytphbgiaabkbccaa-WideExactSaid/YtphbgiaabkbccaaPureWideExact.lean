/- Whatever numbers are added, and taken away again, in another order: the statement over numbers. -/
import Derived.Test.YtphbgiaabkbccaaPAllx5
import Derived.Test.YtphbgiaabkbccaaLives03
set_option linter.unusedVariables false
set_option linter.unusedSimpArgs false
namespace Go.Proofs.Ytphbgiaabkbccaa.Pure
open Go.RowKit Go.Proofs.Ytphbgiaabkbccaa.PAll Go.Proofs.YtphbgiaabkbccaaW.PrintWords Go.Proofs.YtphbgiaabkbccaaW.PrintLast Go.Proofs.YtphbgiaabkbccaaW.PrintMore

/-- The sum of the first numbers; of the last ones. -/
def fore (l : List Int) (i : Nat) : Int := (l.take i).sum
def aft (l : List Int) (i : Nat) : Int := (l.drop (l.length - i)).sum
theorem fore_succ {l : List Int} {i : Nat} (h : i < l.length) : fore l (i + 1) = fore l i + rd l i := by
  unfold fore rd
  rw [List.take_succ_eq_append_getElem h, List.sum_append]
  simp [List.getD_eq_getElem?_getD, List.getElem?_eq_getElem h]
theorem aft_succ {l : List Int} {i : Nat} (h : i < l.length) : aft l (i + 1) = aft l i + rd l ((l.length : Int) - 1 - i) := by
  unfold aft rd
  have e : l.length - (i + 1) < l.length := by omega
  rw [List.drop_eq_getElem_cons e, List.sum_cons, show l.length - (i + 1) + 1 = l.length - i by omega, show ((l.length : Int) - 1 - i).toNat = l.length - (i + 1) by omega]
  rw [List.getD_eq_getElem?_getD, List.getElem?_eq_getElem e]
  simp [Int.add_comm]
theorem fore_all (l : List Int) : fore l l.length = aft l l.length := by unfold fore aft; simp

theorem exact_l1 (l : List Int) (hl : l.length ≤ 200) (hf : ∀ i : Nat, i < l.length → FitsI (rd l i)) (v : Int) (hv : inR v) (d : Nat) : ∀ i : Nat, l.length - i ≤ d → i ≤ l.length →
    inR (v + fore l l.length - fore l i) →
    Ev (fun k => foolscaplaw03_WideExact.l1 k l i (v / 1000000000000000000) (v % 1000000000000000000) ((v + fore l l.length - fore l i) / 1000000000000000000) ((v + fore l l.length - fore l i) % 1000000000000000000)) true := by
  have stop : Ev (fun k => foolscaplaw03_WideExact.l1 k l l.length (v / 1000000000000000000) (v % 1000000000000000000) ((v + fore l l.length - fore l l.length) / 1000000000000000000) ((v + fore l l.length - fore l l.length) % 1000000000000000000)) true := by
    refine Ev.step (fun k => ?_) ends
    simp only [foolscaplaw03_WideExact.l1]
    rw [if_neg (by omega), show v + fore l l.length - fore l l.length = v by omega, if_pos (by simp)]
  induction d with
  | zero => intro i hd hi _; obtain rfl : i = l.length := by omega
            exact stop
  | succ d ih =>
    intro i hd hi r
    by_cases hlt : i < l.length
    · have hF := hf i hlt
      have e : v + fore l l.length - fore l (i + 1) = v + fore l l.length - fore l i - rd l i := by rw [fore_succ hlt]; omega
      have hw : wrap64 ((i : Int) + 1) = ((i + 1 : Nat) : Int) := by rw [wr64 (by omega) (by omega)]; omega
      by_cases s : inR (v + fore l l.length - fore l i - rd l i)
      · have := ih (i + 1) (by omega) (by omega) (by rw [e]; exact s)
        rw [e] at this
        refine Ev.step (fun k => ?_) this
        simp only [foolscaplaw03_WideExact.l1]
        rw [if_pos (by omega), if_pos (by omega), sub_in r hF s]
        simp only [Option.bind_some]
        rw [if_neg (by decide), if_pos trivial, hw]
      · refine Ev.step (fun k => ?_) ends
        simp only [foolscaplaw03_WideExact.l1]
        rw [if_pos (by omega), if_pos (by omega), sub_out r hF s]
        simp only [Option.bind_some]
        rw [if_pos trivial]
    · obtain rfl : i = l.length := by omega
      exact stop

theorem exact_j2 (l : List Int) (x7 h l' : Int) (p q : Int × Int × Int) (hp : p.2.2 = 0 ∨ p = (0, 0, 3) ∨ p = (0, 0, 2)) (hq : q.2.2 = 0 ∨ q = (0, 0, 3) ∨ q = (0, 0, 2)) :
    Ev (fun k => foolscaplaw03_WideExact.j2 k l x7 p.2.2 q.2.2 true h l' p.1 p.2.1 q.1 q.2.1) true := by
  refine Ev.step (fun k => ?_) ends
  simp only [foolscaplaw03_WideExact.j2]
  rw [if_pos trivial]
  rcases hp with hp | rfl | rfl
  · rw [if_pos hp]
    rcases hq with hq | rfl | rfl
    · rw [if_pos hq]
    · rfl
    · rfl
  · rw [if_neg (by decide), if_pos (by decide)]
    rcases hq with hq | rfl | rfl
    · rw [if_pos hq]
    · rfl
    · rfl
  · rw [if_neg (by decide), if_pos (by decide)]
    rcases hq with hq | rfl | rfl
    · rw [if_pos hq]
    · rfl
    · rfl
theorem add_kinds {v n : Int} (r : inR v) : ∃ p : Int × Int × Int, wide_Add.f (v / 1000000000000000000) (v % 1000000000000000000) n = some p ∧
    ((p = ((v + n) / 1000000000000000000, (v + n) % 1000000000000000000, 0) ∧ FitsI n ∧ inR (v + n)) ∨ p = (0, 0, 3) ∨ p = (0, 0, 2)) := by
  by_cases f : FitsI n
  · by_cases s : inR (v + n)
    · exact ⟨_, add_in r f s, .inl ⟨rfl, f, s⟩⟩
    · exact ⟨_, add_out r f s, .inr (.inl rfl)⟩
  · exact ⟨_, add_bad r f, .inr (.inr rfl)⟩

theorem exact_l0 (l : List Int) (hl : l.length ≤ 200) (v : Int) (hv : inR v) (d : Nat) : ∀ i : Nat, l.length - i ≤ d → i ≤ l.length →
    inR (v + fore l i) → inR (v + aft l i) → (∀ j : Nat, j < i → FitsI (rd l j)) →
    Ev (fun k => foolscaplaw03_WideExact.l0 k l i (v / 1000000000000000000) (v % 1000000000000000000) ((v + fore l i) / 1000000000000000000) ((v + fore l i) % 1000000000000000000) ((v + aft l i) / 1000000000000000000) ((v + aft l i) % 1000000000000000000)) true := by
  have stop : inR (v + fore l l.length) → (∀ j : Nat, j < l.length → FitsI (rd l j)) →
      Ev (fun k => foolscaplaw03_WideExact.l0 k l l.length (v / 1000000000000000000) (v % 1000000000000000000) ((v + fore l l.length) / 1000000000000000000) ((v + fore l l.length) % 1000000000000000000) ((v + aft l l.length) / 1000000000000000000) ((v + aft l l.length) % 1000000000000000000)) true := by
    intro r hf
    have e0 : v + fore l l.length - fore l 0 = v + fore l l.length := by unfold fore; simp
    have := exact_l1 l hl hf v hv l.length 0 (by omega) (by omega) (by rw [e0]; exact r)
    rw [e0] at this
    refine Ev.step (fun k => ?_) this
    simp only [foolscaplaw03_WideExact.l0]
    rw [if_neg (by omega), fore_all, if_neg (by simp)]
    rfl
  induction d with
  | zero => intro i hd hi r _ hf; obtain rfl : i = l.length := by omega
            exact stop r hf
  | succ d ih =>
    intro i hd hi r1 r2 hf
    by_cases hlt : i < l.length
    · have hw : wrap64 ((i : Int) + 1) = ((i + 1 : Nat) : Int) := by rw [wr64 (by omega) (by omega)]; omega
      have hw2 : wrap64 (wrap64 ((l.length : Int) - 1) - i) = (l.length : Int) - 1 - i := by rw [wr64 (x := (l.length : Int) - 1) (by omega) (by omega), wr64 (by omega) (by omega)]
      obtain ⟨p, hp, kp⟩ := add_kinds (n := rd l i) r1
      obtain ⟨q, hq, kq⟩ := add_kinds (n := rd l ((l.length : Int) - 1 - i)) r2
      have head : ∀ k, foolscaplaw03_WideExact.l0 (k + 1) l i (v / 1000000000000000000) (v % 1000000000000000000) ((v + fore l i) / 1000000000000000000) ((v + fore l i) % 1000000000000000000) ((v + aft l i) / 1000000000000000000) ((v + aft l i) % 1000000000000000000) =
          (if p.2.2 = 0 then (foolscaplaw03_WideExact.j2 k l i p.2.2 q.2.2 (q.2.2 != 0) (v / 1000000000000000000) (v % 1000000000000000000) p.1 p.2.1 q.1 q.2.1) else (foolscaplaw03_WideExact.j2 k l i p.2.2 q.2.2 true (v / 1000000000000000000) (v % 1000000000000000000) p.1 p.2.1 q.1 q.2.1)) := by
        intro k
        simp only [foolscaplaw03_WideExact.l0]
        rw [if_pos (by omega), if_pos (by omega), hp]
        simp only [Option.bind_some]
        rw [hw2, if_pos (by omega), if_pos (by omega), hq]
        simp only [Option.bind_some]
      have hbad : Ev (fun k => foolscaplaw03_WideExact.j2 k l i p.2.2 q.2.2 true (v / 1000000000000000000) (v % 1000000000000000000) p.1 p.2.1 q.1 q.2.1) true :=
        exact_j2 l i _ _ p q (by rcases kp with ⟨rfl, _⟩ | h; exact .inl rfl; exact .inr h) (by rcases kq with ⟨rfl, _⟩ | h; exact .inl rfl; exact .inr h)
      refine Ev.step head ?_
      rcases kp with ⟨ep, fp, sp⟩ | kp
      · rcases kq with ⟨eq, fq, sq⟩ | kq
        · have e1 : v + fore l (i + 1) = v + fore l i + rd l i := by rw [fore_succ hlt]; omega
          have e2 : v + aft l (i + 1) = v + aft l i + rd l ((l.length : Int) - 1 - i) := by rw [aft_succ hlt]; omega
          have := ih (i + 1) (by omega) (by omega) (by rw [e1]; exact sp) (by rw [e2]; exact sq) (fun j hj => by
            by_cases c : j = i
            · rw [c]; exact fp
            · exact hf j (by omega))
          rw [e1, e2] at this
          subst ep; subst eq
          refine Ev.congr (f := fun k => foolscaplaw03_WideExact.j2 k l i 0 0 false (v / 1000000000000000000) (v % 1000000000000000000) _ _ _ _) (fun k => by rw [if_pos rfl]; rfl) ?_
          refine Ev.step (fun k => ?_) this
          simp only [foolscaplaw03_WideExact.j2]
          rw [if_neg (by decide), hw]
        · refine Ev.congr (fun k => ?_) hbad
          have : (q.2.2 != 0) = true := by rcases kq with rfl | rfl <;> rfl
          rw [this]; split <;> rfl
      · refine Ev.congr (fun k => ?_) hbad
        rw [if_neg (by rcases kp with rfl | rfl <;> decide)]
    · obtain rfl : i = l.length := by omega
      exact stop r1 hf

theorem WideExact : foolscaplaw03_WideExact.Pure := by
  intro h l' l _ _ _ _ _
  refine Ev.rounds (g := fun k => foolscaplaw03_WideExact.f k h l' l) ?_
  have bad : Ev (fun k => foolscaplaw03_WideExact.j0 k l true h l') true := Ev.step (fun k => by simp only [foolscaplaw03_WideExact.j0]; rw [if_pos trivial]) ends
  by_cases c : WV h l'
  · by_cases d : (l.length : Int) > 200
    · exact Ev.congr (fun k => by unfold foolscaplaw03_WideExact.f; rw [check_of, if_pos c, decide_eq_true d]; rfl) bad
    · obtain ⟨r, e1, e2⟩ := of_WV c
      have e0 : val h l' + fore l 0 = val h l' := by unfold fore; simp
      have e3 : val h l' + aft l 0 = val h l' := by unfold aft; simp
      have := exact_l0 l (by omega) (val h l') r l.length 0 (by omega) (by omega) (by rw [e0]; exact r) (by rw [e3]; exact r) (fun j hj => by omega)
      rw [e0, e3, ← e1, ← e2] at this
      refine Ev.congr (f := fun k => foolscaplaw03_WideExact.j0 k l false h l') (fun k => by unfold foolscaplaw03_WideExact.f; rw [check_of, if_pos c, decide_eq_false d]; rfl) ?_
      refine Ev.step (fun k => ?_) this
      simp only [foolscaplaw03_WideExact.j0]
      rw [if_neg (by decide)]; rfl
  · exact Ev.congr (fun k => by unfold foolscaplaw03_WideExact.f; rw [check_of, if_neg c]; rfl) bad
end Go.Proofs.Ytphbgiaabkbccaa.Pure
