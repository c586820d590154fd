/- A value less, whatever kind; what is refused; values that are alike: over lists of values. -/
import Derived.Test.YtlglopainaploaaTalHh
import Derived.Test.YtlglopainaploaaTalFold
namespace Go.Proofs.Ytlglopainaploaa.Tal
open Go.RowKit Go.Proofs.YtlglopainaploaaW.PrintWords Go.Proofs.YtlglopainaploaaW.PrintLast Go.Proofs.YtlglopainaploaaW.PrintMore
open Go.Proofs.Ytlglopainaploaa.PL Go.Proofs.Ytlglopainaploaa.Pure
set_option linter.unusedVariables false
set_option linter.unusedSimpArgs false

theorem held_held (x : Va) : Va.held (Va.held x) = Va.held x := by unfold Va.held; simp only [Va.k, Va.n, Va.s, Va.b, Va.c, fold_fold]
theorem ok_text {s : ByteArray} (h : (s.size : Int) ≤ 255) : Va.ok (vText s) := by
  have a : decide ((s.size : Int) ≤ 255) = true := decide_eq_true h
  unfold Va.ok Va.chk
  simp [value_Check.f, value_Check.fit, value_Check.bare, Va.k, Va.n, Va.s, Va.b, Va.c, vText]
  omega
theorem ok_held {x : Va} (h : x.ok) : x.held.ok := by
  rcases Va.ok_cases h with rfl | ⟨n, hn, rfl⟩ | ⟨s, hs, rfl⟩ | ⟨b, rfl⟩ | ⟨c, c1, c8, rfl⟩
  · rw [held_blank]; exact h
  · rw [held_num]; exact h
  · rw [held_text]; exact ok_text (by rw [fold_size]; exact hs)
  · rw [held_bool]; exact h
  · rw [held_fault]; exact h
theorem Va.bad {x : Va} (h : ¬ x.ok) : x.chk = some 2 := (Va.chk_cases x).resolve_left h
/-- A text less. -/
theorem tx_drop {s : TS} {w : World} {t : Nat} (h : TRep w t s) {C : Va → Int} (tx : ∀ f, s.D.atKey (keyS f) (.lit (.int .i64 0)) = .lit (.int .i64 (C (vText f)))) (g : ByteArray) {D' : DataW Unit}
    (hD : D' = s.D.put (keyS g) (.lit (.int .i64 (C (vText g) + -1))) ∨ (C (vText g) + -1 = 0 ∧ D' = (s.D.put (keyS g) (.lit (.int .i64 (C (vText g) + -1)))).del (keyS g))) (f : ByteArray) :
    D'.atKey (keyS f) (.lit (.int .i64 0)) = .lit (.int .i64 (C (vText f) + if (vText g) = vText f then -1 else 0)) := by
  rcases hD with rfl | ⟨hz, rfl⟩
  · exact tx_put h tx g (-1) f
  · by_cases c : g = f
    · subst c
      rw [if_pos rfl, Go.Maps.atKey_del_same, hz]
    · rw [Go.Maps.atKey_del_other (fun e => c (keyS_inj e).symm)]
      exact tx_put h tx g (-1) f
/-- A value less. -/
theorem drop_ok {w : World} {t N : Nat} {s : TS} {L M : List Va} {x : Va} (h : TRep w t s) (okL : TOk s N L) (hx : x.ok) (p : L.Perm (x.held :: M)) (hN : N < 1000000) :
    Calls Try.prog 15 #[.pointer (some ⟨t, 0, none⟩), x.v] w fun e w' => e = .returned (.int .i64 0) ∧ ∃ s', TW w t s w' s' ∧ TOk s' (N + 1) M := by
  by_cases h2 : x.k ≠ 2
  · refine (drop_plain h okL hx h2 p).mono ?_
    rintro e w' ⟨he, s', tw, ok⟩
    exact ⟨he, s', tw, ok.mono (Nat.le_succ N)⟩
  · rcases Va.ok_cases hx with rfl | ⟨n, hn, rfl⟩ | ⟨str, hs, rfl⟩ | ⟨b, rfl⟩ | ⟨c, c1, c8, rfl⟩
    · exact absurd (by decide) h2
    · exact absurd (show (1 : Int) ≠ 2 by decide) h2
    · have ok := okL.perm p
      have f0 := ok.facts
      have ho := fun w1 (h1 : TRep w1 t s) => often_ok h1 ok hx
      have hq : cnt (Va.held (vText str) :: M) (Va.held (vText str)) ≠ 0 := by have := cnt_bd M (Va.held (vText str)); rw [cnt_self]; omega
      have len := ok.len
      have ea1 : wrap64 (s.all - 1) = s.all + -1 := by rw [f0.all]; exact sub_is (by omega) (by omega)
      have kb : wrap64 (s.ks 2 - 1) = s.ks 2 + -1 := by
        have := kn_bd (Va.held (vText str) :: M) 2
        have e : s.ks 2 = kn (Va.held (vText str) :: M) 2 := f0.ks 2 (by decide)
        rw [e]
        exact sub_is (by omega) (by omega)
      have cb : wrap64 (cnt (Va.held (vText str) :: M) (vText (value_Fold.s str)) - 1) = cnt (Va.held (vText str) :: M) (vText (value_Fold.s str)) + -1 := by
        have := cnt_bd (Va.held (vText str) :: M) (vText (value_Fold.s str))
        exact sub_is (by omega) (by omega)
      refine (drop_text h hx (keyOf_fold hs) (by have := okL.n; unfold maxLen; omega) (f0.tx _) hq ho).mono ?_
      rintro e w' ⟨rfl, D', tw, hD⟩
      rw [cb] at hD
      refine ⟨rfl, _, tw, ⟨ok.nums.same rfl rfl rfl rfl, ?_, fun y hy => ok.right y (List.mem_cons_of_mem _ hy), Nat.succ_le_succ okL.n, by simp only [List.length_cons] at len; omega⟩⟩
      refine Facts.back (a := Va.held (vText str)) ?_
      rw [held_text] at f0 hD ⊢
      refine f0.step ea1 (fun k hk => ks_is (i := 2) (by show up s.ks 2 _ = _; rw [kb]) _ rfl k) (add_zero_of (if_ne (k_ne (by simp)))) (add_zero_of (if_ne (k_ne (by simp)))) (fun c hc => add_zero_of (if_ne (k_ne (by simp)))) (fun f => ?_)
      exact tx_drop h f0.tx _ hD f
    · exact absurd (show (3 : Int) ≠ 2 by decide) h2
    · exact absurd (show (4 : Int) ≠ 2 by decide) h2
/-- What is refused. -/
theorem add_no {w : World} {t : Nat} {s : TS} {x : Va} (h : TRep w t s) (hx : ¬ x.ok) :
    Calls Try.prog 14 #[.pointer (some ⟨t, 0, none⟩), x.v] w fun e w' => e = .returned (.int .i64 2) ∧ Below w.heap.size w w' := add_bad h (Va.bad hx)
theorem often_no {w : World} {t : Nat} {s : TS} {x : Va} (h : TRep w t s) (hx : ¬ x.ok) :
    Calls Try.prog 20 #[.pointer (some ⟨t, 0, none⟩), x.v] w fun e w' => e = .returned (.int .i64 0) ∧ Below w.heap.size w w' := often_bad h (Va.bad hx)
theorem drop_no {w : World} {t : Nat} {s : TS} {x : Va} (h : TRep w t s) (hx : ¬ x.ok) :
    Calls Try.prog 15 #[.pointer (some ⟨t, 0, none⟩), x.v] w fun e w' => e = .returned (.int .i64 2) ∧ Below w.heap.size w w' := drop_bad h (Va.bad hx)
theorem drop_out {w : World} {t N : Nat} {s : TS} {L : List Va} {x : Va} (h : TRep w t s) (ok : TOk s N L) (hx : x.ok) (hm : x.held ∉ L) :
    Calls Try.prog 15 #[.pointer (some ⟨t, 0, none⟩), x.v] w fun e w' => e = .returned (.int .i64 8) ∧ Below w.heap.size w w' := by
  refine drop_none h hx (fun w1 h1 => ?_)
  have r := often_ok h1 ok hx
  have z : cnt L x.held = 0 := by
    have := cnt_bd L x.held
    by_cases q : 0 < cnt L x.held
    · exact absurd (cnt_pos.1 q) hm
    · omega
  rw [z] at r
  exact r
instance (x : Va) : Decidable x.ok := inferInstanceAs (Decidable (x.chk = some 0))
theorem check_calls {w : World} (x : Va) : Calls Try.prog 33 #[x.v] w fun e w' => e = .returned (.int .i64 (if x.ok then 0 else 2)) ∧ Below w.heap.size w w' := by
  by_cases h : x.ok
  · rw [if_pos h]; exact value_Check.calls _ _ _ _ _ _ _ h
  · rw [if_neg h]; exact value_Check.calls _ _ _ _ _ _ _ (Va.bad h)
end Go.Proofs.Ytlglopainaploaa.Tal
