/- The document's bound on how high a tree stands: foolscapref20.Tall. -/
import Derived.Test.YtlglopainaploaaTalPc
namespace Go.Proofs.Ytlglopainaploaa.Tal
open Go.RowKit Go.Proofs.YtlglopainaploaaW.PrintWords Go.Proofs.YtlglopainaploaaW.PrintLast Go.Proofs.YtlglopainaploaaW.PrintMore
set_option linter.unusedVariables false
set_option linter.unusedSimpArgs false

theorem tallN_le : ∀ n : Nat, tallN n ≤ 2 + 3 * n
  | 0 => by simp [tallN]
  | n + 1 => by
    rw [tallN]
    have := tallN_le ((n + 1) / 2)
    omega
set_option maxHeartbeats 8000000 in
set_option maxRecDepth 100000 in
theorem tall_calls (n : Nat) (w : World) (hn : n ≤ 1000000) :
    Calls Try.prog 36 #[.int .i64 (n : Int)] w fun e w' => e = .returned (.int .i64 (tallN n : Int)) ∧ Drawn0 w w' := by
  have HN := Aside0.mk hn
  clear hn
  go_enter Try.func36, Try.ntmps36
  go_wp2
  go_loopg [0, 3] (n + 1) (fun kq v0 v3 w' => ∃ (m h : Nat), v0 = .int .i64 (m : Int) ∧ v3 = .int .i64 (h : Int) ∧ Aside0 (m < kq) ∧ Aside0 (m ≤ n) ∧ Aside0 (h + tallN m = tallN n + 2) ∧ Drawn0 w w')
  case atStart => exact ⟨n, 2, rfl, rfl, ⟨Nat.lt_succ_self _⟩, ⟨Nat.le_refl _⟩, ⟨by omega⟩, by repeat (first | exact Drawn0.refl _ | apply Drawn0.step)⟩
  case round =>
    obtain ⟨m, h, rfl, rfl, HK, HM, HH, ⟨m1, rfl⟩⟩ := hrel
    cases gk with
    | zero => exact absurd HK.out (by omega)
    | succ k1 =>
      cases m with
      | zero =>
        have e : h = tallN n := by have := HH.out; simp only [tallN] at this; omega
        subst e
        have d : decide ((0 : Int) < ((0 : Nat) : Int)) = false := by decide
        go_wp2
        go_ret
        exact ⟨rfl, by repeat (first | exact Drawn0.refl _ | apply Drawn0.step)⟩
      | succ m =>
        have d : decide ((0 : Int) < ((m + 1 : Nat) : Int)) = true := decide_eq_true (by omega)
        have t1 := tallN_le n
        have e1 : wrap64 (Int.tdiv ((m + 1 : Nat) : Int) 2) = (((m + 1) / 2 : Nat) : Int) := by
          rw [Int.tdiv_eq_ediv_of_nonneg (by omega), w64 (by have := HM.out; have := HN.out; omega) (by have := HM.out; have := HN.out; omega)]
          omega
        have e2 : wrap64 ((h : Int) + 3) = ((h + 3 : Nat) : Int) := by
          rw [w64 (by omega) (by have := HH.out; have := HN.out; omega)]
          omega
        have E1 := Aside0.mk e1
        have E2 := Aside0.mk e2
        clear e1 e2 t1
        go_wp2
        go_roundg k1
        case measure => omega
        case rel => exact ⟨(m + 1) / 2, h + 3, by first | exact congrArg _ E1.out | (simp; done), by first | exact congrArg _ E2.out | (simp; done), ⟨by have := HK.out; omega⟩, ⟨by have := HM.out; omega⟩, ⟨by have := HH.out; rw [tallN] at this; omega⟩, by repeat (first | exact Drawn0.refl _ | apply Drawn0.step)⟩
end Go.Proofs.Ytlglopainaploaa.Tal
