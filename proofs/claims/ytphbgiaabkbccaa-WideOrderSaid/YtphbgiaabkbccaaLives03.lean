/- The document's examples of chapter 3. -/
import Derived.Test.YtphbgiaabkbccaaPAllx4
import Derived.Test.YtphbgiaabkbccaaWideV
set_option linter.unusedVariables false
set_option linter.unusedSimpArgs false
namespace Go.Proofs.Ytphbgiaabkbccaa.Pure
open Go.RowKit Go.Proofs.Ytphbgiaabkbccaa.PAll Go.Proofs.YtphbgiaabkbccaaW.PrintWords Go.Proofs.YtphbgiaabkbccaaW.PrintLast Go.Proofs.YtphbgiaabkbccaaW.PrintMore

theorem lives : Ev (fun k => foolscaplaw03_lives.f k) true := by
  have hm := mean_of 0 5 2
  rw [show (if WV 0 5 ∧ (1 : Int) ≤ 2 ∧ (2 : Int) ≤ 2147483648 then meanOf 0 5 2 else (0, 2)) = (2, 0) by decide +kernel] at hm
  refine Ev.congr (fun k => ?_) (Ev.bind (f := fun _ bt => if bt.1 = 2 then (if bt.2 = 0 then some true else some false) else some false) hm (Ev.congr (f := fun _ => some true) (fun k => by rw [if_pos rfl, if_pos rfl]) (Ev.now _)))
  unfold foolscaplaw03_lives.f
  rw [show wide_Add.f 0 0 1000000000000000000 = some (1, 0, 0) by decide +kernel, show wide_Sub.f 0 0 1 = some (-1, 999999999999999999, 0) by decide +kernel]
  simp only [Option.bind_some]
  rw [show wide_Total.f (-1) 999999999999999999 = some (-1, 0) by decide +kernel, show wide_Total.f 1 1 = some (0, 3) by decide +kernel]
  simp only [Option.bind_some]
  rfl
/-- A law that ends with the examples. -/
theorem ends : Ev (fun k => (foolscaplaw03_lives.f k).bind fun t => some t) true := Ev.bind lives (Ev.now _)
end Go.Proofs.Ytphbgiaabkbccaa.Pure
