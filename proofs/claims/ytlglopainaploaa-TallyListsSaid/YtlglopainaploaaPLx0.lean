-- Written by this session's own program xprint.py, over the translation. Not trusted: Lean checks it.
import Derived.Test.YtlglopainaploaaProg
import Derived.Below
import Derived.Deep.Draws
import Derived.Deep.AppendLies
import Derived.Maps.AppendAt
import Derived.OwnWalk
import Derived.Laws.BytesArg
import Derived.Laws.MakeOwn
import Derived.Laws.OwnMore
import Derived.Deep.OwnRows
import Derived.Tactics
import Derived.Lib.ConvBytes
import Derived.Laws.Slices
import Derived.WalkKit
import Derived.KernelRfl
import Derived.RowKit3
import Derived.Deep.LoopGhost
import Derived.Deep.QuietTactic
import Derived.BigQuiet
import Derived.WideLaws
import Derived.Deep.DeepCutAuto
import Derived.Deep.CutBlock
import Derived.Deep.RegionHeld3
import Derived.Laws.Rows
import Derived.Lib.AppendStr
import Derived.ArgAppend
import Derived.Laws.IdiomCopy
import Derived.OrdersHeld
import Derived.Laws.BitsLemmas
import Derived.RowKit
import Derived.Laws.BytesArg
import Derived.Laws.RangeAny
import Derived.Lib.ConvBytes
import Derived.Lib.SliceRun
import Derived.StillTailTactics
import Derived.Test.YtlglopainaploaaShelf
import Derived.Test.YtlglopainaploaaWWords
import Derived.Test.YtlglopainaploaaWLast
import Derived.Test.YtlglopainaploaaWTab
import Derived.Test.YtlglopainaploaaWFour
import Derived.Test.YtlglopainaploaaWQPut
import Derived.Test.YtlglopainaploaaWApart
import Derived.Test.YtlglopainaploaaWArr
import Derived.Test.YtlglopainaploaaWZeros
import Derived.Test.YtlglopainaploaaWFoot
import Derived.Test.YtlglopainaploaaWKept
import Derived.Test.YtlglopainaploaaWShare
import Derived.Test.YtlglopainaploaaWN
import Derived.Test.YtlglopainaploaaWFootNe
import Derived.Test.YtlglopainaploaaWAt
import Derived.Test.YtlglopainaploaaWEqStruct
import Derived.Test.YtlglopainaploaaWRepsOne
import Derived.Test.YtlglopainaploaaWInv
import Derived.Test.YtlglopainaploaaWInvWords
import Derived.Test.YtlglopainaploaaWGuard
import Derived.Test.YtlglopainaploaaWNEv
import Derived.Test.YtlglopainaploaaWMore
namespace Go.Proofs.Ytlglopainaploaa.PL
open Go.RowKit Go.Proofs.YtlglopainaploaaW.PrintWords Go.Proofs.YtlglopainaploaaW.PrintLast Go.Proofs.YtlglopainaploaaW.PrintMore
attribute [local go_sem] max2_int min2_int max_two min_two max_three min_three max_four min_four   -- for this text's walks alone
set_option linter.unusedVariables false
set_option linter.unusedSimpArgs false



def errW : Option Int → Value
  | none => .nilIface
  | some c => .iface 0 (.int .i64 c)
theorem errW_none : errW none = .nilIface := rfl
theorem errW_some (c : Int) : errW (some c) = .iface 0 (.int .i64 c) := rfl

theorem info3 : (Try.prog.info? 3).map (fun i => (i.zero, i.size, i.bytes)) = some (some (.int .i64 0), 1, 8) := by kernel_rfl
-- the values' own types

/-- Whether a cell is there does not hang on a store (the walk's: a chain of stores is then looked through at any depth). -/
@[go_sem] theorem xcell_isSome (w : World) (a b : Addr) (v : Value) : ((w.setCell b v).cell? a).isSome = (w.cell? a).isSome := by
  simp only [World.setCell, World.cell?, Array.getElem?_modify]
  by_cases hb : b.block = a.block
  · simp only [hb, if_true]
    cases hh : w.heap[a.block]? with
    | none => simp
    | some x =>
      cases x <;> simp only [Option.map_some] 
      rename_i c e f
      by_cases hs : a.spot.isSome = true
      · simp [hs]
      · by_cases hs2 : b.spot.isSome = true
        · simp [hs2]
        · simp only [hs, hs2, Bool.false_eq_true, if_false]
          by_cases ho : a.off < c.size
          · rw [Array.getElem?_eq_getElem ho, Array.getElem?_eq_getElem (by simpa using ho)]; rfl
          · have h1 : (c.setIfInBounds b.off v)[a.off]? = none := Array.getElem?_eq_none (by rw [Array.size_setIfInBounds]; omega)
            have h2 : c[a.off]? = none := Array.getElem?_eq_none (by omega)
            rw [h1, h2]
  · simp [hb]

end Go.Proofs.Ytlglopainaploaa.PL
