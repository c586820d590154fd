/-
  No cell of these rows narrows 'for every input' (looked for: loops, veiled, ifaces, maps, wideKeys, modest, calm, conditions, laid).
  DERIVED. THE GIVEN ROWS OF THIS SEAT. 6 by the template 'for every input the law returns true; each argument reads behind the call as it read before'; 0 by the template 'total and deterministic' (their statements: YtagohdalabhheaaTotals.lean).
  GIVEN WITH THE SEED: the statements are not yours to turn. If you find one false, say at which input.
  Laid BY PROGRAM, IN A SANDBOX (cutbox-rows.mjs): the forced cells as the released guide's own fill.sh prints them over the translation 94d388174509fca3… (all of the seat's roots in one cut). By AI agents, Wed Nov 11 2026. No macro, syntax, notation, axiom, sorry.
-/
import Derived.Test.YtagohdalabhheaaChecked
import GoSem.Claim
import GoSem.ClaimJoined
import GoSem.ClaimMapViews
import Derived.JoinedTies
import Derived.KernelRfl
namespace Go.Proofs.Ytagohdalabhheaa
/- THE CELL 'sum', in the pinned program and in every row, IS THE sha256 OF THE DUMP (.gsa) THAT YtagohdalabhheaaProg.lean LOADS. Nothing in Lean hashes anything: it is a label: what it is worth is what the hold of that sum in a sandbox is worth. -/
noncomputable def Try.pinned : Pinned := { name := "ytagohdalabhheaa", sum := "94d388174509fca36dfac3527d35b745f761f705937cb572b114a74a4c88a653", checked := Try.checked }
namespace Rows
def none {H : Type} : Left H := { results := [], args := [] }

/-- 'foolscaplaw16.StatsPlaces': WHATEVER THE INPUT: true; the input reads as it did. -/
def statsPlacesSpec : ChangeSpec := { name := "statsPlaces", fn := fun _ => fun
  | [d1, d2, d3, d4] => { results := [.lit (.bool true)], args := [d1, d2, d3, d4] }
  | _ => none }
def statsPlacesRow : OpenClaim := { program := "ytagohdalabhheaa", sum := "94d388174509fca36dfac3527d35b745f761f705937cb572b114a74a4c88a653", func := "foolscap/foolscaplaw16.StatsPlaces", spec := "statsPlaces", inPlace := ["math/bits.Sub64", "math/bits.Add64"], unfollowed := true, recurses := true, named := ["math/bits.divideError", "math/bits.overflowError"], apart := false }
def StatsPlacesSaid : Prop := statsPlacesRow.holds Try.pinned (OpenSpec.ofChange statsPlacesSpec)

/-- ITS FALSE NEIGHBOUR: 'it returns false'. Refute it at one input. -/
def statsPlacesWrong : ChangeSpec := { name := "statsPlaces", fn := fun _ => fun
  | [d1, d2, d3, d4] => { results := [.lit (.bool false)], args := [d1, d2, d3, d4] }
  | _ => none }
def StatsPlacesWrongFalsely : Prop := statsPlacesRow.holds Try.pinned (OpenSpec.ofChange statsPlacesWrong)

/-- 'foolscaplaw16.StatsOrder': WHATEVER THE INPUT: true; the input reads as it did. -/
def statsOrderSpec : ChangeSpec := { name := "statsOrder", fn := fun _ => fun
  | [d1, d2, d3, d4] => { results := [.lit (.bool true)], args := [d1, d2, d3, d4] }
  | _ => none }
def statsOrderRow : OpenClaim := { program := "ytagohdalabhheaa", sum := "94d388174509fca36dfac3527d35b745f761f705937cb572b114a74a4c88a653", func := "foolscap/foolscaplaw16.StatsOrder", spec := "statsOrder", inPlace := ["math/bits.Sub64", "math/bits.Add64"], unfollowed := true, recurses := true, named := ["math/bits.divideError", "math/bits.overflowError"], apart := false }
def StatsOrderSaid : Prop := statsOrderRow.holds Try.pinned (OpenSpec.ofChange statsOrderSpec)

/-- ITS FALSE NEIGHBOUR: 'it returns false'. Refute it at one input. -/
def statsOrderWrong : ChangeSpec := { name := "statsOrder", fn := fun _ => fun
  | [d1, d2, d3, d4] => { results := [.lit (.bool false)], args := [d1, d2, d3, d4] }
  | _ => none }
def StatsOrderWrongFalsely : Prop := statsOrderRow.holds Try.pinned (OpenSpec.ofChange statsOrderWrong)

/-- 'foolscaplaw16.StatsGrows': WHATEVER THE INPUT: true; the input reads as it did. -/
def statsGrowsSpec : ChangeSpec := { name := "statsGrows", fn := fun _ => fun
  | [d1, d2] => { results := [.lit (.bool true)], args := [d1, d2] }
  | _ => none }
def statsGrowsRow : OpenClaim := { program := "ytagohdalabhheaa", sum := "94d388174509fca36dfac3527d35b745f761f705937cb572b114a74a4c88a653", func := "foolscap/foolscaplaw16.StatsGrows", spec := "statsGrows", inPlace := ["math/bits.Sub64", "math/bits.Add64"], unfollowed := true, recurses := true, named := ["math/bits.divideError", "math/bits.overflowError"], apart := false }
def StatsGrowsSaid : Prop := statsGrowsRow.holds Try.pinned (OpenSpec.ofChange statsGrowsSpec)

/-- ITS FALSE NEIGHBOUR: 'it returns false'. Refute it at one input. -/
def statsGrowsWrong : ChangeSpec := { name := "statsGrows", fn := fun _ => fun
  | [d1, d2] => { results := [.lit (.bool false)], args := [d1, d2] }
  | _ => none }
def StatsGrowsWrongFalsely : Prop := statsGrowsRow.holds Try.pinned (OpenSpec.ofChange statsGrowsWrong)

/-- 'foolscaplaw16.StatsMidst': WHATEVER THE INPUT: true; the input reads as it did. -/
def statsMidstSpec : ChangeSpec := { name := "statsMidst", fn := fun _ => fun
  | [d] => { results := [.lit (.bool true)], args := [d] }
  | _ => none }
def statsMidstRow : OpenClaim := { program := "ytagohdalabhheaa", sum := "94d388174509fca36dfac3527d35b745f761f705937cb572b114a74a4c88a653", func := "foolscap/foolscaplaw16.StatsMidst", spec := "statsMidst", inPlace := ["math/bits.Sub64", "math/bits.Add64"], unfollowed := true, recurses := true, named := ["math/bits.divideError", "math/bits.overflowError"], apart := false }
def StatsMidstSaid : Prop := statsMidstRow.holds Try.pinned (OpenSpec.ofChange statsMidstSpec)

/-- ITS FALSE NEIGHBOUR: 'it returns false'. Refute it at one input. -/
def statsMidstWrong : ChangeSpec := { name := "statsMidst", fn := fun _ => fun
  | [d] => { results := [.lit (.bool false)], args := [d] }
  | _ => none }
def StatsMidstWrongFalsely : Prop := statsMidstRow.holds Try.pinned (OpenSpec.ofChange statsMidstWrong)

/-- 'foolscaplaw16.StatsEnds': WHATEVER THE INPUT: true; the input reads as it did. -/
def statsEndsSpec : ChangeSpec := { name := "statsEnds", fn := fun _ => fun
  | [d1, d2] => { results := [.lit (.bool true)], args := [d1, d2] }
  | _ => none }
def statsEndsRow : OpenClaim := { program := "ytagohdalabhheaa", sum := "94d388174509fca36dfac3527d35b745f761f705937cb572b114a74a4c88a653", func := "foolscap/foolscaplaw16.StatsEnds", spec := "statsEnds", inPlace := ["math/bits.Sub64", "math/bits.Add64"], unfollowed := true, recurses := true, named := ["math/bits.divideError", "math/bits.overflowError"], apart := false }
def StatsEndsSaid : Prop := statsEndsRow.holds Try.pinned (OpenSpec.ofChange statsEndsSpec)

/-- ITS FALSE NEIGHBOUR: 'it returns false'. Refute it at one input. -/
def statsEndsWrong : ChangeSpec := { name := "statsEnds", fn := fun _ => fun
  | [d1, d2] => { results := [.lit (.bool false)], args := [d1, d2] }
  | _ => none }
def StatsEndsWrongFalsely : Prop := statsEndsRow.holds Try.pinned (OpenSpec.ofChange statsEndsWrong)

/-- 'foolscaplaw16.StatsBetween': WHATEVER THE INPUT: true; the input reads as it did. -/
def statsBetweenSpec : ChangeSpec := { name := "statsBetween", fn := fun _ => fun
  | [d] => { results := [.lit (.bool true)], args := [d] }
  | _ => none }
def statsBetweenRow : OpenClaim := { program := "ytagohdalabhheaa", sum := "94d388174509fca36dfac3527d35b745f761f705937cb572b114a74a4c88a653", func := "foolscap/foolscaplaw16.StatsBetween", spec := "statsBetween", inPlace := ["math/bits.Sub64", "math/bits.Add64"], unfollowed := true, recurses := true, named := ["math/bits.divideError", "math/bits.overflowError"], apart := false }
def StatsBetweenSaid : Prop := statsBetweenRow.holds Try.pinned (OpenSpec.ofChange statsBetweenSpec)

/-- ITS FALSE NEIGHBOUR: 'it returns false'. Refute it at one input. -/
def statsBetweenWrong : ChangeSpec := { name := "statsBetween", fn := fun _ => fun
  | [d] => { results := [.lit (.bool false)], args := [d] }
  | _ => none }
def StatsBetweenWrongFalsely : Prop := statsBetweenRow.holds Try.pinned (OpenSpec.ofChange statsBetweenWrong)

/- THE SECOND FORM. 'bulk': how many values and letters a reading holds, each counted each time it is reached (what is shared counts as often as it is met; a slice's spare places count too). A statement '..UptoSaid' is the law's where the arguments, and the package variables that the reading takes, are together of bulk at most 1048576: NARROWER than '..Said'. Prove '..Said' where nothing that the law and all that it calls make is longer than what came in: it says more and counts as full. Else prove '..UptoSaid'. A law counts once. -/
mutual
def uptoBulk {H : Type} : DataW H → Nat
  | .lit (.string bytes) => bytes.length + 1
  | .lit _ => 1
  | .nil => 1
  | .ptr d => uptoBulk d + 1
  | .slice elems spare => uptoBulkAll elems + uptoBulkAll spare + 1
  | .agg parts => uptoBulkAll parts + 1
  | .iface _ d => uptoBulk d + 1
  | .map entries => uptoBulkEntries entries + 1
  | .held _ => 1
def uptoBulkAll {H : Type} : List (DataW H) → Nat
  | [] => 0
  | d :: r => uptoBulk d + uptoBulkAll r
def uptoBulkEntries {H : Type} : List (Lit × DataW H) → Nat
  | [] => 0
  | x :: r => uptoBulkEntry x + uptoBulkEntries r
def uptoBulkEntry {H : Type} : Lit × DataW H → Nat
  | (.string bytes, d) => bytes.length + uptoBulk d + 1
  | (_, d) => uptoBulk d + 1
 end
def uptoSmall : (H : Type) → List (DataW H) → Bool := fun _ ds => decide (uptoBulkAll ds ≤ 1048576)
def OpenSpec.upto (s : _root_.Go.ChangeSpec) : _root_.Go.OpenSpec := { _root_.Go.OpenSpec.ofChange s with cond := some uptoSmall }

/-- 'foolscaplaw16.StatsPlaces', WHERE WHAT IT READS IS OF BULK AT MOST 1048576: true; the input reads as it did. -/
def statsPlacesUptoRow : OpenClaim := { program := "ytagohdalabhheaa", sum := "94d388174509fca36dfac3527d35b745f761f705937cb572b114a74a4c88a653", func := "foolscap/foolscaplaw16.StatsPlaces", spec := "statsPlaces", inPlace := ["math/bits.Sub64", "math/bits.Add64"], unfollowed := true, recurses := true, named := ["math/bits.divideError", "math/bits.overflowError"], apart := false, narrowed := true }
def StatsPlacesUptoSaid : Prop := statsPlacesUptoRow.holds Try.pinned (OpenSpec.upto statsPlacesSpec)

/-- 'foolscaplaw16.StatsOrder', WHERE WHAT IT READS IS OF BULK AT MOST 1048576: true; the input reads as it did. -/
def statsOrderUptoRow : OpenClaim := { program := "ytagohdalabhheaa", sum := "94d388174509fca36dfac3527d35b745f761f705937cb572b114a74a4c88a653", func := "foolscap/foolscaplaw16.StatsOrder", spec := "statsOrder", inPlace := ["math/bits.Sub64", "math/bits.Add64"], unfollowed := true, recurses := true, named := ["math/bits.divideError", "math/bits.overflowError"], apart := false, narrowed := true }
def StatsOrderUptoSaid : Prop := statsOrderUptoRow.holds Try.pinned (OpenSpec.upto statsOrderSpec)

/-- 'foolscaplaw16.StatsGrows', WHERE WHAT IT READS IS OF BULK AT MOST 1048576: true; the input reads as it did. -/
def statsGrowsUptoRow : OpenClaim := { program := "ytagohdalabhheaa", sum := "94d388174509fca36dfac3527d35b745f761f705937cb572b114a74a4c88a653", func := "foolscap/foolscaplaw16.StatsGrows", spec := "statsGrows", inPlace := ["math/bits.Sub64", "math/bits.Add64"], unfollowed := true, recurses := true, named := ["math/bits.divideError", "math/bits.overflowError"], apart := false, narrowed := true }
def StatsGrowsUptoSaid : Prop := statsGrowsUptoRow.holds Try.pinned (OpenSpec.upto statsGrowsSpec)

/-- 'foolscaplaw16.StatsMidst', WHERE WHAT IT READS IS OF BULK AT MOST 1048576: true; the input reads as it did. -/
def statsMidstUptoRow : OpenClaim := { program := "ytagohdalabhheaa", sum := "94d388174509fca36dfac3527d35b745f761f705937cb572b114a74a4c88a653", func := "foolscap/foolscaplaw16.StatsMidst", spec := "statsMidst", inPlace := ["math/bits.Sub64", "math/bits.Add64"], unfollowed := true, recurses := true, named := ["math/bits.divideError", "math/bits.overflowError"], apart := false, narrowed := true }
def StatsMidstUptoSaid : Prop := statsMidstUptoRow.holds Try.pinned (OpenSpec.upto statsMidstSpec)

/-- 'foolscaplaw16.StatsEnds', WHERE WHAT IT READS IS OF BULK AT MOST 1048576: true; the input reads as it did. -/
def statsEndsUptoRow : OpenClaim := { program := "ytagohdalabhheaa", sum := "94d388174509fca36dfac3527d35b745f761f705937cb572b114a74a4c88a653", func := "foolscap/foolscaplaw16.StatsEnds", spec := "statsEnds", inPlace := ["math/bits.Sub64", "math/bits.Add64"], unfollowed := true, recurses := true, named := ["math/bits.divideError", "math/bits.overflowError"], apart := false, narrowed := true }
def StatsEndsUptoSaid : Prop := statsEndsUptoRow.holds Try.pinned (OpenSpec.upto statsEndsSpec)

/-- 'foolscaplaw16.StatsBetween', WHERE WHAT IT READS IS OF BULK AT MOST 1048576: true; the input reads as it did. -/
def statsBetweenUptoRow : OpenClaim := { program := "ytagohdalabhheaa", sum := "94d388174509fca36dfac3527d35b745f761f705937cb572b114a74a4c88a653", func := "foolscap/foolscaplaw16.StatsBetween", spec := "statsBetween", inPlace := ["math/bits.Sub64", "math/bits.Add64"], unfollowed := true, recurses := true, named := ["math/bits.divideError", "math/bits.overflowError"], apart := false, narrowed := true }
def StatsBetweenUptoSaid : Prop := statsBetweenUptoRow.holds Try.pinned (OpenSpec.upto statsBetweenSpec)

end Rows
end Go.Proofs.Ytagohdalabhheaa
