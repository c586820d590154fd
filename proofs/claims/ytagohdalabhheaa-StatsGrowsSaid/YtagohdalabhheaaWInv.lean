-- Words of the kit's print, less what this claim doesn't name (by this session's own program trim.py).
import Derived.Test.YtagohdalabhheaaWTab
namespace Go.Proofs.YtagohdalabhheaaW.PrintLast
def up (b : Nat → Bool) (i : Nat) : Nat → Bool := fun j => if j = i then true else b j
end Go.Proofs.YtagohdalabhheaaW.PrintLast
