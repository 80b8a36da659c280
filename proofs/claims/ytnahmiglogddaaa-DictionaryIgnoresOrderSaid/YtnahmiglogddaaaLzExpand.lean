/-
  lz.Expand: the bytes for which tokens stand.
-/
import Derived.Test.YtnahmiglogddaaaLzCost
import Derived.Test.YtnahmiglogddaaaSlices
namespace Go.Proofs.Ytnahmiglogddaaa
open Go.RowKit
attribute [local go_sem ↓] Go.wp_at_zero Go.wp_at_succ
set_option linter.unusedVariables false
set_option linter.unusedSimpArgs false
namespace PB
/-- What lz.Expand hands back. -/
def ExpOut (n2 : Nat) (R : Int × Int × List Nat) (w : World) (e : Ending) (w' : World) : Prop :=
  ∃ A' m c', e = .returned (.tuple #[.slice A' m c', .agg #[.int .i64 R.1, .int .i64 R.2.1]]) ∧ Rd w' A' m c' (bcells (if R.1 = 0 then R.2.2.drop n2 else [])) ∧ Below w.heap.size w w'
end PB
end Go.Proofs.Ytnahmiglogddaaa
