/-
  bits.Join joins bit strings, or tells why it cannot.
-/
import Derived.Test.YtnahmiglogddaaaRows
import Derived.Test.YtnahmiglogddaaaBitsRef5
import Derived.Test.YtnahmiglogddaaaBitsMake
namespace Go.Proofs.Ytnahmiglogddaaa
open Go.RowKit
attribute [local go_sem ↓] Go.wp_at_zero Go.wp_at_succ
set_option linter.unusedVariables false
set_option linter.unusedSimpArgs false
namespace PB
/-- The ways of bits.Join that end in a fault, and the joined bits. -/
def JRes (xs : List BItem) (code idx : Int) : List Nat := if code = 0 then joined xs else []
end PB
end Go.Proofs.Ytnahmiglogddaaa
