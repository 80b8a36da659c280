/-
  The reference's functions on bits: AppendFault and ReadFault.
-/
import Derived.Test.YtnahmiglogddaaaRows
import Derived.Test.YtnahmiglogddaaaBitsRef3
namespace Go.Proofs.Ytnahmiglogddaaa
open Go.RowKit
set_option linter.unusedVariables false
set_option linter.unusedSimpArgs false
namespace PB
theorem pow_le_int {v m : Nat} : ((v : Int) ≥ ((2 ^ m : Nat) : Int)) ↔ 2 ^ m ≤ v := by omega
end PB
end Go.Proofs.Ytnahmiglogddaaa
