/-
  The reference's functions on bits: Power, Bit, Bits, BitsOk.
-/
import Derived.Test.YtgbabhihmbeogaaRows
import Derived.Test.YtgbabhihmbeogaaBitsApi
import Derived.Deep.QuietTactic
import Derived.BigQuiet
namespace Go.Proofs.Ytgbabhihmbeogaa
open Go.RowKit
set_option linter.unusedVariables false
set_option linter.unusedSimpArgs false
namespace PB
theorem int_info : (Try.prog.info? 3).map (fun i => (i.zero, i.size, i.bytes)) = some (some (.int .i64 0), 1, 8) := by kernel_rfl
theorem ncells_append (a b : List Nat) : ncells (a ++ b) = ncells a ++ ncells b := by simp [ncells]
theorem ncells_length (l : List Nat) : (ncells l).length = l.length := by simp [ncells]
theorem ncells_get (l : List Nat) (j : Nat) (h : j < l.length) : (ncells l)[j]? = some (.int .i64 ((l.getD j 0 : Nat) : Int)) := by
  simp [ncells, List.getElem?_map, List.getElem?_eq_getElem h, List.getD_eq_getElem?_getD]
theorem pow_cast (k : Nat) : (((2 ^ k : Nat) : Int)) = (2 : Int) ^ k := by simp
end PB
end Go.Proofs.Ytgbabhihmbeogaa
