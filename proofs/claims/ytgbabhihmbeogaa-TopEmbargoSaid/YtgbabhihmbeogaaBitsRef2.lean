/-
  The reference's functions on bits: BitsOk, Packed.
-/
import Derived.Test.YtgbabhihmbeogaaRows
import Derived.Test.YtgbabhihmbeogaaBitsRef
namespace Go.Proofs.Ytgbabhihmbeogaa
open Go.RowKit
set_option linter.unusedVariables false
set_option linter.unusedSimpArgs false
namespace PB
/-- The number of the first r bits of byte j, from the left. -/
def pacc (l : List Nat) (j : Nat) : Nat → Nat
  | 0 => 0
  | r + 1 => 2 * pacc l j r + l.getD (8 * j + r) 0
theorem pacc_lt {l : List Nat} (h : Is01 l) (j : Nat) : ∀ r, pacc l j r < 2 ^ r
  | 0 => by simp [pacc]
  | r + 1 => by
    have := pacc_lt h j r
    have := h (8 * j + r)
    simp only [pacc, Nat.pow_succ]; omega
theorem pacc_byte (l : List Nat) (j : Nat) : pacc l j 8 = pbyte l j := by
  simp only [pacc, pbyte, Nat.add_zero]; omega
end PB
end Go.Proofs.Ytgbabhihmbeogaa
