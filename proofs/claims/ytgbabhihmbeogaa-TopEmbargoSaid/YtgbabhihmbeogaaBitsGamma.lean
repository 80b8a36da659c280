/-
  bits.GammaSize and bits.AppendGamma.
-/
import Derived.Test.YtgbabhihmbeogaaRows
import Derived.Test.YtgbabhihmbeogaaBitsBox
import Derived.WalkKit
import Derived.WalkSpells
import Derived.WalkLawsBesides
import Derived.Lib.Hide
import Derived.BigQuiet
import Derived.Test.YtgbabhihmbeogaaShelf
import Derived.Lib.ItoaNum
import Derived.Deep.QuietTactic
import Derived.BigQuiet
namespace Go.Proofs.Ytgbabhihmbeogaa
open Go.RowKit
attribute [local go_sem ↓] Go.wp_at_zero Go.wp_at_succ
set_option linter.unusedVariables false
set_option linter.unusedSimpArgs false
namespace PB
theorem belowN {B : Nat} {a w : World} (h : Below B a w) (n : Nat) : Below B a (w.drewN n) := ⟨h.os, h.tape, h.output, h.size, h.block⟩
/-- The number of bits of the gamma code of a number from 1 on. -/
def gsz (n : Nat) : Nat := 2 * Lib.bitLen n - 1
theorem bitLen_bounds (n : Nat) (h1 : 1 ≤ n) (h2 : n < 2 ^ 64) : 1 ≤ Lib.bitLen n ∧ 2 ^ (Lib.bitLen n - 1) ≤ n ∧ n < 2 ^ Lib.bitLen n := Lib.bitLenAux_bounds 64 n h2 (by omega)
theorem bitLen_le64 (n : Nat) (h2 : n < 2 ^ 63) : Lib.bitLen n ≤ 63 := Lib.bitLen_le n 63 (by decide) h2
end PB
end Go.Proofs.Ytgbabhihmbeogaa
