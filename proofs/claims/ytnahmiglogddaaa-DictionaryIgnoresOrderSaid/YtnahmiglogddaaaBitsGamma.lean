/-
  bits.GammaSize and bits.AppendGamma.
-/
import Derived.Test.YtnahmiglogddaaaRows
import Derived.Test.YtnahmiglogddaaaBitsBox
import Derived.WalkKit
import Derived.WalkSpells
import Derived.WalkLawsBesides
import Derived.Lib.Hide
import Derived.BigQuiet
import Derived.Test.YtnahmiglogddaaaShelf
import Derived.Lib.ItoaNum
import Derived.Deep.QuietTactic
import Derived.BigQuiet
namespace Go.Proofs.Ytnahmiglogddaaa
open Go.RowKit
attribute [local go_sem ↓] Go.wp_at_zero Go.wp_at_succ
set_option linter.unusedVariables false
set_option linter.unusedSimpArgs false
namespace PB
theorem belowN {B : Nat} {a w : World} (h : Below B a w) (n : Nat) : Below B a (w.drewN n) := ⟨h.os, h.tape, h.output, h.size, h.block⟩
/-- The number of bits of the gamma code of a number from 1 on. -/
def gsz (n : Nat) : Nat := 2 * Lib.bitLen n - 1
theorem bitLen_bounds (n : Nat) (h1 : 1 ≤ n) (h2 : n < 2 ^ 64) : 1 ≤ Lib.bitLen n ∧ 2 ^ (Lib.bitLen n - 1) ≤ n ∧ n < 2 ^ Lib.bitLen n := Lib.bitLenAux_bounds 64 n h2 (by omega)
theorem bitLen_le64 (n : Nat) (h2 : n < 2 ^ 63) : Lib.bitLen n ≤ 63 := Lib.bitLen_le n 63 (by decide) h2
set_option maxHeartbeats 400000 in
theorem gsize_pos (x : Nat) (w : World) (h1 : 1 ≤ x) (h2 : x < 9223372036854775808) :
    Calls Try.prog 39 #[.int .i64 x] w fun e w' => e = .returned (.int .i64 (gsz x : Nat)) ∧ w' = w := by
  have hb := bitLen_le64 x (by omega)
  have hb1 := (bitLen_bounds x h1 (by omega)).1
  have hg : gsz x = 2 * Lib.bitLen x - 1 := rfl
  have HG := Lib.hid hg
  clear hg
  go_enter Try.func39, Try.ntmps39
  go_wp2_with (go_at_call 47; refine (Try.bits_Len _ _ (by omega) (by omega)).mono ?_; rintro e w' ⟨rfl, rfl⟩; rw [Int.toNat_natCast])
  go_ret
  exact ⟨ret_int (by rw [HG.out]; omega), rfl⟩
set_option maxHeartbeats 400000 in
theorem gsize_zero (x : Int) (w : World) (h1 : x < 1) :
    Calls Try.prog 39 #[.int .i64 x] w fun e w' => e = .returned (.int .i64 0) ∧ w' = w := by
  go_enter Try.func39, Try.ntmps39
  go_wp2
  go_ret
  exact ⟨rfl, rfl⟩
end PB
end Go.Proofs.Ytnahmiglogddaaa
