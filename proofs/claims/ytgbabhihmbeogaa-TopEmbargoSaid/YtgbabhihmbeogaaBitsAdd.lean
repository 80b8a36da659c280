/-
  bits.added adds a number in a width.
-/
import Derived.Test.YtgbabhihmbeogaaRows
import Derived.Test.YtgbabhihmbeogaaBitsNum
import Derived.WalkKit
import Derived.WalkSpells
import Derived.WalkLawsBesides
import Derived.Lib.Hide
import Derived.Deep.RegionHeld3
import Derived.Deep.DrawnRows
import Derived.StillTailTactics
namespace Go.Proofs.Ytgbabhihmbeogaa
open Go.RowKit
attribute [local go_sem ↓] Go.wp_at_zero Go.wp_at_succ
set_option linter.unusedVariables false
set_option linter.unusedSimpArgs false
namespace PB
/-- The digits of a number in a width, the most significant one first. -/
def digs (v : Nat) : Nat → List Nat
  | 0 => []
  | m + 1 => digs (v / 2) m ++ [v % 2]
theorem digs_length (m : Nat) : ∀ v, (digs v m).length = m := by
  induction m with
  | zero => intro v; rfl
  | succ m ih => intro v; simp [digs, ih]
theorem digs_01 (m : Nat) : ∀ v, Is01 (digs v m) := by
  induction m with
  | zero => intro v; exact Is01.nil
  | succ m ih => intro v; exact (ih _).snoc (Nat.mod_lt _ (by decide))
theorem digs_step (v m k : Nat) (h : k < m) : digs (v / 2 ^ (m - (k + 1))) (k + 1) = digs (v / 2 ^ (m - k)) k ++ [v / 2 ^ (m - k - 1) % 2] := by
  show digs (v / 2 ^ (m - (k + 1)) / 2) k ++ [v / 2 ^ (m - (k + 1)) % 2] = _
  rw [Nat.div_div_eq_div_mul, ← Nat.pow_succ, show (m - (k + 1)).succ = m - k by omega, show m - (k + 1) = m - k - 1 by omega]
theorem shr_and_i64 (v k : Nat) (hv : v < 9223372036854775808) : bits .and .i64 ((v : Int) / 2 ^ k) 1 = ((v / 2 ^ k % 2 : Nat) : Int) := by
  have e : ((v : Int) / 2 ^ k) = ((v / 2 ^ k : Nat) : Int) := by simp
  have hx : v / 2 ^ k < 9223372036854775808 := Nat.lt_of_le_of_lt (Nat.div_le_self _ _) hv
  have := i64_and_nat (v / 2 ^ k) 1 hx (by decide)
  rw [nat_mask1] at this
  rw [e]; exact this

end PB
end Go.Proofs.Ytgbabhihmbeogaa
