/-
  bits.put adds one bit at the end of a row that the caller owns.
-/
import Derived.Test.YtgbabhihmbeogaaRows
import Derived.Test.YtgbabhihmbeogaaBitsMem
import Derived.WalkKit
import Derived.WalkSpells
import Derived.WalkLawsBesides
import Derived.Lib.Hide
import Derived.Deep.AppendLies
import Derived.RegionTactic
import Derived.BigRegion
namespace Go.Proofs.Ytgbabhihmbeogaa
open Go.RowKit
set_option linter.unusedVariables false
set_option linter.unusedSimpArgs false
namespace PB
theorem byte_info : (Try.prog.info? 5).map (fun i => (i.zero, i.size, i.bytes)) = some (some (.int .u8 0), 1, 1) := by kernel_rfl
theorem put_value {l : List Nat} (h01 : Is01 l) (bit : Nat) (hbit : bit < 2) (h8 : l.length % 8 ≠ 0) (x : Nat) (hxe : x = (pack l).getD (l.length / 8) 0) :
    bits .or .u8 (x : Int) (wrap64 ((bit : Int) * 2 ^ (7 - l.length % 8)) % 256) = ((x + bit * 2 ^ (7 - l.length % 8) : Nat) : Int) := by
  have hx := pack_lt h01 (l.length / 8)
  have hlow := pack_low h8
  rw [← hxe] at hx hlow
  have hm : l.length % 8 < 8 := Nat.mod_lt _ (by decide)
  generalize l.length % 8 = m at *
  have hp : bit * 2 ^ (7 - m) < 2 ^ (8 - m) := by
    rw [show 8 - m = (7 - m) + 1 by omega, Nat.pow_succ]
    have : 0 < 2 ^ (7 - m) := Nat.two_pow_pos _
    rcases (by omega : bit = 0 ∨ bit = 1) with rfl | rfl <;> omega
  have hp2 : (2 : Nat) ^ (8 - m) ≤ 2 ^ 7 := Nat.pow_le_pow_right (by decide) (by omega)
  have e : ((bit : Int) * 2 ^ (7 - m)) = ((bit * 2 ^ (7 - m) : Nat) : Int) := by simp
  have e2 : wrap64 ((bit * 2 ^ (7 - m) : Nat) : Int) % 256 = ((bit * 2 ^ (7 - m) : Nat) : Int) := by
    rw [IntWalk.wrap64_in _ ⟨by omega, by omega⟩]
    omega
  rw [e, e2, u8_or_nat _ _ hx (by omega), nat_join (8 - m) _ _ hlow hp]
end PB
end Go.Proofs.Ytgbabhihmbeogaa
