/-
  bits.at reads the bit at a position; bits.Valid tells whether a bit string is valid.
-/
import Derived.Test.YtgbabhihmbeogaaRows
import Derived.Test.YtgbabhihmbeogaaBitsMem
import Derived.WalkKit
import Derived.WalkSpells
import Derived.WalkLawsBesides
import Derived.Lib.Hide
namespace Go.Proofs.Ytgbabhihmbeogaa
open Go.RowKit
set_option linter.unusedVariables false
set_option linter.unusedSimpArgs false
namespace PB
theorem shr_and_wrap (x k : Nat) (h : x < 256) : wrap64 (bits .and .u8 ((x : Int) / 2 ^ k) 1) = ((x / 2 ^ k % 2 : Nat) : Int) := by
  have e : ((x : Int) / 2 ^ k) = ((x / 2 ^ k : Nat) : Int) := by simp
  rw [e, u8_shr_and x k h]
  exact IntWalk.wrap64_in _ ⟨by omega, by omega⟩
/-- What 'valid' asks. -/
def Ok (d : List Nat) (cnt : Int) : Prop := 0 ≤ cnt ∧ cnt ≤ 131072 ∧ (d.length : Int) = (cnt + 7) / 8 ∧ (cnt % 8 = 0 ∨ d.getD (d.length - 1) 0 * 2 ^ (cnt % 8).toNat % 256 = 0)
theorem Ok.of_list {l : List Nat} (h01 : Is01 l) (hl : l.length ≤ 131072) : Ok (pack l) l.length := by
  refine ⟨by omega, by omega, by rw [pack_length]; omega, ?_⟩
  have := (rest_iff (pack l) l.length (pack_lt h01) (pack_length l)).1 (pack_rest h01)
  rcases this with h | h
  · left; omega
  · right
    rw [show ((l.length : Int) % 8).toNat = l.length % 8 by omega]
    exact h
/-- A valid bit string is the packed form of its bits. -/
theorem Ok.list {d : List Nat} {cnt : Int} (hd : ∀ k, d.getD k 0 < 256) (h : Ok d cnt) : ∃ l : List Nat, Is01 l ∧ l.length ≤ 131072 ∧ d = pack l ∧ cnt = l.length := by
  obtain ⟨h0, h1, h2, h3⟩ := h
  obtain ⟨n, rfl⟩ := Int.eq_ofNat_of_zero_le h0
  refine ⟨bitsOf d n, bitsOf_01 d n, by rw [bitsOf_length]; omega, ?_, by rw [bitsOf_length]⟩
  refine (pack_bitsOf d n hd (by omega) ((rest_iff d n hd (by omega)).2 ?_)).symm
  rcases h3 with h | h
  · left; omega
  · right
    rw [show ((n : Int) % 8).toNat = n % 8 by omega] at h
    exact h
end PB
end Go.Proofs.Ytgbabhihmbeogaa
