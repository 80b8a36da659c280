/-
  A number that was added to a bit string is read at its place, and the bits before it are unchanged: the walk of the statement BitsReadBack.
-/
import Derived.Test.YtgbabhihmbeogaaRows
import Derived.Test.YtgbabhihmbeogaaBitsEx
import Derived.Test.YtgbabhihmbeogaaBitsRead
import Derived.Test.YtgbabhihmbeogaaBitsSlice
namespace Go.Proofs.Ytgbabhihmbeogaa
open Go.RowKit
set_option linter.unusedVariables false
set_option linter.unusedSimpArgs false
namespace PB
/-- Which fault bits.Append tells. -/
def AErr (d : List Nat) (cnt value width code idx : Int) : Prop :=
  (¬ Ok d cnt ∧ code = 6 ∧ idx = -1) ∨
  (Ok d cnt ∧ (value < 0 ∨ (0 ≤ width ∧ width ≤ 32 ∧ (2 : Int) ^ width.toNat ≤ value)) ∧ code = 4 ∧ idx = -2) ∨
  (Ok d cnt ∧ 0 ≤ value ∧ (width < 0 ∨ 32 < width) ∧ code = 4 ∧ idx = -3) ∨
  (Ok d cnt ∧ 0 ≤ value ∧ 0 ≤ width ∧ width ≤ 32 ∧ value < (2 : Int) ^ width.toNat ∧ 131072 < cnt + width ∧ code = 14 ∧ idx = -1)
/-- bits.Append succeeds. -/
def AOk (d : List Nat) (cnt value width : Int) (l : List Nat) (v m : Nat) : Prop :=
  Is01 l ∧ l.length ≤ 131072 ∧ d = pack l ∧ cnt = l.length ∧ value = v ∧ width = m ∧ m ≤ 32 ∧ v < 2 ^ m ∧ l.length + m ≤ 131072
theorem append_cases (d : List Nat) (cnt value width : Int) (hd : ∀ k, d.getD k 0 < 256) : (∃ code idx, AErr d cnt value width code idx) ∨ ∃ l v m, AOk d cnt value width l v m := by
  by_cases h0 : Ok d cnt
  case neg => exact .inl ⟨6, -1, .inl ⟨h0, rfl, rfl⟩⟩
  by_cases h1 : value < 0 ∨ (0 ≤ width ∧ width ≤ 32 ∧ (2 : Int) ^ width.toNat ≤ value)
  · exact .inl ⟨4, -2, .inr (.inl ⟨h0, h1, rfl, rfl⟩)⟩
  by_cases h2 : width < 0 ∨ 32 < width
  · exact .inl ⟨4, -3, .inr (.inr (.inl ⟨h0, by omega, h2, rfl, rfl⟩))⟩
  have hw0 : 0 ≤ width := by omega
  have hw1 : width ≤ 32 := by omega
  have hv0 : 0 ≤ value := by omega
  have hv1 : value < (2 : Int) ^ width.toNat := by
    rcases Int.lt_or_le value ((2 : Int) ^ width.toNat) with h | h
    · exact h
    · exact absurd (.inr ⟨hw0, hw1, h⟩) h1
  by_cases h3 : 131072 < cnt + width
  · exact .inl ⟨14, -1, .inr (.inr (.inr ⟨h0, hv0, hw0, hw1, hv1, h3, rfl, rfl⟩))⟩
  · obtain ⟨l, g1, g2, g3, g4⟩ := h0.list hd
    obtain ⟨v, rfl⟩ := Int.eq_ofNat_of_zero_le hv0
    obtain ⟨m, rfl⟩ := Int.eq_ofNat_of_zero_le hw0
    refine .inr ⟨l, v, m, g1, g2, g3, g4, rfl, rfl, by omega, ?_, by omega⟩
    rw [Int.toNat_natCast] at hv1
    have e : ((2 : Int) ^ m) = ((2 ^ m : Nat) : Int) := by simp
    omega
theorem AErr.code {d : List Nat} {cnt value width code idx : Int} (h : AErr d cnt value width code idx) : (code != 0) = true := by
  rcases h with ⟨_, rfl, _⟩ | ⟨_, _, rfl, _⟩ | ⟨_, _, _, rfl, _⟩ | ⟨_, _, _, _, _, _, rfl, _⟩ <;> decide
theorem num_digs (m : Nat) : ∀ v, v < 2 ^ m → num (digs v m) = v := by
  induction m with
  | zero => intro v h; simp at h; subst h; rfl
  | succ m ih =>
    intro v h
    show num (digs (v / 2) m ++ [v % 2]) = v
    rw [num_snoc, ih (v / 2) (by rw [Nat.pow_succ] at h; omega)]
    omega
theorem zero_lt (k : Nat) : ([] : List Nat).getD k 0 < 256 := by simp

end PB
end Go.Proofs.Ytgbabhihmbeogaa
