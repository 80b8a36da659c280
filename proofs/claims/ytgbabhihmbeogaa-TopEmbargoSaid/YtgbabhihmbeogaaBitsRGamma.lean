/-
  bits.ReadGamma reads a gamma code, or tells why it cannot.
-/
import Derived.Test.YtgbabhihmbeogaaRows
import Derived.Test.YtgbabhihmbeogaaBitsBox
import Derived.WalkKit
import Derived.WalkSpells
import Derived.WalkLawsBesides
import Derived.Lib.Hide
import Derived.BigQuiet
namespace Go.Proofs.Ytgbabhihmbeogaa
open Go.RowKit
attribute [local go_sem ↓] Go.wp_at_zero Go.wp_at_succ
set_option linter.unusedVariables false
set_option linter.unusedSimpArgs false
namespace PB
/-- The number of zeros from a position on. -/
def zr (l : List Nat) (f : Nat) : Nat := ((l.drop f).takeWhile (· == 0)).length
theorem zr_le (l : List Nat) (f : Nat) (hf : f ≤ l.length) : f + zr l f ≤ l.length := by
  have := (List.takeWhile_prefix (p := (· == 0)) (l := l.drop f)).length_le
  rw [List.length_drop] at this
  unfold zr; omega
theorem takeWhile_at (m : List Nat) : ∀ k, k < (m.takeWhile (· == 0)).length → m.getD k 0 = 0 := by
  induction m with
  | nil => intro k h; simp at h
  | cons a m ih =>
    intro k h
    by_cases ha : a = 0
    · subst ha
      cases k with
      | zero => rfl
      | succ k => simp at h; simpa using ih k (by omega)
    · simp [ha] at h
theorem takeWhile_stop (m : List Nat) : (m.takeWhile (· == 0)).length < m.length → m.getD (m.takeWhile (· == 0)).length 0 ≠ 0 := by
  induction m with
  | nil => intro h; simp at h
  | cons a m ih =>
    intro h
    by_cases ha : a = 0
    · subst ha
      simp at h ⊢
      simpa using ih h
    · simp [ha]
theorem zr_zero (l : List Nat) (f k : Nat) (h : k < zr l f) : l.getD (f + k) 0 = 0 := by
  have := takeWhile_at (l.drop f) k h
  simpa [List.getD_eq_getElem?_getD] using this
theorem zr_stop (l : List Nat) (f : Nat) (h : f + zr l f < l.length) : l.getD (f + zr l f) 0 ≠ 0 := by
  have := takeWhile_stop (l.drop f) (by unfold zr at h; rw [List.length_drop]; omega)
  unfold zr
  simpa [List.getD_eq_getElem?_getD] using this
end PB
end Go.Proofs.Ytgbabhihmbeogaa
