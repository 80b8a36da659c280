/-
  The cases of arith.Put.
-/
import Derived.Test.YtnnpkajmheglgaaRows
import Derived.Test.YtnnpkajmheglgaaArEx
import Derived.Deep.RegionHeld3
import Derived.Deep.DrawnRows
namespace Go.Proofs.Ytnnpkajmheglgaa
open Go.RowKit
attribute [local go_sem ↓] Go.wp_at_zero Go.wp_at_succ
set_option linter.unusedVariables false
set_option linter.unusedSimpArgs false
namespace PB
/-- Put has a fault. -/
def PutE (lo hi q b p code idx : Int) : Prop :=
  (¬ COk lo hi q ∧ code = 6 ∧ idx = -1) ∨ (COk lo hi q ∧ ¬ (b = 0 ∨ b = 1) ∧ code = 4 ∧ idx = -2) ∨ (COk lo hi q ∧ (b = 0 ∨ b = 1) ∧ ¬ (1 ≤ p ∧ p ≤ 4095) ∧ code = 4 ∧ idx = -3) ∨
  (COk lo hi q ∧ (b = 0 ∨ b = 1) ∧ (1 ≤ p ∧ p ≤ 4095) ∧ 131056 < (sentf (stp lo hi b.toNat p).2.2 q.toNat).2 ∧ code = 14 ∧ idx = -1)
/-- Put has none. -/
def PutO (lo hi q b p : Int) : Prop := COk lo hi q ∧ (b = 0 ∨ b = 1) ∧ (1 ≤ p ∧ p ≤ 4095) ∧ (sentf (stp lo hi b.toNat p).2.2 q.toNat).2 ≤ 131056
theorem put_ex (lo hi q b p : Int) : (∃ code idx, PutE lo hi q b p code idx) ∨ PutO lo hi q b p := by
  by_cases h1 : COk lo hi q
  · by_cases h2 : b = 0 ∨ b = 1
    · by_cases h3 : 1 ≤ p ∧ p ≤ 4095
      · by_cases h4 : 131056 < (sentf (stp lo hi b.toNat p).2.2 q.toNat).2
        · exact .inl ⟨14, -1, .inr (.inr (.inr ⟨h1, h2, h3, h4, rfl, rfl⟩))⟩
        · exact .inr ⟨h1, h2, h3, by omega⟩
      · exact .inl ⟨4, -3, .inr (.inr (.inl ⟨h1, h2, h3, rfl, rfl⟩))⟩
    · exact .inl ⟨4, -2, .inr (.inl ⟨h1, h2, rfl, rfl⟩)⟩
  · exact .inl ⟨6, -1, .inl ⟨h1, rfl, rfl⟩⟩
theorem PutE.code {lo hi q b p code idx : Int} (h : PutE lo hi q b p code idx) : (code != 0) = true := by
  rcases h with ⟨_, rfl, _⟩ | ⟨_, _, rfl, _⟩ | ⟨_, _, _, rfl, _⟩ | ⟨_, _, _, _, rfl, _⟩ <;> rfl
theorem putE_any {lo hi q b p code idx : Int} (h : PutE lo hi q b p code idx) (w : World) :
    Calls Try.prog 24 #[.agg #[.int .i64 lo, .int .i64 hi, .int .i64 q], .int .i64 b, .int .i64 p] w fun e w' => e = .returned (.tuple #[.agg #[.int .i64 0, .int .i64 0, .int .i64 0], .agg #[.slice none 0 0, .int .i64 0], .agg #[.int .i64 code, .int .i64 idx]]) ∧ Below w.heap.size w w' := by
  rcases h with ⟨h1, rfl, rfl⟩ | ⟨h1, h2, rfl, rfl⟩ | ⟨h1, h2, h3, rfl, rfl⟩ | ⟨h1, h2, h3, h4, rfl, rfl⟩
  · exact put_form h1 b p w
  · exact put_bit h1 (by omega) p w
  · exact put_prob_any h1 h2 h3 w
  · obtain ⟨k, rfl⟩ : ∃ k : Nat, b = (k : Nat) := ⟨b.toNat, by omega⟩
    obtain ⟨m, rfl⟩ : ∃ m : Nat, q = (m : Nat) := ⟨q.toNat, by have := h1.2.1; omega⟩
    exact put_big h1 h3.1 h3.2 (by omega) _ _ _ _ rfl rfl rfl rfl (by simpa using h4) w
end PB
end Go.Proofs.Ytnnpkajmheglgaa
