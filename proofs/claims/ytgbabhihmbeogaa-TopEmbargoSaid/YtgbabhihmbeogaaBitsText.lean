/-
  bits.Text hands back the characters of a bit string, or tells why it cannot.
-/
import Derived.Test.YtgbabhihmbeogaaRows
import Derived.Test.YtgbabhihmbeogaaBitsBox
import Derived.WalkKit
import Derived.WalkSpells
import Derived.WalkLawsBesides
import Derived.Lib.Hide
import Derived.BigQuiet
import Derived.Test.YtgbabhihmbeogaaBitsStr
import Derived.Test.YtgbabhihmbeogaaBitsSlice
namespace Go.Proofs.Ytgbabhihmbeogaa
open Go.RowKit
attribute [local go_sem ↓] Go.wp_at_zero Go.wp_at_succ
set_option linter.unusedVariables false
set_option linter.unusedSimpArgs false
namespace PB
/-- The characters of the first k bits, and zeros. -/
def txt (l : List Nat) (k : Nat) : List Nat := (l.take k).map (48 + ·) ++ List.replicate (l.length - k) 0
theorem txt_length (l : List Nat) (k : Nat) (h : k ≤ l.length) : (txt l k).length = l.length := by simp [txt]; omega
theorem txt_set (l : List Nat) (k : Nat) (h : k < l.length) : txt l (k + 1) = (txt l k).set k (48 + l.getD k 0) := by
  have e : ((l.take k).map (48 + ·)).length = k := by simp; omega
  have hrep : List.replicate (l.length - k) 0 = 0 :: List.replicate (l.length - (k + 1)) 0 := by
    rw [show l.length - k = l.length - (k + 1) + 1 by omega]; rfl
  unfold txt
  rw [List.take_succ_eq_append_getElem h, List.map_append, hrep, List.set_append_right _ _ (by omega), e, Nat.sub_self, List.append_assoc, getD_lt h]
  rfl
theorem txt_cell (l : List Nat) (k : Nat) (h : k < l.length) : (bcells (txt l k))[k]? = some (.int .u8 0) := by
  have e : ((l.take k).map (48 + ·)).length = k := by simp; omega
  rw [bcells_get _ _ (by rw [txt_length l k (by omega)]; exact h)]
  unfold txt
  rw [getD_append_ge (by omega), e, Nat.sub_self, show l.length - k = l.length - (k + 1) + 1 by omega]
  rfl
end PB
end Go.Proofs.Ytgbabhihmbeogaa
