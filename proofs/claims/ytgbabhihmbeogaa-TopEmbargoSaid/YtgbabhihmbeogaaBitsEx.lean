/-
  The closed examples of package bits answer true (the helper strings of the statements); SameBytes, SameBits, In, At of the reference.
-/
import Derived.Test.YtgbabhihmbeogaaRows
import Derived.Test.YtgbabhihmbeogaaBitsMake
import Derived.Test.YtgbabhihmbeogaaBitsText
import Derived.Test.YtgbabhihmbeogaaBitsGamma
import Derived.Test.YtgbabhihmbeogaaBitsRGamma
import Derived.Test.YtgbabhihmbeogaaBitsAppend
import Derived.WalkKit
import Derived.WalkSpells
import Derived.WalkLawsBesides
import Derived.Lib.Hide
namespace Go.Proofs.Ytgbabhihmbeogaa
open Go.RowKit
set_option linter.unusedVariables false
set_option linter.unusedSimpArgs false
namespace PB
/-- A slice that can be read, somewhere in memory. -/
def Rd (w : World) (A : Option Addr) (n c : Nat) (xs : List Value) : Prop := Reads w w.heap.size A n c xs
section
variable {w w' : World} {A : Option Addr} {n c : Nat} {xs : List Value}
theorem Rd.on (h : Rd w A n c xs) (hb : Below w.heap.size w w') : Rd w' A n c xs := (Reads.on h (Nat.le_refl _) hb).more hb.size
theorem Rd.alloc (h : Rd w A n c xs) (o : Obj) : Rd (w.alloc o) A n c xs := (Reads.alloc h (Nat.le_refl _) o).more (by simp)
theorem Rd.drew (h : Rd w A n c xs) : Rd w.drew A n c xs := h
theorem Rd.own {base : Nat} {e : TypeId} (h : w.ownsRow base e 1 (.slice A n c) n xs) : Rd w A n c xs := by
  obtain ⟨A', c', hv, hr⟩ := Reads.of_own h
  cases hv
  exact hr
theorem Two.new1 (w : World) (o : Obj) (t : TypeId) (v0 v1 : Value) : Two ((w.alloc o).alloc (.cells #[v0, v1] t)) (w.heap.size + 1) t v0 v1 := by
  simpa using Two.new (w.alloc o) t v0 v1
end
end PB
end Go.Proofs.Ytgbabhihmbeogaa
