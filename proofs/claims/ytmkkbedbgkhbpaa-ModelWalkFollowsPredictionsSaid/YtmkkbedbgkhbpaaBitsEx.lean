/-
  The closed examples of package bits answer true (the helper strings of the statements); SameBytes, SameBits, In, At of the reference.
-/
import Derived.Test.YtmkkbedbgkhbpaaRows
import Derived.Test.YtmkkbedbgkhbpaaBitsMake
import Derived.Test.YtmkkbedbgkhbpaaBitsText
import Derived.Test.YtmkkbedbgkhbpaaBitsGamma
import Derived.Test.YtmkkbedbgkhbpaaBitsRGamma
import Derived.Test.YtmkkbedbgkhbpaaBitsAppend
import Derived.WalkKit
import Derived.WalkSpells
import Derived.WalkLawsBesides
import Derived.Lib.Hide
namespace Go.Proofs.Ytmkkbedbgkhbpaa
open Go.RowKit
set_option linter.unusedVariables false
set_option linter.unusedSimpArgs false
namespace PB
/-- A slice that can be read, somewhere in memory. -/
def Rd (w : World) (A : Option Addr) (n c : Nat) (xs : List Value) : Prop := Reads w w.heap.size A n c xs
section
variable {w w' : World} {A : Option Addr} {n c : Nat} {xs : List Value}
theorem Rd.on (h : Rd w A n c xs) (hb : Below w.heap.size w w') : Rd w' A n c xs := (Reads.on h (Nat.le_refl _) hb).more hb.size
theorem Rd.alloc (h : Rd w A n c xs) (o : Obj) : Rd (w.alloc o) A n c xs := (Reads.alloc h (Nat.le_refl _) o).more (by simp)
theorem Rd.drew (h : Rd w A n c xs) : Rd w.drew A n c xs := h
theorem Rd.own {base : Nat} {e : TypeId} (h : w.ownsRow base e 1 (.slice A n c) n xs) : Rd w A n c xs := by
  obtain ⟨A', c', hv, hr⟩ := Reads.of_own h
  cases hv
  exact hr
theorem Two.new1 (w : World) (o : Obj) (t : TypeId) (v0 v1 : Value) : Two ((w.alloc o).alloc (.cells #[v0, v1] t)) (w.heap.size + 1) t v0 v1 := by
  simpa using Two.new (w.alloc o) t v0 v1
end
theorem in_yes (n low high : Int) (w : World) (h1 : low ≤ n) (h2 : n ≤ high) :
    Calls Try.prog 12 #[.int .i64 n, .int .i64 low, .int .i64 high] w fun e w' => e = .returned (.bool true) ∧ w = w' := by
  go_enter Try.func12, Try.ntmps12
  go_wp2
  go_ret
  exact ⟨by simp [h2], rfl⟩
theorem in_no (n low high : Int) (w : World) (h1 : n < low ∨ high < n) :
    Calls Try.prog 12 #[.int .i64 n, .int .i64 low, .int .i64 high] w fun e w' => e = .returned (.bool false) ∧ w = w' := by
  by_cases hl : n < low
  · have q : decide (low ≤ n) = false := by simpa using hl
    go_enter Try.func12, Try.ntmps12
    go_wp2
    go_ret
    exact ⟨rfl, rfl⟩
  · have q : decide (low ≤ n) = true := by simp; omega
    have q2 : decide (n ≤ high) = false := by simp; omega
    go_enter Try.func12, Try.ntmps12
    go_wp2
    go_ret
    exact ⟨rfl, rfl⟩
theorem refat_any (code index : Int) (w : World) :
    Calls Try.prog 16 #[.int .i64 code, .int .i64 index] w fun e w' => e = .returned (.agg #[.int .i64 code, .int .i64 index]) ∧ Below w.heap.size w w' := by
  go_enter Try.func16, Try.ntmps16
  go_wp2
  refine bodyPost_ret (v := .agg #[.int .i64 code, .int .i64 index]) (by simp [results, Try.results16, go_sem]) rfl ⟨rfl, ?_⟩
  exact (Below.refl _ _).alloc (Nat.le_refl _) _
end PB
end Go.Proofs.Ytmkkbedbgkhbpaa
