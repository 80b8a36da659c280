/-
  The closed examples of package bits answer true (the helper strings of the statements); SameBytes, SameBits, In, At of the reference.
-/
import Derived.Test.YtnahmiglogddaaaRows
import Derived.Test.YtnahmiglogddaaaBitsMake
import Derived.Test.YtnahmiglogddaaaBitsText
import Derived.Test.YtnahmiglogddaaaBitsGamma
import Derived.Test.YtnahmiglogddaaaBitsRGamma
import Derived.Test.YtnahmiglogddaaaBitsAppend
import Derived.WalkKit
import Derived.WalkSpells
import Derived.WalkLawsBesides
import Derived.Lib.Hide
namespace Go.Proofs.Ytnahmiglogddaaa
open Go.RowKit
set_option linter.unusedVariables false
set_option linter.unusedSimpArgs false
namespace PB
/-- A slice that can be read, somewhere in memory. -/
def Rd (w : World) (A : Option Addr) (n c : Nat) (xs : List Value) : Prop := Reads w w.heap.size A n c xs
section
variable {w w' : World} {A : Option Addr} {n c : Nat} {xs : List Value}
theorem Rd.on (h : Rd w A n c xs) (hb : Below w.heap.size w w') : Rd w' A n c xs := (Reads.on h (Nat.le_refl _) hb).more hb.size
theorem Rd.alloc (h : Rd w A n c xs) (o : Obj) : Rd (w.alloc o) A n c xs := (Reads.alloc h (Nat.le_refl _) o).more (by simp)
theorem Rd.drew (h : Rd w A n c xs) : Rd w.drew A n c xs := h
theorem Rd.own {base : Nat} {e : TypeId} (h : w.ownsRow base e 1 (.slice A n c) n xs) : Rd w A n c xs := by
  obtain ⟨A', c', hv, hr⟩ := Reads.of_own h
  cases hv
  exact hr
theorem Two.new1 (w : World) (o : Obj) (t : TypeId) (v0 v1 : Value) : Two ((w.alloc o).alloc (.cells #[v0, v1] t)) (w.heap.size + 1) t v0 v1 := by
  simpa using Two.new (w.alloc o) t v0 v1
end
theorem in_yes (n low high : Int) (w : World) (h1 : low ≤ n) (h2 : n ≤ high) :
    Calls Try.prog 10 #[.int .i64 n, .int .i64 low, .int .i64 high] w fun e w' => e = .returned (.bool true) ∧ w = w' := by
  go_enter Try.func10, Try.ntmps10
  go_wp2
  go_ret
  exact ⟨by simp [h2], rfl⟩
theorem in_no (n low high : Int) (w : World) (h1 : n < low ∨ high < n) :
    Calls Try.prog 10 #[.int .i64 n, .int .i64 low, .int .i64 high] w fun e w' => e = .returned (.bool false) ∧ w = w' := by
  by_cases hl : n < low
  · have q : decide (low ≤ n) = false := by simpa using hl
    go_enter Try.func10, Try.ntmps10
    go_wp2
    go_ret
    exact ⟨rfl, rfl⟩
  · have q : decide (low ≤ n) = true := by simp; omega
    have q2 : decide (n ≤ high) = false := by simp; omega
    go_enter Try.func10, Try.ntmps10
    go_wp2
    go_ret
    exact ⟨rfl, rfl⟩
theorem refat_any (code index : Int) (w : World) :
    Calls Try.prog 11 #[.int .i64 code, .int .i64 index] w fun e w' => e = .returned (.agg #[.int .i64 code, .int .i64 index]) ∧ Below w.heap.size w w' := by
  go_enter Try.func11, Try.ntmps11
  go_wp2
  refine bodyPost_ret (v := .agg #[.int .i64 code, .int .i64 index]) (by simp [results, Try.results11, go_sem]) rfl ⟨rfl, ?_⟩
  exact (Below.refl _ _).alloc (Nat.le_refl _) _
theorem samebytes_any (A : Option Addr) (n c : Nat) (d : List Nat) (A2 : Option Addr) (n2 c2 : Nat) (d2 : List Nat) (w : World) (h : Rd w A n c (bcells d)) (h2 : Rd w A2 n2 c2 (bcells d2))
    (hd : ∀ k, d.getD k 0 < 256) (hd2 : ∀ k, d2.getD k 0 < 256) :
    Calls Try.prog 14 #[.slice A n c, .slice A2 n2 c2] w fun e w' => e = .returned (.bool (decide (d = d2))) ∧ w = w' := by
  have hcv := run_bytes_str (P := Try.prog) 23 9 5 Try.underlying23 Try.underlying5 Try.underlying9 h
  have hcv2 := run_bytes_str (P := Try.prog) 23 9 5 Try.underlying23 Try.underlying5 Try.underlying9 h2
  go_enter Try.func14, Try.ntmps14
  go_wp2
  go_ret
  refine ⟨ret_bool ?_, rfl⟩
  rw [bstr_toList, bstr_toList, Bool.eq_iff_iff]
  simp only [beq_iff_eq, decide_eq_true_eq]
  exact ⟨map_ofNat_inj d d2 hd hd2, fun h => by rw [h]⟩
theorem gsize_ex (w : World) : Calls Try.prog 39 #[.int .i64 4] w fun e w' => e = .returned (.int .i64 5) ∧ w = w' :=
  (gsize_pos 4 w (by decide) (by decide)).mono fun e w' h => ⟨h.1, h.2.symm⟩
end PB
end Go.Proofs.Ytnahmiglogddaaa
