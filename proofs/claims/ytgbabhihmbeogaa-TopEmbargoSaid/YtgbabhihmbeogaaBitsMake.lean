/-
  bits.Make makes a bit string of a text of the characters 0 and 1, or tells why it cannot.
-/
import Derived.Test.YtgbabhihmbeogaaRows
import Derived.Test.YtgbabhihmbeogaaBitsBox
import Derived.WalkKit
import Derived.WalkSpells
import Derived.WalkLawsBesides
import Derived.Lib.Hide
import Derived.BigQuiet
import Derived.Test.YtgbabhihmbeogaaBitsSlice
import Derived.StillTailTactics
namespace Go.Proofs.Ytgbabhihmbeogaa
open Go.RowKit
attribute [local go_sem ↓] Go.wp_at_zero Go.wp_at_succ
set_option linter.unusedVariables false
set_option linter.unusedSimpArgs false
namespace PB
/-- The bits of a text: what its bytes say. -/
def tbits (s : ByteArray) (k : Nat) : List Nat := (s.data.toList.take k).map fun c => c.toNat - 48
/-- The first k bytes of a text are 0 or 1. -/
def TOk (s : ByteArray) (k : Nat) : Prop := ∀ i (h : i < s.size), i < k → s[i].toNat = 48 ∨ s[i].toNat = 49
theorem tbits_length (s : ByteArray) (k : Nat) (h : k ≤ s.size) : (tbits s k).length = k := by
  have : s.data.toList.length = s.size := by simp
  simp [tbits]; omega
theorem tbits_succ (s : ByteArray) (k : Nat) (h : k < s.size) : tbits s (k + 1) = tbits s k ++ [s[k].toNat - 48] := by
  unfold tbits
  rw [List.take_succ_eq_append_getElem (by simpa using h), List.map_append]
  rfl
theorem tbits_01 (s : ByteArray) (k : Nat) (h : TOk s k) (hk : k ≤ s.size) : Is01 (tbits s k) := by
  refine Is01.of_mem fun x hx => ?_
  obtain ⟨c, hc, rfl⟩ := List.mem_map.1 hx
  obtain ⟨i, hi, rfl⟩ := List.mem_iff_getElem.1 hc
  rw [List.getElem_take]
  have hlen : s.data.toList.length = s.size := by simp
  have hi' : i < k ∧ i < s.size := by rw [List.length_take] at hi; omega
  have := h i hi'.2 hi'.1
  have e : (s.data.toList[i]'(by omega)).toNat = (s[i]'hi'.2).toNat := rfl
  rw [e]; omega
theorem below_res2 {w w1 : World} (hb : Below w.heap.size w w1) (r0 r1 f0 f1 : Value) :
    Below w.heap.size w ((((w1.setCell ⟨w.heap.size, 0, none⟩ r0).setCell ⟨w.heap.size, 1, none⟩ r1).setCell ⟨w.heap.size + 1, 0, none⟩ f0).setCell ⟨w.heap.size + 1, 1, none⟩ f1) :=
  (((hb.setCell (by simp) _).setCell (by simp) _).setCell (by simp) _).setCell (by simp) _
end PB
end Go.Proofs.Ytgbabhihmbeogaa
