/-
  Package arith: the texts of certain bits.
-/
import Derived.Test.YtnnpkajmheglgaaArCode
import Derived.Test.YtnnpkajmheglgaaBitsText
namespace Go.Proofs.Ytnnpkajmheglgaa
open Go.RowKit
attribute [local go_sem ↓] Go.wp_at_zero Go.wp_at_succ
set_option linter.unusedVariables false
set_option linter.unusedSimpArgs false
namespace PB
/-- The text of bits. -/
def bt (l : List Nat) : ByteArray := bstr (l.map (48 + ·))
theorem bt_data (l : List Nat) : (bt l).data = (l.map fun x => UInt8.ofNat (48 + x)).toArray := by simp [bt, bstr]
theorem bt_append (a b : List Nat) : bt (a ++ b) = bt a ++ bt b := by
  apply ByteArray.ext
  rw [ByteArray.data_append, bt_data, bt_data, bt_data]
  simp
theorem bt_size (l : List Nat) : (bt l).size = l.length := by
  show (bt l).data.size = _
  rw [bt_data]; simp
theorem repeat_one (x : UInt8) : ∀ q, Lib.repeatL [x] q = List.replicate q x := by
  intro q
  induction q with
  | zero => rfl
  | succ q ih => show [x] ++ Lib.repeatL [x] q = _; rw [ih, List.replicate_succ]; rfl
theorem rep_text (b : Nat) (q : Nat) : (⟨(Lib.repeatL [UInt8.ofNat (48 + b)] q).toArray⟩ : ByteArray) = bt (List.replicate q b) := by
  apply ByteArray.ext
  rw [bt_data, repeat_one]
  simp
theorem certain_any {b q : Nat} (hb : b ≤ 1) (hq : q ≤ 1000000) (w : World) :
    Calls Try.prog 60 #[.int .i64 (b : Nat), .int .i64 (q : Nat)] w fun e w' => e = .returned (.string (bt (crt b q))) ∧ Below w.heap.size w w' := by
  rcases (by omega : b = 0 ∨ b = 1) with rfl | rfl
  · have e0 : bt (crt 0 q) = ⟨#[48]⟩ ++ bt (List.replicate q 1) := bt_append [0] (List.replicate q 1)
    rw [e0, ← rep_text 1 q]
    have C := Lib.hid (Try.strings_Repeat ⟨#[49]⟩ q w (by omega) (by show 1 * q ≤ _; omega))
    obtain ⟨R, hR⟩ : ∃ R : ByteArray, R = ⟨(Lib.repeatL [UInt8.ofNat (48 + 1)] q).toArray⟩ := ⟨_, rfl⟩
    have C2 := C.out
    have e1 : (⟨(Lib.repeatL (⟨#[49]⟩ : ByteArray).data.toList q).toArray⟩ : ByteArray) = R := by rw [hR]; rfl
    rw [e1] at C2
    rw [← hR]
    have HC := Lib.hid C2
    have hns : ¬ (9223372036854775807 < 1 + R.size) := by rw [hR, rep_text 1 q, bt_size, List.length_replicate]; omega
    clear C C2 e1 hR  e0
    go_enter Try.func60, Try.ntmps60
    go_wp2_with fail
    refine HC.out.mono ?_
    rintro e w1 ⟨rfl, y1⟩
    go_wp2
    go_ret
    exact ⟨rfl, y1⟩
  · have e0 : bt (crt 1 q) = ⟨#[49]⟩ ++ bt (List.replicate q 0) := bt_append [1] (List.replicate q 0)
    rw [e0, ← rep_text 0 q]
    have C := Lib.hid (Try.strings_Repeat ⟨#[48]⟩ q w (by omega) (by show 1 * q ≤ _; omega))
    obtain ⟨R, hR⟩ : ∃ R : ByteArray, R = ⟨(Lib.repeatL [UInt8.ofNat (48 + 0)] q).toArray⟩ := ⟨_, rfl⟩
    have C2 := C.out
    have e1 : (⟨(Lib.repeatL (⟨#[48]⟩ : ByteArray).data.toList q).toArray⟩ : ByteArray) = R := by rw [hR]; rfl
    rw [e1] at C2
    rw [← hR]
    have HC := Lib.hid C2
    have hns : ¬ (9223372036854775807 < 1 + R.size) := by rw [hR, rep_text 0 q, bt_size, List.length_replicate]; omega
    clear C C2 e1 hR  e0
    go_enter Try.func60, Try.ntmps60
    go_wp2_with fail
    refine HC.out.mono ?_
    rintro e w1 ⟨rfl, y1⟩
    go_wp2
    go_ret
    exact ⟨rfl, y1⟩
end PB
end Go.Proofs.Ytnnpkajmheglgaa
