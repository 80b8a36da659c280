/-
  The reference's AllBits: the bits of a byte string.
-/
import Derived.Test.YtmkkbedbgkhbpaaBitsRef
import Derived.Test.YtmkkbedbgkhbpaaBitsEx
import Derived.Test.YtmkkbedbgkhbpaaKit
namespace Go.Proofs.Ytmkkbedbgkhbpaa
open Go.RowKit
attribute [local go_sem ↓] Go.wp_at_zero Go.wp_at_succ
set_option linter.unusedVariables false
set_option linter.unusedSimpArgs false
namespace PB
/-- The bits of a byte string. -/
def allbits (d : List Nat) : List Nat := (List.range (8 * d.length)).map (bitAt d)
theorem allbits_length (d : List Nat) : (allbits d).length = 8 * d.length := by simp [allbits]
theorem allbits_getD (d : List Nat) (i : Nat) (hi : i < 8 * d.length) : (allbits d).getD i 0 = bitAt d i := by
  unfold allbits
  rw [List.getD_eq_getElem?_getD, List.getElem?_map, List.getElem?_range hi]
  rfl
theorem allbits_01 (d : List Nat) : Is01 (allbits d) := by
  refine Is01.of_mem fun x hx => ?_
  obtain ⟨i, _, rfl⟩ := List.mem_map.1 hx
  unfold bitAt
  omega
theorem allbits_take_succ (d : List Nat) (k : Nat) (hk : k < 8 * d.length) : (allbits d).take (k + 1) = (allbits d).take k ++ [bitAt d k] := by
  rw [List.take_succ_eq_append_getElem (by rw [allbits_length]; exact hk)]
  congr 2
  rw [← getD_lt, allbits_getD d k hk]
set_option maxRecDepth 100000 in
set_option maxHeartbeats 800000 in
/-- AllBits: the list of the bits of a byte string. -/
theorem allbits_any {A : Option Addr} {n c : Nat} {d : List Nat} {w : World} (h : Rd w A n c (bcells d)) (hd : ∀ k, d.getD k 0 < 256) (hl : n ≤ 1000000) (N : Nat) (hN : N = 8 * n) :
    Calls Try.prog 17 #[.slice A n c] w fun e w' => ∃ A' c', e = .returned (.slice A' N c') ∧ w'.ownsRow w.heap.size 3 1 (.slice A' N c') N (ncells (allbits d)) ∧ Below w.heap.size w w' := by
  subst hN
  obtain ⟨i0, hi, hz0, hz1, hz2⟩ := info_parts int_info
  have hn := h.len
  rw [bcells_length] at hn
  have HN := Lib.hid hn
  have HD := Lib.hid hd
  have HR := Lib.hid h
  clear hn hd h
  go_enter Try.func17, Try.ntmps17
  go_wp2_with fail
  go_loopw [3, 4] (fun s i wr => ∃ k : Nat, k ≤ 8 * n ∧ i = .int .i64 k ∧ Below w.heap.size w wr ∧ ∃ A' c', s = .slice A' k c' ∧
      wr.ownsRow w.heap.size 3 1 (.slice A' k c') k (ncells ((allbits d).take k))) (fun _ i _ => 8 * n - (intOf i).toNat)
  case atStart => exact ⟨0, Nat.zero_le _, rfl, Below.refl _ _, none, 0, rfl, by simpa [ncells] using World.ownsRow_nil _ _ _ _⟩
  case round =>
    obtain ⟨k, hk, rfl, yr, A', c', rfl, ho⟩ := hrel
    have HO := Lib.hid ho
    clear ho
    by_cases hlt : k < 8 * n
    · have HS := Lib.hid (show ncells ((allbits d).take (k + 1)) = ncells ((allbits d).take k) ++ [.int .i64 (bitAt d k : Nat)] by rw [allbits_take_succ d k (by have := HN.out; omega), ncells_append]; rfl)
      have HBit := Lib.hid (bit_any k (k : Nat) rfl (HR.out.on yr) HD.out hlt)
      obtain ⟨b, hb⟩ : ∃ b, b = bitAt d k := ⟨_, rfl⟩
      rw [← hb] at HS HBit
      clear hb
      have ysz := yr.size
      go_wp2_with fail
      refine HBit.out.mono ?_
      rintro e w3 ⟨rfl, y3⟩
      have ho3 := own_on HO.out y3
      have Y3 := yr.trans (y3.mono yr.size)
      have Y3s := Y3.size
      go_wp2_with (at_builtin; refine wpList_app1 _ rfl _ _ _ rfl w.heap.size 3 i0 _ 8 Try.underlying22 hi hz0 hz1 hz2 rfl _ _ _ rfl ho3 (.int .i64 (b : Nat)) rfl rfl ?g1 ?g2 Y3s ?_)
      case g1 => unfold maxLen; omega
      case g2 => omega
      intro A4 c4 w4 o4 g4
      have Y4 := below_grown Y3 ho3 g4 (Nat.le_refl _) Y3s
      rw [← HS.out] at o4
      have HO4 := Lib.hid o4
      clear o4 g4 ho3
      go_wp2_with fail
      go_roundw
      case rel => exact ⟨k + 1, by omega, by go_num, Y4, A4, c4, rfl, HO4.out⟩
      case measure => simp [intOf]; omega
    · obtain rfl : k = 8 * n := by omega
      have hfull := HO.out
      rw [List.take_of_length_le (by rw [allbits_length]; have := HN.out; omega)] at hfull
      have HF := Lib.hid hfull
      clear hfull
      go_wp2
      go_ret
      exact ⟨A', c', rfl, HF.out, yr⟩
end PB
end Go.Proofs.Ytmkkbedbgkhbpaa
