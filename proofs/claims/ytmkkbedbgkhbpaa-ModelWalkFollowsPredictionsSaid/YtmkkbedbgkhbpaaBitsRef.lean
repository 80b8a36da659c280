/-
  The reference's functions on bits: Power, Bit, Bits, BitsOk.
-/
import Derived.Test.YtmkkbedbgkhbpaaRows
import Derived.Test.YtmkkbedbgkhbpaaBitsApi
import Derived.Deep.QuietTactic
import Derived.BigQuiet
namespace Go.Proofs.Ytmkkbedbgkhbpaa
open Go.RowKit
set_option linter.unusedVariables false
set_option linter.unusedSimpArgs false
namespace PB
theorem int_info : (Try.prog.info? 3).map (fun i => (i.zero, i.size, i.bytes)) = some (some (.int .i64 0), 1, 8) := by kernel_rfl
theorem ncells_append (a b : List Nat) : ncells (a ++ b) = ncells a ++ ncells b := by simp [ncells]
theorem ncells_length (l : List Nat) : (ncells l).length = l.length := by simp [ncells]
theorem ncells_get (l : List Nat) (j : Nat) (h : j < l.length) : (ncells l)[j]? = some (.int .i64 ((l.getD j 0 : Nat) : Int)) := by
  simp [ncells, List.getElem?_map, List.getElem?_eq_getElem h, List.getD_eq_getElem?_getD]
theorem pow_cast (k : Nat) : (((2 ^ k : Nat) : Int)) = (2 : Int) ^ k := by simp
set_option maxHeartbeats 400000 in
theorem power_any (n : Nat) (hn : n ≤ 61) (w : World) :
    Calls Try.prog 27 #[.int .i64 n] w fun e w' => e = .returned (.int .i64 ((2 ^ n : Nat) : Int)) ∧ w' = w := by
  go_enter Try.func27, Try.ntmps27
  go_wp2
  go_loop [3, 4] (fun p i => ∃ k : Nat, k ≤ n ∧ i = .int .i64 k ∧ p = .int .i64 ((2 ^ k : Nat) : Int)) (fun _ i => n - (intOf i).toNat)
  case atStart => exact ⟨0, Nat.zero_le _, rfl, rfl⟩
  case round =>
    obtain ⟨k, hk, rfl, rfl⟩ := hrel
    obtain ⟨q, hq⟩ : ∃ q, q = 2 ^ k := ⟨_, rfl⟩
    rw [← hq]
    have hqb : q ≤ 2305843009213693952 := by
      rw [hq]
      have : 2 ^ k ≤ 2 ^ 61 := Nat.pow_le_pow_right (by decide) (by omega)
      omega
    have HQ := Lib.hid hq
    clear hq
    by_cases hlt : k < n
    · go_wp2
      go_round
      case rel => exact ⟨k + 1, by omega, by go_num, congrArg (Value.int .i64) (by rw [Nat.pow_succ, ← HQ.out]; omega)⟩
      case measure => simp [intOf]; omega
    · obtain rfl : k = n := by omega
      go_wp2
      go_ret
      exact ⟨ret_int (by rw [HQ.out]; first | rfl | simp), rfl⟩
set_option maxHeartbeats 400000 in
theorem bit_any {A : Option Addr} {n c : Nat} {d : List Nat} (i : Nat) (ii : Int) (hii : ii = (i : Nat)) {w : World} (h : Rd w A n c (bcells d)) (hd : ∀ k, d.getD k 0 < 256) (hi : i < 8 * n) :
    Calls Try.prog 24 #[.slice A n c, .int .i64 ii] w fun e w' => e = .returned (.int .i64 (bitAt d i : Nat)) ∧ Below w.heap.size w w' := by
  subst hii
  obtain ⟨b, off, rfl, hb, hc⟩ := Reads.byte h (by omega)
  obtain ⟨x, hx⟩ : ∃ x, x = d.getD (i / 8) 0 := ⟨_, rfl⟩
  have hcell := hc (i / 8) (by omega)
  rw [← hx] at hcell
  have hx256 := hd (i / 8)
  rw [← hx] at hx256
  have hcm := Reads.capMax h
  have hcap := Reads.cap h
  unfold maxLen at hcm
  have HX := Lib.hid hx
  have e7 : ((7 - i % 8 : Nat) : Int) = 7 - (i : Int) % 8 := by omega
  have E7 := Lib.hid e7
  have q1 : (0 : Int) ≤ (i : Int) / 8 := by omega
  have q2 : (i : Int) / 8 < (n : Int) := by omega
  obtain ⟨P, hP⟩ : ∃ P, P = 2 ^ (7 - i % 8) := ⟨_, rfl⟩
  have hP1 : 1 ≤ P := by rw [hP]; exact Nat.two_pow_pos _
  have HPow := Lib.hid (show ∀ W, Calls Try.prog 27 #[.int .i64 (7 - (i : Int) % 8)] W fun e w' => e = .returned (.int .i64 (P : Nat)) ∧ w' = W from fun W => by
    rw [← e7, hP]; exact power_any (7 - i % 8) (by omega) W)
  have HP := Lib.hid hP
  have t0 : ((P : Int) == 0) = false := by rw [beq_eq_false_iff_ne]; omega
  have t1 : (P : Int) ≠ 0 := by omega
  obtain ⟨Q, hQ⟩ : ∃ Q, Q = x / P := ⟨_, rfl⟩
  have t2 : (x : Int).tdiv (P : Int) = (Q : Int) := by rw [Int.tdiv_eq_ediv_of_nonneg (by omega), hQ]; simp
  have hxP : Q ≤ x := by rw [hQ]; exact Nat.div_le_self _ _
  have HQ := Lib.hid hQ
  have t3 : IntKind.i64.wrap (Q : Int) = (Q : Int) := IntWalk.i64_in _ (by omega)
  have t4 : (Q : Int).tmod 2 = ((Q % 2 : Nat) : Int) := by rw [Int.tmod_eq_emod_of_nonneg (by omega)]; omega
  have t5 : IntKind.i64.wrap ((Q % 2 : Nat) : Int) = ((Q % 2 : Nat) : Int) := IntWalk.i64_in _ (by omega)
  have s1 : IntKind.i64.wrap ((i : Int) / 8) = (i : Int) / 8 := IntWalk.i64_in _ (by omega)
  have s2 : ((i : Int) / 8).toNat = i / 8 := by omega
  have s3 : IntKind.i64.wrap ((i : Int) % 8) = (i : Int) % 8 := IntWalk.i64_in _ (by omega)
  have s4 : IntKind.i64.wrap (7 - (i : Int) % 8) = 7 - (i : Int) % 8 := IntWalk.i64_in _ (by omega)
  have s5 : IntKind.i64.wrap (x : Int) = (x : Int) := IntWalk.i64_in _ (by omega)
  have s6 : (i : Int).tmod 8 = (i : Int) % 8 := Int.tmod_eq_emod_of_nonneg (by omega)
  clear hc hd hx e7 h hP hQ
  go_enter Try.func24, Try.ntmps24
  go_wp2
  go_quiet ((go_at_call 27; exact Calls.quiet_of_same (HPow.out _)))
  go_wp2
  go_ret
  refine ⟨ret_int ?_, belowN (Below.refl _ _) nq⟩
  unfold bitAt
  rw [← HX.out, ← HP.out, ← HQ.out]
  omega

end PB
end Go.Proofs.Ytmkkbedbgkhbpaa
