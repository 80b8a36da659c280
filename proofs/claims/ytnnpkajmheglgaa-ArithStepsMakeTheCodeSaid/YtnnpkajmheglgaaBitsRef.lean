/-
  The reference's functions on bits: Power, Bit, Bits, BitsOk.
-/
import Derived.Test.YtnnpkajmheglgaaRows
import Derived.Test.YtnnpkajmheglgaaBitsApi
import Derived.Deep.QuietTactic
import Derived.BigQuiet
namespace Go.Proofs.Ytnnpkajmheglgaa
open Go.RowKit
set_option linter.unusedVariables false
set_option linter.unusedSimpArgs false
namespace PB
theorem int_info : (Try.prog.info? 3).map (fun i => (i.zero, i.size, i.bytes)) = some (some (.int .i64 0), 1, 8) := by kernel_rfl
theorem ncells_append (a b : List Nat) : ncells (a ++ b) = ncells a ++ ncells b := by simp [ncells]
theorem ncells_length (l : List Nat) : (ncells l).length = l.length := by simp [ncells]
theorem ncells_get (l : List Nat) (j : Nat) (h : j < l.length) : (ncells l)[j]? = some (.int .i64 ((l.getD j 0 : Nat) : Int)) := by
  simp [ncells, List.getElem?_map, List.getElem?_eq_getElem h, List.getD_eq_getElem?_getD]
theorem pow_cast (k : Nat) : (((2 ^ k : Nat) : Int)) = (2 : Int) ^ k := by simp
set_option maxHeartbeats 400000 in
theorem power_any (n : Nat) (hn : n ≤ 61) (w : World) :
    Calls Try.prog 25 #[.int .i64 n] w fun e w' => e = .returned (.int .i64 ((2 ^ n : Nat) : Int)) ∧ w' = w := by
  go_enter Try.func25, Try.ntmps25
  go_wp2
  go_loop [3, 4] (fun p i => ∃ k : Nat, k ≤ n ∧ i = .int .i64 k ∧ p = .int .i64 ((2 ^ k : Nat) : Int)) (fun _ i => n - (intOf i).toNat)
  case atStart => exact ⟨0, Nat.zero_le _, rfl, rfl⟩
  case round =>
    obtain ⟨k, hk, rfl, rfl⟩ := hrel
    obtain ⟨q, hq⟩ : ∃ q, q = 2 ^ k := ⟨_, rfl⟩
    rw [← hq]
    have hqb : q ≤ 2305843009213693952 := by
      rw [hq]
      have : 2 ^ k ≤ 2 ^ 61 := Nat.pow_le_pow_right (by decide) (by omega)
      omega
    have HQ := Lib.hid hq
    clear hq
    by_cases hlt : k < n
    · go_wp2
      go_round
      case rel => exact ⟨k + 1, by omega, by go_num, congrArg (Value.int .i64) (by rw [Nat.pow_succ, ← HQ.out]; omega)⟩
      case measure => simp [intOf]; omega
    · obtain rfl : k = n := by omega
      go_wp2
      go_ret
      exact ⟨ret_int (by rw [HQ.out]; first | rfl | simp), rfl⟩
set_option maxHeartbeats 400000 in
theorem bit_any {A : Option Addr} {n c : Nat} {d : List Nat} (i : Nat) (ii : Int) (hii : ii = (i : Nat)) {w : World} (h : Rd w A n c (bcells d)) (hd : ∀ k, d.getD k 0 < 256) (hi : i < 8 * n) :
    Calls Try.prog 48 #[.slice A n c, .int .i64 ii] w fun e w' => e = .returned (.int .i64 (bitAt d i : Nat)) ∧ Below w.heap.size w w' := by
  subst hii
  obtain ⟨b, off, rfl, hb, hc⟩ := Reads.byte h (by omega)
  obtain ⟨x, hx⟩ : ∃ x, x = d.getD (i / 8) 0 := ⟨_, rfl⟩
  have hcell := hc (i / 8) (by omega)
  rw [← hx] at hcell
  have hx256 := hd (i / 8)
  rw [← hx] at hx256
  have hcm := Reads.capMax h
  have hcap := Reads.cap h
  unfold maxLen at hcm
  have HX := Lib.hid hx
  have e7 : ((7 - i % 8 : Nat) : Int) = 7 - (i : Int) % 8 := by omega
  have E7 := Lib.hid e7
  have q1 : (0 : Int) ≤ (i : Int) / 8 := by omega
  have q2 : (i : Int) / 8 < (n : Int) := by omega
  obtain ⟨P, hP⟩ : ∃ P, P = 2 ^ (7 - i % 8) := ⟨_, rfl⟩
  have hP1 : 1 ≤ P := by rw [hP]; exact Nat.two_pow_pos _
  have HPow := Lib.hid (show ∀ W, Calls Try.prog 25 #[.int .i64 (7 - (i : Int) % 8)] W fun e w' => e = .returned (.int .i64 (P : Nat)) ∧ w' = W from fun W => by
    rw [← e7, hP]; exact power_any (7 - i % 8) (by omega) W)
  have HP := Lib.hid hP
  have t0 : ((P : Int) == 0) = false := by rw [beq_eq_false_iff_ne]; omega
  have t1 : (P : Int) ≠ 0 := by omega
  obtain ⟨Q, hQ⟩ : ∃ Q, Q = x / P := ⟨_, rfl⟩
  have t2 : (x : Int).tdiv (P : Int) = (Q : Int) := by rw [Int.tdiv_eq_ediv_of_nonneg (by omega), hQ]; simp
  have hxP : Q ≤ x := by rw [hQ]; exact Nat.div_le_self _ _
  have HQ := Lib.hid hQ
  have t3 : IntKind.i64.wrap (Q : Int) = (Q : Int) := IntWalk.i64_in _ (by omega)
  have t4 : (Q : Int).tmod 2 = ((Q % 2 : Nat) : Int) := by rw [Int.tmod_eq_emod_of_nonneg (by omega)]; omega
  have t5 : IntKind.i64.wrap ((Q % 2 : Nat) : Int) = ((Q % 2 : Nat) : Int) := IntWalk.i64_in _ (by omega)
  have s1 : IntKind.i64.wrap ((i : Int) / 8) = (i : Int) / 8 := IntWalk.i64_in _ (by omega)
  have s2 : ((i : Int) / 8).toNat = i / 8 := by omega
  have s3 : IntKind.i64.wrap ((i : Int) % 8) = (i : Int) % 8 := IntWalk.i64_in _ (by omega)
  have s4 : IntKind.i64.wrap (7 - (i : Int) % 8) = 7 - (i : Int) % 8 := IntWalk.i64_in _ (by omega)
  have s5 : IntKind.i64.wrap (x : Int) = (x : Int) := IntWalk.i64_in _ (by omega)
  have s6 : (i : Int).tmod 8 = (i : Int) % 8 := Int.tmod_eq_emod_of_nonneg (by omega)
  clear hc hd hx e7 h hP hQ
  go_enter Try.func48, Try.ntmps48
  go_wp2
  go_quiet ((go_at_call 25; exact Calls.quiet_of_same (HPow.out _)))
  go_wp2
  go_ret
  refine ⟨ret_int ?_, belowN (Below.refl _ _) nq⟩
  unfold bitAt
  rw [← HX.out, ← HP.out, ← HQ.out]
  omega

set_option maxHeartbeats 400000 in
/-- Bits of a valid bit string: the list of its bits. -/
theorem bits_any {A : Option Addr} {n c : Nat} {l : List Nat} {w : World} (h : Rd w A n c (bcells (pack l))) (h01 : Is01 l) (hl : l.length ≤ 131072) (ci : Int) (hci : ci = (l.length : Nat)) :
    Calls Try.prog 22 #[.agg #[.slice A n c, .int .i64 ci]] w fun e w' => ∃ A' c', e = .returned (.slice A' l.length c') ∧ w'.ownsRow w.heap.size 3 1 (.slice A' l.length c') l.length (ncells l) ∧ Below w.heap.size w w' := by
  subst hci
  obtain ⟨i0, hi, hz0, hz1, hz2⟩ := info_parts int_info
  have hn := h.len
  rw [bcells_length, pack_length] at hn
  have HN := Lib.hid hn
  have H01 := Lib.hid h01
  have B0 := Two.new w 25 (.slice A n c) (.int .i64 l.length)
  have y0 : Below w.heap.size w (w.alloc (.cells #[.slice A n c, .int .i64 l.length] 25)) := (Below.refl _ _).alloc (Nat.le_refl _) _
  clear hn h01
  go_enter Try.func22, Try.ntmps22
  go_wp2
  go_loopw [3, 4] (fun s i wr => ∃ k : Nat, k ≤ l.length ∧ i = .int .i64 k ∧ Two wr w.heap.size 25 (.slice A n c) (.int .i64 l.length) ∧ Below w.heap.size w wr ∧ ∃ A' c', s = .slice A' k c' ∧
      wr.ownsRow w.heap.size 3 1 (.slice A' k c') k (ncells (l.take k))) (fun _ i _ => l.length - (intOf i).toNat)
  case atStart => exact ⟨0, Nat.zero_le _, rfl, B0, y0, none, 0, rfl, by simpa [ncells] using World.ownsRow_nil _ _ _ _⟩
  case round =>
    obtain ⟨k, hk, rfl, BR, yr, A', c', rfl, ho⟩ := hrel
    have m0 := BR.c0
    have m1 := BR.c1
    clear B0 y0
    by_cases hlt : k < l.length
    · have hin : k < 8 * n := by have := HN.out; omega
      obtain ⟨b, hb⟩ : ∃ b, b = l.getD k 0 := ⟨_, rfl⟩
      have hbb : bitAt (pack l) k = b := by rw [bitAt_pack H01.out, hb]
      have HS := Lib.hid (show ncells (l.take (k + 1)) = ncells (l.take k) ++ [.int .i64 b] by rw [List.take_succ_eq_append_getElem hlt, ncells_append, hb, getD_lt hlt]; rfl)
      have HBit := Lib.hid (show ∀ W, Rd W A n c (bcells (pack l)) → Calls Try.prog 48 #[.slice A n c, .int .i64 k] W fun e w' => e = .returned (.int .i64 b) ∧ Below W.heap.size W w' from fun W hW => by
        rw [← hbb]; exact bit_any k _ rfl hW (pack_lt H01.out) hin)
      have hR : Rd wr A n c (bcells (pack l)) := h.on yr
      have ysz := yr.size
      clear hb hbb
      go_wp2_with fail
      refine (HBit.out _ hR).mono ?_
      rintro e w3 ⟨rfl, y3⟩
      have ho3 := own_on ho y3
      have B3 := BR.on y3
      have Y3 := yr.trans (y3.mono yr.size)
      have Y3s := Y3.size
      go_wp2_with (at_builtin; refine wpList_append_lies _ rfl _ _ _ rfl w.heap.size 3 i0 _ 1 8 Try.underlying34 hi hz0 hz1 hz2 rfl (by omega) (.slice A' k c') k (ncells (l.take k)) rfl (ho3.alloc _) ⟨w3.heap.size, 0, none⟩ 1 1 [.int .i64 b] rfl rfl ?c1 ?c2 ?c3 ?c4 ?c5 ?c6 (w3.heap.size + 1) ?c7 ?_)
      case c1 => exact one_new _ _ rfl _ _
      case c2 => intro u hu; simp at hu; subst hu; rfl
      case c3 => decide
      case c4 => unfold maxLen; omega
      case c5 => omega
      case c6 => simp; omega
      case c7 => simp
      intro g cap w4 ho4 hg4 hat hlt4
      go_wp2
      go_roundw
      case rel =>
        have hq := own_two_ne ho3 B3 (by decide)
        refine ⟨k + 1, by omega, by go_num, (B3.alloc _).grown hg4 hq.symm, (Y3.alloc Y3s _).grown hg4 (by simp; omega) (fun q hq => (ho3.lt q hq).1), some ⟨g, 0, none⟩, cap, rfl, ?_⟩
        rw [HS.out]
        exact ho4
      case measure => simp [intOf]; omega
    · obtain rfl : k = l.length := by omega
      go_wp2
      go_ret
      exact ⟨A', c', rfl, by simpa using ho, yr⟩
end PB
end Go.Proofs.Ytnnpkajmheglgaa
