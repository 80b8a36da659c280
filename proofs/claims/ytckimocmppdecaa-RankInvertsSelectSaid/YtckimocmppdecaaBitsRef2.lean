/-
  The reference's functions on bits: BitsOk, Packed.
-/
import Derived.Test.YtckimocmppdecaaRows
import Derived.Test.YtckimocmppdecaaBitsRef
namespace Go.Proofs.Ytckimocmppdecaa
open Go.RowKit
set_option linter.unusedVariables false
set_option linter.unusedSimpArgs false
namespace PB
set_option maxHeartbeats 800000 in
theorem bitsok_any {A : Option Addr} {n c : Nat} {d : List Nat} {cnt : Int} {w : World} (h : Rd w A n c (bcells d)) (hd : ∀ k, d.getD k 0 < 256) (hlo : -9223372036854775808 ≤ cnt) (hhi : cnt ≤ 9223372036854775807) (r : Bool) (hok : r = true ↔ Ok d cnt) :
    Calls Try.prog 13 #[.agg #[.slice A n c, .int .i64 cnt]] w fun e w' => e = .returned (.bool r) ∧ Below w.heap.size w w' := by
  have hl := h.len
  rw [bcells_length] at hl
  have hcm := Reads.capMax h
  have hcap := Reads.cap h
  unfold maxLen at hcm
  have y0 : Below w.heap.size w (w.alloc (.cells #[.slice A n c, .int .i64 cnt] 24)) := (Below.refl _ _).alloc (Nat.le_refl _) _
  have B0 := Two.new w 24 (.slice A n c) (.int .i64 cnt)
  by_cases k0 : cnt < 0 ∨ 131072 < cnt
  · obtain rfl : r = false := by
      cases r
      · rfl
      · obtain ⟨a, b, _⟩ := hok.1 rfl; omega
    clear hok hl
    go_enter Try.func13, Try.ntmps13
    go_wp2_with fail
    refine (in_no cnt 0 131072 _ k0).mono ?_
    rintro e w9 ⟨rfl, rfl⟩
    go_wp2
    go_ret
    exact ⟨rfl, y0⟩
  have hin1 : 0 ≤ cnt := by omega
  have hin2 : cnt ≤ 131072 := by omega
  by_cases k2 : (d.length : Int) = (cnt + 7) / 8
  case neg =>
    obtain rfl : r = false := by
      cases r
      · rfl
      · exact absurd (hok.1 rfl).2.2.1 k2
    have kk3 : ((n : Int) != (cnt + 7) / 8) = true := by rw [bne_iff_ne]; omega
    clear hok hl k2
    go_enter Try.func13, Try.ntmps13
    go_wp2_with fail
    refine (in_yes cnt 0 131072 _ hin1 hin2).mono ?_
    rintro e w9 ⟨rfl, rfl⟩
    go_wp2
    go_ret
    exact ⟨rfl, y0⟩
  have kk3 : ((n : Int) != (cnt + 7) / 8) = false := by rw [bne_eq_false_iff_eq]; omega
  obtain ⟨m, rfl⟩ := Int.eq_ofNat_of_zero_le hin1
  have hrest : r = true ↔ RestZero d m := by
    rw [hok, rest_iff d m hd (by omega)]
    constructor
    · rintro ⟨_, _, _, h4⟩
      rcases h4 with h4 | h4
      · left; omega
      · right; rwa [show ((m : Int) % 8).toNat = m % 8 by omega] at h4
    · intro h4
      refine ⟨by omega, by omega, k2, ?_⟩
      rcases h4 with h4 | h4
      · left; omega
      · right; rwa [show ((m : Int) % 8).toNat = m % 8 by omega]
  have HR := Lib.hid hrest
  have HL := Lib.hid hl
  have hn1 : n ≤ 20000 := by omega
  clear hok hrest hl k2 k0
  go_enter Try.func13, Try.ntmps13
  go_wp2_with fail
  refine (in_yes m 0 131072 _ hin1 hin2).mono ?_
  rintro e w9 ⟨rfl, rfl⟩
  go_wp2_with fail
  go_loopw [3] (fun i wr => ∃ k : Nat, i = .int .i64 ((m + k : Nat) : Int) ∧ (0 < k → m + k ≤ 8 * n) ∧ (∀ j, m ≤ j → j < m + k → bitAt d j = 0) ∧ Two wr w.heap.size 24 (.slice A n c) (.int .i64 m) ∧ Below w.heap.size w wr) (fun i _ => 8 * n - (intOf i).toNat)
  case atStart => exact ⟨0, by go_num, by omega, by intro j h1 h2; omega, B0, y0⟩
  case round =>
    obtain ⟨k, rfl, hk, hz, BR, yr⟩ := hrel
    have HZ := Lib.hid hz
    have m0 := BR.c0
    have m1 := BR.c1
    clear hz B0 y0
    by_cases hlt : m + k < 8 * n
    · obtain ⟨b, hb⟩ : ∃ b, b = bitAt d (m + k) := ⟨_, rfl⟩
      have HBit := Lib.hid (show ∀ W, Rd W A n c (bcells d) → Calls Try.prog 35 #[.slice A n c, .int .i64 ((m : Int) + (k : Int))] W fun e w' => e = .returned (.int .i64 b) ∧ Below W.heap.size W w' from fun W hW => by
        rw [hb]; exact bit_any (m + k) _ (by omega) hW hd hlt)
      have HB := Lib.hid hb
      have hR : Rd wr A n c (bcells d) := h.on yr
      clear hb
      by_cases hb0 : b = 0
      · have q : ((b : Int) != 0) = false := by rw [bne_eq_false_iff_eq]; omega
        have H0 := Lib.hid hb0
        clear hb0
        go_wp2_with fail
        refine (HBit.out _ hR).mono ?_
        rintro e w3 ⟨rfl, y3⟩
        go_wp2
        go_roundw
        case rel =>
          refine ⟨k + 1, by go_num, by omega, fun j h1 h2 => ?_, BR.on y3, yr.trans (y3.mono yr.size)⟩
          rcases Nat.lt_or_ge j (m + k) with h3 | h3
          · exact HZ.out j h1 h3
          · obtain rfl : j = m + k := by omega
            rw [← HB.out, H0.out]
        case measure => simp [intOf]; omega
      · have q : ((b : Int) != 0) = true := by rw [bne_iff_ne]; omega
        have H0 := Lib.hid hb0
        clear hb0
        go_wp2_with fail
        refine (HBit.out _ hR).mono ?_
        rintro e w3 ⟨rfl, y3⟩
        go_wp2
        go_ret
        refine ⟨ret_bool ?_, yr.trans (y3.mono yr.size)⟩
        cases hr : r
        · rfl
        · have := (HR.out.1 hr) (m + k) (by omega) (by rw [HL.out]; exact hlt)
          rw [← HB.out] at this
          exact absurd this H0.out
    · go_wp2
      go_ret
      refine ⟨ret_bool (HR.out.2 fun i h1 h2 => HZ.out i h1 ?_).symm, yr⟩
      rw [HL.out] at h2
      omega

/-- The number of the first r bits of byte j, from the left. -/
def pacc (l : List Nat) (j : Nat) : Nat → Nat
  | 0 => 0
  | r + 1 => 2 * pacc l j r + l.getD (8 * j + r) 0
theorem pacc_lt {l : List Nat} (h : Is01 l) (j : Nat) : ∀ r, pacc l j r < 2 ^ r
  | 0 => by simp [pacc]
  | r + 1 => by
    have := pacc_lt h j r
    have := h (8 * j + r)
    simp only [pacc, Nat.pow_succ]; omega
theorem pacc_byte (l : List Nat) (j : Nat) : pacc l j 8 = pbyte l j := by
  simp only [pacc, pbyte, Nat.add_zero]; omega
end PB
end Go.Proofs.Ytckimocmppdecaa
