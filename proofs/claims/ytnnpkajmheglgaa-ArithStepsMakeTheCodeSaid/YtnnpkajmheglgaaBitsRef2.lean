/-
  The reference's functions on bits: BitsOk, Packed.
-/
import Derived.Test.YtnnpkajmheglgaaRows
import Derived.Test.YtnnpkajmheglgaaBitsRef
namespace Go.Proofs.Ytnnpkajmheglgaa
open Go.RowKit
set_option linter.unusedVariables false
set_option linter.unusedSimpArgs false
namespace PB
set_option maxHeartbeats 800000 in
theorem bitsok_any {A : Option Addr} {n c : Nat} {d : List Nat} {cnt : Int} {w : World} (h : Rd w A n c (bcells d)) (hd : ∀ k, d.getD k 0 < 256) (hlo : -9223372036854775808 ≤ cnt) (hhi : cnt ≤ 9223372036854775807) (r : Bool) (hok : r = true ↔ Ok d cnt) :
    Calls Try.prog 18 #[.agg #[.slice A n c, .int .i64 cnt]] w fun e w' => e = .returned (.bool r) ∧ Below w.heap.size w w' := by
  have hl := h.len
  rw [bcells_length] at hl
  have hcm := Reads.capMax h
  have hcap := Reads.cap h
  unfold maxLen at hcm
  have y0 : Below w.heap.size w (w.alloc (.cells #[.slice A n c, .int .i64 cnt] 25)) := (Below.refl _ _).alloc (Nat.le_refl _) _
  have B0 := Two.new w 25 (.slice A n c) (.int .i64 cnt)
  by_cases k0 : cnt < 0 ∨ 131072 < cnt
  · obtain rfl : r = false := by
      cases r
      · rfl
      · obtain ⟨a, b, _⟩ := hok.1 rfl; omega
    clear hok hl
    go_enter Try.func18, Try.ntmps18
    go_wp2_with fail
    refine (in_no cnt 0 131072 _ k0).mono ?_
    rintro e w9 ⟨rfl, rfl⟩
    go_wp2
    go_ret
    exact ⟨rfl, y0⟩
  have hin1 : 0 ≤ cnt := by omega
  have hin2 : cnt ≤ 131072 := by omega
  by_cases k2 : (d.length : Int) = (cnt + 7) / 8
  case neg =>
    obtain rfl : r = false := by
      cases r
      · rfl
      · exact absurd (hok.1 rfl).2.2.1 k2
    have kk3 : ((n : Int) != (cnt + 7) / 8) = true := by rw [bne_iff_ne]; omega
    clear hok hl k2
    go_enter Try.func18, Try.ntmps18
    go_wp2_with fail
    refine (in_yes cnt 0 131072 _ hin1 hin2).mono ?_
    rintro e w9 ⟨rfl, rfl⟩
    go_wp2
    go_ret
    exact ⟨rfl, y0⟩
  have kk3 : ((n : Int) != (cnt + 7) / 8) = false := by rw [bne_eq_false_iff_eq]; omega
  obtain ⟨m, rfl⟩ := Int.eq_ofNat_of_zero_le hin1
  have hrest : r = true ↔ RestZero d m := by
    rw [hok, rest_iff d m hd (by omega)]
    constructor
    · rintro ⟨_, _, _, h4⟩
      rcases h4 with h4 | h4
      · left; omega
      · right; rwa [show ((m : Int) % 8).toNat = m % 8 by omega] at h4
    · intro h4
      refine ⟨by omega, by omega, k2, ?_⟩
      rcases h4 with h4 | h4
      · left; omega
      · right; rwa [show ((m : Int) % 8).toNat = m % 8 by omega]
  have HR := Lib.hid hrest
  have HL := Lib.hid hl
  have hn1 : n ≤ 20000 := by omega
  clear hok hrest hl k2 k0
  go_enter Try.func18, Try.ntmps18
  go_wp2_with fail
  refine (in_yes m 0 131072 _ hin1 hin2).mono ?_
  rintro e w9 ⟨rfl, rfl⟩
  go_wp2_with fail
  go_loopw [3] (fun i wr => ∃ k : Nat, i = .int .i64 ((m + k : Nat) : Int) ∧ (0 < k → m + k ≤ 8 * n) ∧ (∀ j, m ≤ j → j < m + k → bitAt d j = 0) ∧ Two wr w.heap.size 25 (.slice A n c) (.int .i64 m) ∧ Below w.heap.size w wr) (fun i _ => 8 * n - (intOf i).toNat)
  case atStart => exact ⟨0, by go_num, by omega, by intro j h1 h2; omega, B0, y0⟩
  case round =>
    obtain ⟨k, rfl, hk, hz, BR, yr⟩ := hrel
    have HZ := Lib.hid hz
    have m0 := BR.c0
    have m1 := BR.c1
    clear hz B0 y0
    by_cases hlt : m + k < 8 * n
    · obtain ⟨b, hb⟩ : ∃ b, b = bitAt d (m + k) := ⟨_, rfl⟩
      have HBit := Lib.hid (show ∀ W, Rd W A n c (bcells d) → Calls Try.prog 48 #[.slice A n c, .int .i64 ((m : Int) + (k : Int))] W fun e w' => e = .returned (.int .i64 b) ∧ Below W.heap.size W w' from fun W hW => by
        rw [hb]; exact bit_any (m + k) _ (by omega) hW hd hlt)
      have HB := Lib.hid hb
      have hR : Rd wr A n c (bcells d) := h.on yr
      clear hb
      by_cases hb0 : b = 0
      · have q : ((b : Int) != 0) = false := by rw [bne_eq_false_iff_eq]; omega
        have H0 := Lib.hid hb0
        clear hb0
        go_wp2_with fail
        refine (HBit.out _ hR).mono ?_
        rintro e w3 ⟨rfl, y3⟩
        go_wp2
        go_roundw
        case rel =>
          refine ⟨k + 1, by go_num, by omega, fun j h1 h2 => ?_, BR.on y3, yr.trans (y3.mono yr.size)⟩
          rcases Nat.lt_or_ge j (m + k) with h3 | h3
          · exact HZ.out j h1 h3
          · obtain rfl : j = m + k := by omega
            rw [← HB.out, H0.out]
        case measure => simp [intOf]; omega
      · have q : ((b : Int) != 0) = true := by rw [bne_iff_ne]; omega
        have H0 := Lib.hid hb0
        clear hb0
        go_wp2_with fail
        refine (HBit.out _ hR).mono ?_
        rintro e w3 ⟨rfl, y3⟩
        go_wp2
        go_ret
        refine ⟨ret_bool ?_, yr.trans (y3.mono yr.size)⟩
        cases hr : r
        · rfl
        · have := (HR.out.1 hr) (m + k) (by omega) (by rw [HL.out]; exact hlt)
          rw [← HB.out] at this
          exact absurd this H0.out
    · go_wp2
      go_ret
      refine ⟨ret_bool (HR.out.2 fun i h1 h2 => HZ.out i h1 ?_).symm, yr⟩
      rw [HL.out] at h2
      omega

/-- The number of the first r bits of byte j, from the left. -/
def pacc (l : List Nat) (j : Nat) : Nat → Nat
  | 0 => 0
  | r + 1 => 2 * pacc l j r + l.getD (8 * j + r) 0
theorem pacc_lt {l : List Nat} (h : Is01 l) (j : Nat) : ∀ r, pacc l j r < 2 ^ r
  | 0 => by simp [pacc]
  | r + 1 => by
    have := pacc_lt h j r
    have := h (8 * j + r)
    simp only [pacc, Nat.pow_succ]; omega
theorem pacc_byte (l : List Nat) (j : Nat) : pacc l j 8 = pbyte l j := by
  simp only [pacc, pbyte, Nat.add_zero]; omega
set_option maxRecDepth 100000 in
set_option maxHeartbeats 1600000 in
theorem packed_own {A : Option Addr} {c : Nat} {l : List Nat} {w : World} (n : Nat) (hn : n = l.length) (h : Rd w A n c (ncells l)) (h01 : Is01 l) (hl : l.length ≤ 1000000) :
    Calls Try.prog 15 #[.slice A n c] w fun e w' => ∃ A' n' c', e = .returned (.agg #[.slice A' n' c', .int .i64 n]) ∧ w'.ownsRow w.heap.size 5 1 (.slice A' n' c') n' (bcells (pack l)) ∧ Below w.heap.size w w' := by
  obtain ⟨i0, hi, hz0, hz1, hz2⟩ := info_parts byte_info
  have HN := Lib.hid hn
  have hn1 : n ≤ 1000000 := by omega
  have H01 := Lib.hid h01
  have X0 := Two.new w 25 (.slice none 0 0) (.int .i64 0)
  have y0 : Below w.heap.size w (w.alloc (.cells #[.slice none 0 0, .int .i64 0] 25)) := (Below.refl _ _).alloc (Nat.le_refl _) _
  clear hn h01 hl
  go_enter Try.func15, Try.ntmps15
  go_wp2_with fail
  go_loopw [3, 4] (fun s i wr => ∃ j : Nat, j ≤ (n + 7) / 8 ∧ i = .int .i64 ((8 * j : Nat) : Int) ∧ Two wr w.heap.size 25 (.slice none 0 0) (.int .i64 0) ∧ Below w.heap.size w wr ∧ ∃ A' c', s = .slice A' j c' ∧
      wr.ownsRow w.heap.size 5 1 (.slice A' j c') j (bcells ((pack l).take j))) (fun _ i _ => n + 8 - (intOf i).toNat)
  case atStart => exact ⟨0, Nat.zero_le _, by go_num, X0, y0, none, 0, rfl, by simpa [bcells] using World.ownsRow_nil _ _ _ _⟩
  case round =>
    obtain ⟨j, hj, rfl, BR, yr, A', c', rfl, ho⟩ := hrel
    clear X0 y0
    obtain ⟨wo, hwo⟩ : ∃ wo : World, wo = wr := ⟨_, rfl⟩
    rw [← hwo] at BR yr ho ⊢
    clear hwo
    by_cases hlt : 8 * j < n
    · go_wp2_with fail
      go_loop [5, 6] (fun a k => ∃ r : Nat, r ≤ 8 ∧ k = .int .i64 ((8 * j + r : Nat) : Int) ∧ a = .int .i64 (pacc l j r : Nat)) (fun _ k => 8 * j + 8 - (intOf k).toNat)
      case atStart => exact ⟨0, by omega, by go_num, rfl⟩
      case round =>
        obtain ⟨r, hr, rfl, rfl⟩ := hrel
        have hp := pacc_lt H01.out j r
        have hp8 : 2 ^ r ≤ 2 ^ 8 := Nat.pow_le_pow_right (by decide) hr
        obtain ⟨a, ha⟩ : ∃ a, a = pacc l j r := ⟨_, rfl⟩
        rw [← ha] at hp ⊢
        have ha256 : a < 256 := by omega
        have HA := Lib.hid ha
        clear ha hp hp8
        by_cases hr8 : r < 8
        · by_cases hin : 8 * j + r < n
          · obtain ⟨b, off, hA, hb, hc⟩ := (h.on yr).2.2.2 (by omega)
            have hrl : 8 * j + r < l.length := by have := HN.out; omega
            have hcell := hc (8 * j + r) _ (ncells_get l (8 * j + r) hrl)
            obtain ⟨x, hx⟩ : ∃ x, x = l.getD (8 * j + r) 0 := ⟨_, rfl⟩
            rw [← hx] at hcell
            have hx2 : x < 2 := by rw [hx]; exact H01.out _
            have HX := Lib.hid hx
            have hcap := Reads.cap h
            have hcm := Reads.capMax h
            unfold maxLen at hcm
            subst hA
            clear hx hc
            go_wp2
            go_round
            case rel => exact ⟨r + 1, by omega, by go_num, congrArg (Value.int .i64) (by simp only [pacc]; rw [← HA.out, ← HX.out]; omega)⟩
            case measure => simp [intOf]; omega
          · have hz : l.getD (8 * j + r) 0 = 0 := getD_ge (by have := HN.out; omega)
            have HZ := Lib.hid hz
            clear hz
            go_wp2
            go_round
            case rel => exact ⟨r + 1, by omega, by go_num, congrArg (Value.int .i64) (by simp only [pacc]; rw [← HA.out, HZ.out]; omega)⟩
            case measure => simp [intOf]; omega
        · obtain rfl : r = 8 := by omega
          have hjk : j + 1 ≤ 200000 := by omega
          have hbase : w.heap.size ≤ wo.heap.size := yr.size
          have HS := Lib.hid (show bcells ((pack l).take (j + 1)) = bcells ((pack l).take j) ++ [.int .u8 a] by
            have hpl : j < (pack l).length := by have := HN.out; rw [pack_length]; omega
            rw [List.take_succ_eq_append_getElem hpl, bcells_append, HA.out, pacc_byte, ← getD_lt hpl, pack_getD_any]; rfl)
          go_wp2_with (at_builtin; refine wpList_append_lies _ rfl _ _ _ rfl w.heap.size 5 i0 _ 1 1 Try.underlying23 hi hz0 hz1 hz2 rfl (by omega) (.slice A' j c') j (bcells ((pack l).take j)) rfl (ho.alloc _) ⟨wo.heap.size, 0, none⟩ 1 1 [.int .u8 a] rfl rfl ?c1 ?c2 ?c3 ?c4 ?c5 ?c6 (wo.heap.size + 1) ?c7 ?_)
          case c2 => first | rfl | (intro u hu; simp at hu; subst hu; rfl) | (simp; done)
          case c4 => first | omega | (unfold maxLen; omega)
          case c5 => omega
          case c6 => first | omega | (simp; omega)
          intro g cap w4 ho4 hg4 hat hlt4
          go_wp2
          go_roundw
          case rel =>
            have hq := own_two_ne ho BR (by decide)
            refine ⟨j + 1, by omega, by go_num, (BR.alloc _).grown hg4 hq.symm, (yr.alloc hbase _).grown hg4 (by simp; omega) (fun q hq => (ho.lt q hq).1), some ⟨g, 0, none⟩, cap, rfl, ?_⟩
            rw [HS.out]
            exact ho4
          case measure => simp [intOf]; omega
    · have hjn : j = (n + 7) / 8 := by omega
      have HJ := Lib.hid hjn
      clear hjn
      obtain ⟨m0, m1, m2, m3, m4⟩ := BR.facts
      go_wp2_with fail
      have hBk := (BR.set0 (.slice A' j c')).set1 (.int .i64 n)
      have r0 := hBk.c0
      have r1 := hBk.c1
      have hq := own_two_ne ho BR (by decide)
      refine bodyPost_ret (v := .agg #[.slice A' j c', .int .i64 n]) (by simp [results, Try.results15, go_sem, r0, r1]) rfl ⟨A', j, c', rfl, ?_, (yr.setCell (by simp) _).setCell (by simp) _⟩
      have ho5 := own_far_any (own_far_any ho (p := ⟨w.heap.size, 0, none⟩) hq (.slice A' j c')) (p := ⟨w.heap.size, 1, none⟩) hq (.int .i64 n)
      have e : (pack l).take j = pack l := List.take_of_length_le (by rw [pack_length, ← HN.out, HJ.out]; exact Nat.le_refl _)
      rw [e] at ho5
      exact ho5
theorem packed_any {A : Option Addr} {c : Nat} {l : List Nat} {w : World} (n : Nat) (hn : n = l.length) (h : Rd w A n c (ncells l)) (h01 : Is01 l) (hl : l.length ≤ 1000000) :
    Calls Try.prog 15 #[.slice A n c] w fun e w' => ∃ A' n' c', e = .returned (.agg #[.slice A' n' c', .int .i64 n]) ∧ Rd w' A' n' c' (bcells (pack l)) ∧ Below w.heap.size w w' :=
  (packed_own n hn h h01 hl).mono fun e w' ⟨A', n', c', h1, h2, h3⟩ => ⟨A', n', c', h1, Rd.own h2, h3⟩
end PB
end Go.Proofs.Ytnnpkajmheglgaa
