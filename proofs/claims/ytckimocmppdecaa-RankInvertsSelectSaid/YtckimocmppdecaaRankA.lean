/-
  package rank: bit, sums, rank; slices.Clone and slices.Equal at the types that it uses; the reference's OnesBefore, Place, Ints.
-/
import Derived.Test.YtckimocmppdecaaRows
import Derived.Test.YtckimocmppdecaaRankPlain
import Derived.Test.YtckimocmppdecaaRankMem
import Derived.WalkSpells
import Derived.Lib.SliceRun
import Derived.BigQuiet
namespace Go.Proofs.Ytckimocmppdecaa
open Go.RowKit
attribute [local go_sem ↓] Go.wp_at_zero Go.wp_at_succ
set_option linter.unusedVariables false
set_option linter.unusedSimpArgs false
namespace PB
set_option maxHeartbeats 400000 in
/-- rank.bit: the bit at a position. -/
theorem rbit_any (A : Option Addr) (n c : Nat) (l : List Nat) (cnt : Int) (i b : Nat) (ii : Int) (hii : ii = (i : Nat)) (w : World) (h : Rd w A n c (bcells (pack l))) (h01 : Is01 l) (hi : i < l.length) (hb : b = l.getD i 0) :
    Calls Try.prog 42 #[.agg #[.slice A n c, .int .i64 cnt], .int .i64 ii] w fun e w' => e = .returned (.int .i64 b) ∧ Below w.heap.size w w' := by
  subst hii
  have hn := h.len
  rw [bcells_length, pack_length] at hn
  obtain ⟨g, off, rfl, hg, hc⟩ := Reads.byte h (by omega)
  have hcell := hc (i / 8) (by omega)
  have hcm := Reads.capMax h
  have hcap := Reads.cap h
  unfold maxLen at hcm
  have hcell' : ∀ o, (w.alloc o).cell? ⟨g, off + i / 8, none⟩ = some (.int .u8 (((pack l).getD (i / 8) 0 : Nat) : Int)) := fun o => (World.cell?_alloc_lt _ _ _ hg).trans hcell
  have hx := pack_lt h01 (i / 8)
  have HB := Lib.hid (show bitAt (pack l) i = b by rw [bitAt_pack h01, hb])
  have hin : i < 8 * n := by omega
  clear hc h hb hn
  go_enter Try.func42, Try.ntmps42
  go_wp2
  go_ret
  refine ⟨ret_int ?_, (Below.refl _ _).alloc (Nat.le_refl _) _⟩
  rw [List.getD_eq_getElem?_getD] at hx
  rw [shr_and_wrap _ _ hx, ← HB.out]
  unfold bitAt
  rw [List.getD_eq_getElem?_getD]
set_option maxHeartbeats 800000 in
/-- rank.sums: the ones before every 64th position. -/
theorem sums_any {A : Option Addr} {n c : Nat} {l : List Nat} {w : World} (h : Rd w A n c (bcells (pack l))) (h01 : Is01 l) (hl : l.length ≤ 131072) (ci : Int) (hci : ci = (l.length : Nat)) :
    Calls Try.prog 32 #[.agg #[.slice A n c, .int .i64 ci]] w fun e w' => ∃ A' c', e = .returned (.slice A' (l.length / 64 + 1) c') ∧ w'.ownsRow w.heap.size 3 1 (.slice A' (l.length / 64 + 1) c') (l.length / 64 + 1) (ncells (sumsL l)) ∧ Below w.heap.size w w' := by
  subst hci
  obtain ⟨i0, hi, hz0, hz1, hz2⟩ := info_parts int_info
  have H01 := Lib.hid h01
  have HON := Lib.hid (fun k => ones_take_le2 h01 k)
  have B0 := Two.new w 24 (.slice A n c) (.int .i64 (l.length : Nat))
  have y0 : Below w.heap.size w (w.alloc (.cells #[.slice A n c, .int .i64 (l.length : Nat)] 24)) := (Below.refl _ _).alloc (Nat.le_refl _) _
  clear h01
  go_enter Try.func32, Try.ntmps32
  go_wp2
  go_loopw [3, 4, 9] (fun s t i wr => ∃ k m : Nat, k ≤ l.length + 1 ∧ m = (k + 63) / 64 ∧ i = .int .i64 k ∧ t = .int .i64 (ones (l.take k) : Nat) ∧ Two wr w.heap.size 24 (.slice A n c) (.int .i64 (l.length : Nat)) ∧ Below w.heap.size w wr ∧ ∃ A' c', s = .slice A' m c' ∧
      wr.ownsRow w.heap.size 3 1 (.slice A' m c') m (ncells ((sumsL l).take m))) (fun _ _ i _ => l.length + 1 - (intOf i).toNat)
  case atStart => exact ⟨0, 0, by omega, by omega, rfl, rfl, B0, y0, none, 0, rfl, by simpa [ncells] using World.ownsRow_nil _ _ _ _⟩
  case round =>
    obtain ⟨k, m, hk, hm, rfl, rfl, BR, yr, A1, c1, rfl, ho⟩ := hrel
    clear B0 y0
    have hT := HON.out k
    obtain ⟨T, hTT⟩ : ∃ T, T = ones (l.take k) := ⟨_, rfl⟩
    rw [← hTT] at hT ⊢
    have HT := Lib.hid hTT
    have m0 := BR.c0
    have m1 := BR.c1
    have ysz := yr.size
    clear hTT
    by_cases hlt : k < l.length + 1
    · have HM := Lib.hid hm
      have hm2 : m ≤ 4000 := by omega
      by_cases h64 : k % 64 = 0
      · have q64 : ((k : Int) % 64 == 0) = true := by rw [beq_iff_eq]; omega
        have hmk : m = k / 64 := by omega
        have HMM := Lib.hid (show m + 1 = (k + 1 + 63) / 64 by omega)
        have HS := Lib.hid (show ncells ((sumsL l).take (m + 1)) = ncells ((sumsL l).take m) ++ [.int .i64 (T : Nat)] by
          rw [sumsL_take_succ l m (by omega), ncells_append, HT.out, show 64 * m = k by omega]; rfl)
        clear hm hmk h64
        go_wp2_with (at_builtin; refine wpList_app1 _ rfl _ _ _ rfl w.heap.size 3 i0 _ 8 Try.underlying25 hi hz0 hz1 hz2 rfl _ _ _ rfl ho (.int .i64 (T : Nat)) rfl rfl ?c1 ?c2 ?c3 ?_)
        case c1 => unfold maxLen; omega
        case c2 => omega
        case c3 => exact ysz
        intro A4 c4 w4 ho4 hg4
        have B4 := BR.grown hg4 (own_two_ne ho BR (by decide)).symm
        have Y4 := below_grown yr ho hg4 (Nat.le_refl _) ysz
        have n0 := B4.c0
        have n1 := B4.c1
        rw [← HS.out] at ho4
        by_cases hlast : k < l.length
        · obtain ⟨b, hb⟩ : ∃ b, b = l.getD k 0 := ⟨_, rfl⟩
          have hb2 : b < 2 := by rw [hb]; exact H01.out _
          have HO := Lib.hid (show ones (l.take (k + 1)) = T + b by rw [ones_take_succ l k hlast, HT.out, hb])
          have HBit := Lib.hid (fun W (hW : Rd W A n c (bcells (pack l))) => rbit_any A n c l (l.length : Nat) k b _ rfl W hW H01.out hlast hb)
          have R4 : Rd w4 A n c (bcells (pack l)) := h.on Y4
          have HO4 := Lib.hid ho4
          clear hb ho4
          go_wp2_with fail
          refine (HBit.out _ R4).mono ?_
          rintro e w5 ⟨rfl, y5⟩
          go_wp2
          go_roundw
          case rel => exact ⟨k + 1, m + 1, by omega, HMM.out, by go_num, congrArg (Value.int .i64) (by rw [HO.out]; omega), B4.on y5, Y4.trans (y5.mono Y4.size), A4, c4, rfl, own_on HO4.out y5⟩
          case measure => simp [intOf]; omega
        · have HO := Lib.hid (show ones (l.take (k + 1)) = T by rw [HT.out, List.take_of_length_le (by omega), List.take_of_length_le (by omega)])
          have HO4 := Lib.hid ho4
          clear ho4
          go_wp2
          go_roundw
          case rel => exact ⟨k + 1, m + 1, by omega, HMM.out, by go_num, congrArg (Value.int .i64) (by rw [HO.out]), B4, Y4, A4, c4, rfl, HO4.out⟩
          case measure => simp [intOf]; omega
      · have q64 : ((k : Int) % 64 == 0) = false := by rw [beq_eq_false_iff_ne]; omega
        have hmm : m = (k + 1 + 63) / 64 := by omega
        have HMM := Lib.hid hmm
        clear hm hmm h64
        by_cases hlast : k < l.length
        · obtain ⟨b, hb⟩ : ∃ b, b = l.getD k 0 := ⟨_, rfl⟩
          have hb2 : b < 2 := by rw [hb]; exact H01.out _
          have HO := Lib.hid (show ones (l.take (k + 1)) = T + b by rw [ones_take_succ l k hlast, HT.out, hb])
          have HBit := Lib.hid (fun W (hW : Rd W A n c (bcells (pack l))) => rbit_any A n c l (l.length : Nat) k b _ rfl W hW H01.out hlast hb)
          have R4 : Rd wr A n c (bcells (pack l)) := h.on yr
          have HO4 := Lib.hid ho
          clear hb ho
          go_wp2_with fail
          refine (HBit.out _ R4).mono ?_
          rintro e w5 ⟨rfl, y5⟩
          go_wp2
          go_roundw
          case rel => exact ⟨k + 1, m, by omega, HMM.out, by go_num, congrArg (Value.int .i64) (by rw [HO.out]; omega), BR.on y5, yr.trans (y5.mono yr.size), A1, c1, rfl, own_on HO4.out y5⟩
          case measure => simp [intOf]; omega
        · have HO := Lib.hid (show ones (l.take (k + 1)) = T by rw [HT.out, List.take_of_length_le (by omega), List.take_of_length_le (by omega)])
          have HO4 := Lib.hid ho
          clear ho
          go_wp2
          go_roundw
          case rel => exact ⟨k + 1, m, by omega, HMM.out, by go_num, congrArg (Value.int .i64) (by rw [HO.out]), BR, yr, A1, c1, rfl, HO4.out⟩
          case measure => simp [intOf]; omega
    · obtain rfl : m = l.length / 64 + 1 := by omega
      have e : (sumsL l).take (l.length / 64 + 1) = sumsL l := List.take_of_length_le (by rw [sumsL_length]; exact Nat.le_refl _)
      rw [e] at ho
      clear e hm
      go_wp2
      go_ret
      exact ⟨A1, c1, rfl, ho, yr⟩
theorem icells_length (l : List Int) : (icells l).length = l.length := by simp [icells]
/-- Up to where two lists agree. -/
theorem same_upto (xs ys : List Int) (hl : xs.length = ys.length) : ∃ q, q ≤ xs.length ∧ (∀ i, i < q → xs[i]? = ys[i]?) ∧ (q < xs.length → xs[q]? ≠ ys[q]?) := by
  by_cases h : ∃ i, i < xs.length ∧ xs[i]? ≠ ys[i]?
  · obtain ⟨i0, h0⟩ := h
    induction i0 using Nat.strongRecOn with
    | _ i0 ih =>
      by_cases h1 : ∃ i, i < i0 ∧ i < xs.length ∧ xs[i]? ≠ ys[i]?
      · obtain ⟨i, hi, hh⟩ := h1
        exact ih i hi hh
      · refine ⟨i0, by omega, fun i hi => ?_, fun _ => h0.2⟩
        by_cases h4 : xs[i]? = ys[i]?
        · exact h4
        · exact absurd ⟨i, hi, by omega, h4⟩ h1
  · refine ⟨xs.length, Nat.le_refl _, fun i hi => ?_, fun h => absurd h (by omega)⟩
    by_cases h4 : xs[i]? = ys[i]?
    · exact h4
    · exact absurd ⟨i, hi, h4⟩ h
set_option maxHeartbeats 400000 in
/-- Ints: whether two lists are equal. -/
theorem ints_any {A : Option Addr} {n c : Nat} {xs : List Int} {A2 : Option Addr} {n2 c2 : Nat} {ys : List Int} {w : World} (h : Rd w A n c (icells xs)) (h2 : Rd w A2 n2 c2 (icells ys)) (r : Bool) (hr : r = decide (xs = ys)) :
    Calls Try.prog 34 #[.slice A n c, .slice A2 n2 c2] w fun e w' => e = .returned (.bool r) ∧ Below w.heap.size w w' := by
  have hn := h.len
  have hn2 := h2.len
  have hcap := Reads.cap h
  have hcm := Reads.capMax h
  have hcap2 := Reads.cap h2
  have hcm2 := Reads.capMax h2
  unfold maxLen at hcm hcm2
  rw [icells_length] at hn hn2
  by_cases hnn : n = n2
  case neg =>
    obtain rfl : r = false := by
      rw [hr, decide_eq_false_iff_not]
      rintro rfl
      omega
    have hne : ((n : Int) != (n2 : Int)) = true := by rw [bne_iff_ne]; omega
    clear hr hnn
    go_enter Try.func34, Try.ntmps34
    go_wp2
    go_ret
    exact ⟨rfl, Below.refl _ _⟩
  obtain ⟨q, hq, hsame, hend⟩ := same_upto xs ys (by omega)
  subst hnn
  have HS := Lib.hid hsame
  have HE := Lib.hid hend
  have HR := Lib.hid hr
  have HN := Lib.hid hn
  have HN2 := Lib.hid hn2
  have hqn : q ≤ n := by omega
  have hne : ((n : Int) != (n : Int)) = false := by simp
  clear hsame hend hr hn hn2 hq
  go_enter Try.func34, Try.ntmps34
  go_wp2
  go_loopw [5] (fun i wr => ∃ k : Nat, k ≤ q ∧ i = .int .i64 k ∧ Below w.heap.size w wr) (fun i _ => n - (intOf i).toNat)
  case atStart => exact ⟨0, Nat.zero_le _, rfl, Below.refl _ _⟩
  case round =>
    obtain ⟨k, hk, rfl, yr⟩ := hrel
    by_cases hlt : k < n
    · obtain ⟨g, off, rfl, hg, hc⟩ := (h.on yr).2.2.2 (by omega)
      obtain ⟨g2, off2, rfl, hg2, hc2⟩ := (h2.on yr).2.2.2 (by omega)
      obtain ⟨x, hx, cx⟩ : ∃ x, xs[k]? = some x ∧ wr.cell? ⟨g, off + k, none⟩ = some (.int .i64 x) := by
        have e : xs[k]? = some (xs[k]'(by rw [HN.out]; exact hlt)) := List.getElem?_eq_getElem _
        exact ⟨_, e, hc k _ (by rw [icells, List.getElem?_map, e]; rfl)⟩
      obtain ⟨y, hy, cy⟩ : ∃ y, ys[k]? = some y ∧ wr.cell? ⟨g2, off2 + k, none⟩ = some (.int .i64 y) := by
        have e : ys[k]? = some (ys[k]'(by rw [HN2.out]; exact hlt)) := List.getElem?_eq_getElem _
        exact ⟨_, e, hc2 k _ (by rw [icells, List.getElem?_map, e]; rfl)⟩
      have HX := Lib.hid hx
      have HY := Lib.hid hy
      clear hc hc2 hx hy
      have i1 : (0 : Int) ≤ (k : Int) := by omega
      have i2 : (k : Int) < (n : Int) := by omega
      by_cases hkq : k < q
      · have hxy : x = y := by
          have := HS.out k hkq
          rw [HX.out, HY.out] at this
          injection this
        have hb : (x != y) = false := by rw [hxy]; simp
        have HXY := Lib.hid hxy
        clear hxy
        go_wp2_with fail
        go_quiet (fail)
        go_wp2
        go_roundw
        case rel => exact ⟨k + 1, by omega, by go_num, belowN yr nq⟩
        case measure => simp [intOf]; omega
      · obtain rfl : k = q := by omega
        have hxy : x ≠ y := by
          intro e
          have := HE.out (by rw [HN.out]; exact hlt)
          rw [HX.out, HY.out, e] at this
          exact this rfl
        have hb : (x != y) = true := by rw [bne_iff_ne]; exact hxy
        have hrf : r = false := by
          rw [HR.out, decide_eq_false_iff_not]
          intro e
          have := HX.out
          rw [e, HY.out] at this
          injection this with this
          exact hxy this.symm
        have HRF := Lib.hid hrf
        clear hxy hrf
        go_wp2_with fail
        go_quiet (fail)
        go_wp2
        go_ret
        exact ⟨ret_bool HRF.out.symm, belowN yr nq⟩
    · obtain rfl : k = n := by omega
      have hrt : r = true := by
        rw [HR.out, decide_eq_true_eq]
        refine List.ext_getElem? fun i => ?_
        rcases Nat.lt_or_ge i k with hi | hi
        · exact HS.out i (by omega)
        · rw [List.getElem?_eq_none (by rw [HN.out]; exact hi), List.getElem?_eq_none (by rw [HN2.out]; exact hi)]
      have HRT := Lib.hid hrt
      clear hrt
      go_wp2
      go_ret
      exact ⟨ret_bool HRT.out.symm, yr⟩
set_option maxHeartbeats 400000 in
/-- slices.Equal at []int. -/
theorem equal_any {A : Option Addr} {n c : Nat} {xs : List Int} {A2 : Option Addr} {n2 c2 : Nat} {ys : List Int} {w : World} (h : Rd w A n c (icells xs)) (h2 : Rd w A2 n2 c2 (icells ys)) (r : Bool) (hr : r = decide (xs = ys)) :
    Calls Try.prog 33 #[.slice A n c, .slice A2 n2 c2] w fun e w' => e = .returned (.bool r) ∧ Below w.heap.size w w' := by
  have hn := h.len
  have hn2 := h2.len
  have hcap := Reads.cap h
  have hcm := Reads.capMax h
  have hcap2 := Reads.cap h2
  have hcm2 := Reads.capMax h2
  unfold maxLen at hcm hcm2
  rw [icells_length] at hn hn2
  by_cases hnn : n = n2
  case neg =>
    obtain rfl : r = false := by
      rw [hr, decide_eq_false_iff_not]
      rintro rfl
      omega
    have hne : ((n : Int) != (n2 : Int)) = true := by rw [bne_iff_ne]; omega
    clear hr hnn
    go_enter Try.func33, Try.ntmps33
    go_wp2
    go_ret
    exact ⟨rfl, Below.refl _ _⟩
  obtain ⟨q, hq, hsame, hend⟩ := same_upto xs ys (by omega)
  subst hnn
  have HS := Lib.hid hsame
  have HE := Lib.hid hend
  have HR := Lib.hid hr
  have HN := Lib.hid hn
  have HN2 := Lib.hid hn2
  have hqn : q ≤ n := by omega
  have hne : ((n : Int) != (n : Int)) = false := by simp
  clear hsame hend hr hn hn2 hq
  go_enter Try.func33, Try.ntmps33
  go_wp2
  go_loopw [13] (fun i wr => ∃ k : Nat, k ≤ q ∧ i = .int .i64 k ∧ Below w.heap.size w wr) (fun i _ => n - (intOf i).toNat)
  case atStart => exact ⟨0, Nat.zero_le _, rfl, Below.refl _ _⟩
  case round =>
    obtain ⟨k, hk, rfl, yr⟩ := hrel
    by_cases hlt : k < n
    · obtain ⟨g, off, rfl, hg, hc⟩ := (h.on yr).2.2.2 (by omega)
      obtain ⟨g2, off2, rfl, hg2, hc2⟩ := (h2.on yr).2.2.2 (by omega)
      obtain ⟨x, hx, cx⟩ : ∃ x, xs[k]? = some x ∧ wr.cell? ⟨g, off + k, none⟩ = some (.int .i64 x) := by
        have e : xs[k]? = some (xs[k]'(by rw [HN.out]; exact hlt)) := List.getElem?_eq_getElem _
        exact ⟨_, e, hc k _ (by rw [icells, List.getElem?_map, e]; rfl)⟩
      obtain ⟨y, hy, cy⟩ : ∃ y, ys[k]? = some y ∧ wr.cell? ⟨g2, off2 + k, none⟩ = some (.int .i64 y) := by
        have e : ys[k]? = some (ys[k]'(by rw [HN2.out]; exact hlt)) := List.getElem?_eq_getElem _
        exact ⟨_, e, hc2 k _ (by rw [icells, List.getElem?_map, e]; rfl)⟩
      have HX := Lib.hid hx
      have HY := Lib.hid hy
      clear hc hc2 hx hy
      have i1 : (0 : Int) ≤ (k : Int) := by omega
      have i2 : (k : Int) < (n : Int) := by omega
      by_cases hkq : k < q
      · have hxy : x = y := by
          have := HS.out k hkq
          rw [HX.out, HY.out] at this
          injection this
        have hb : (x != y) = false := by rw [hxy]; simp
        have HXY := Lib.hid hxy
        clear hxy
        go_wp2_with fail
        go_quiet (fail)
        go_wp2
        go_roundw
        case rel => exact ⟨k + 1, by omega, by go_num, belowN yr nq⟩
        case measure => simp [intOf]; omega
      · obtain rfl : k = q := by omega
        have hxy : x ≠ y := by
          intro e
          have := HE.out (by rw [HN.out]; exact hlt)
          rw [HX.out, HY.out, e] at this
          exact this rfl
        have hb : (x != y) = true := by rw [bne_iff_ne]; exact hxy
        have hrf : r = false := by
          rw [HR.out, decide_eq_false_iff_not]
          intro e
          have := HX.out
          rw [e, HY.out] at this
          injection this with this
          exact hxy this.symm
        have HRF := Lib.hid hrf
        clear hxy hrf
        go_wp2_with fail
        go_quiet (fail)
        go_wp2
        go_ret
        exact ⟨ret_bool HRF.out.symm, belowN yr nq⟩
    · obtain rfl : k = n := by omega
      have hrt : r = true := by
        rw [HR.out, decide_eq_true_eq]
        refine List.ext_getElem? fun i => ?_
        rcases Nat.lt_or_ge i k with hi | hi
        · exact HS.out i (by omega)
        · rw [List.getElem?_eq_none (by rw [HN.out]; exact hi), List.getElem?_eq_none (by rw [HN2.out]; exact hi)]
      have HRT := Lib.hid hrt
      clear hrt
      go_wp2
      go_ret
      exact ⟨ret_bool HRT.out.symm, yr⟩
set_option maxHeartbeats 400000 in
/-- slices.Clone at []byte. -/
theorem clone_any {A : Option Addr} {n c : Nat} {d : List Nat} {w : World} (h : Rd w A n c (bcells d)) (hnA : A = none → n = 0) (hl : n ≤ 200000) :
    Calls Try.prog 31 #[.slice A n c] w fun e w' => ∃ A' c', e = .returned (.slice A' n c') ∧ w'.ownsRow w.heap.size 5 1 (.slice A' n c') n (bcells d) ∧ Below w.heap.size w w' := by
  obtain ⟨i0, hi, hz0, hz1, hz2⟩ := info_parts byte_info
  have hnil := fun W => Lib.run_eql_slice_nil (P := Try.prog) W 22 5 A n c 0 0 Try.underlying22
  cases A with
  | none =>
    obtain rfl := hnA rfl
    go_enter Try.func31, Try.ntmps31
    go_wp2
    go_ret
    have hd : bcells d = [] := List.eq_nil_of_length_eq_zero h.1
    exact ⟨none, 0, rfl, by rw [hd]; exact World.ownsRow_nil _ _ _ _, Below.refl _ _⟩
  | some ad =>
    have y0 : Below w.heap.size w (w.alloc (.cells #[] 5)) := (Below.refl _ _).alloc (Nat.le_refl _) _
    have hO : (w.alloc (.cells #[] 5)).ownsRow w.heap.size 5 1 (.slice (some ⟨w.heap.size, 0, none⟩) 0 0) 0 [] := by
      have := World.ownsRow_lit (base := w.heap.size) (e := 5) (size := 1) w #[] 0 (Nat.le_refl _) (by simp [maxLen]) rfl
      simpa using this
    go_enter Try.func31, Try.ntmps31
    go_wp2_with (at_builtin; refine wpList_append_any _ rfl _ _ _ rfl w.heap.size 5 i0 _ 1 Try.underlying22 hi hz0 hz1 hz2 rfl _ _ _ rfl hO _ _ n c _ rfl (h.alloc _) (bcells_one _) ?c1 ?c2 ?c3 ?_)
    case c1 => unfold maxLen; omega
    case c2 => omega
    case c3 => simp
    intro A4 c4 w4 ho4 hg4 hat4
    have Y4 := below_grown y0 hO hg4 (Nat.le_refl _) (by simp)
    (try simp only [Nat.zero_add, List.nil_append] at ho4)
    have HO4 := Lib.hid ho4
    clear ho4
    go_wp2
    go_ret
    have e0 : 0 + n = n := Nat.zero_add n
    have ho5 := HO4.out
    (try rw [e0] at ho5)
    exact ⟨A4, c4, by simp, ho5, Y4⟩
set_option maxHeartbeats 400000 in
/-- OnesBefore: the ones before a position. -/
theorem onesb_any {A : Option Addr} {n c : Nat} {l : List Nat} {w : World} (h : Rd w A n c (ncells l)) (h01 : Is01 l) (hl : l.length ≤ 131072) (ii : Int) (hlo : -9223372036854775808 ≤ ii) (hhi : ii ≤ 9223372036854775807) (r : Nat) (hr : r = ones (l.take ii.toNat)) :
    Calls Try.prog 22 #[.slice A n c, .int .i64 ii] w fun e w' => e = .returned (.int .i64 (r : Nat)) ∧ w = w' := by
  have hn := h.len
  rw [ncells_length] at hn
  have hcap := Reads.cap h
  have hcm := Reads.capMax h
  unfold maxLen at hcm
  obtain rfl := hn
  have H01 := Lib.hid h01
  have HON := Lib.hid (fun k => ones_take_le2 h01 k)
  have HR := Lib.hid hr
  clear h01 hr
  go_enter Try.func22, Try.ntmps22
  go_wp2
  go_loop [5, 6] (fun t i => ∃ k : Nat, k ≤ l.length ∧ (k : Int) ≤ max ii 0 ∧ i = .int .i64 k ∧ t = .int .i64 (ones (l.take k) : Nat)) (fun _ i => l.length - (intOf i).toNat)
  case atStart => exact ⟨0, Nat.zero_le _, by omega, rfl, rfl⟩
  case round =>
    obtain ⟨k, hk, hki, rfl, rfl⟩ := hrel
    have hT := HON.out k
    obtain ⟨T, hTT⟩ : ∃ T, T = ones (l.take k) := ⟨_, rfl⟩
    rw [← hTT] at hT ⊢
    have HT := Lib.hid hTT
    clear hTT
    by_cases h1 : (k : Int) < ii
    · by_cases h2 : k < l.length
      · obtain ⟨g, off, rfl, hg, hc⟩ := h.2.2.2 (by omega)
        have hcell := hc k _ (ncells_get l k h2)
        obtain ⟨b, hb⟩ : ∃ b, b = l.getD k 0 := ⟨_, rfl⟩
        rw [← hb] at hcell
        have hb2 : b < 2 := by rw [hb]; exact H01.out _
        have HO := Lib.hid (show ones (l.take (k + 1)) = T + b by rw [ones_take_succ l k h2, HT.out, hb])
        clear hc hb
        go_wp2
        go_round
        case rel => exact ⟨k + 1, by omega, by omega, by go_num, congrArg (Value.int .i64) (by rw [HO.out]; omega)⟩
        case measure => simp [intOf]; omega
      · go_wp2
        go_ret
        exact ⟨ret_int (by rw [HT.out, HR.out, List.take_of_length_le (by omega), List.take_of_length_le (by omega)]), rfl⟩
    · have q1 : decide ((k : Int) < ii) = false := by simp; omega
      go_wp2
      go_ret
      exact ⟨ret_int (by rw [HT.out, HR.out, show ii.toNat = k by omega]), rfl⟩
set_option maxHeartbeats 400000 in
/-- Place: the position of the k-th bit with a value, or -1. -/
theorem place_any {A : Option Addr} {n c : Nat} {l : List Nat} {w : World} (h : Rd w A n c (ncells l)) (hl : l.length ≤ 131072) (k v : Nat) (hk : k ≤ 131072) (r : Int) (hr : (NoPlace l k v ∧ r = -1) ∨ ∃ p : Nat, PlaceAt l k v p ∧ r = (p : Nat)) :
    Calls Try.prog 21 #[.slice A n c, .int .i64 (k : Nat), .int .i64 (v : Nat)] w fun e w' => e = .returned (.int .i64 r) ∧ w = w' := by
  have hn := h.len
  rw [ncells_length] at hn
  have hcap := Reads.cap h
  have hcm := Reads.capMax h
  unfold maxLen at hcm
  obtain rfl := hn
  obtain ⟨q, hq⟩ : ∃ q, q ≤ l.length ∧ (∀ i, i ≤ q → cntv v (l.take i) ≤ k) ∧ (∀ i, i < q → l.getD i 0 = v → cntv v (l.take i) < k) ∧ ((q = l.length ∧ r = -1) ∨ (q < l.length ∧ l.getD q 0 = v ∧ cntv v (l.take q) = k ∧ r = (q : Nat))) := by
    rcases hr with ⟨h1, h2⟩ | ⟨p, h1, h2⟩
    · refine ⟨l.length, Nat.le_refl _, fun i _ => h1.at i, fun i hi hv => ?_, .inl ⟨rfl, h2⟩⟩
      have := cntv_take_succ v l i hi
      rw [if_pos hv] at this
      have := h1.at (i + 1)
      omega
    · exact ⟨p, by have := h1.1; omega, fun i hi => h1.le i hi, fun i hi hv => h1.before i hi hv, .inr ⟨h1.1, h1.2.1, h1.2.2, h2⟩⟩
  obtain ⟨hq, hle, hbef, hend⟩ := hq
  have HLE := Lib.hid hle
  have HB := Lib.hid hbef
  have HE := Lib.hid hend
  clear hr hle hbef hend
  go_enter Try.func21, Try.ntmps21
  go_wp2
  go_loop [1, 7] (fun t i => ∃ j m : Nat, j ≤ q ∧ i = .int .i64 j ∧ m + cntv v (l.take j) = k ∧ t = .int .i64 (m : Nat)) (fun _ i => l.length - (intOf i).toNat)
  case atStart => exact ⟨0, k, Nat.zero_le _, rfl, by simp [cntv], rfl⟩
  case round =>
    obtain ⟨j, m, hj, rfl, hm, rfl⟩ := hrel
    have HM := Lib.hid hm
    have hmk : m ≤ 131072 := by omega
    clear hm
    by_cases hjl : j < l.length
    · obtain ⟨g, off, rfl, hg, hc⟩ := h.2.2.2 (by omega)
      have hcell := hc j _ (ncells_get l j hjl)
      obtain ⟨b, hb⟩ : ∃ b, b = l.getD j 0 := ⟨_, rfl⟩
      rw [← hb] at hcell
      have HBB := Lib.hid hb
      have HS := Lib.hid (show cntv v (l.take (j + 1)) = cntv v (l.take j) + if b = v then 1 else 0 by rw [cntv_take_succ v l j hjl, hb])
      clear hc hb
      by_cases hbv : b = v
      · subst hbv
        have hbb : ((b : Int) == (b : Int)) = true := by simp
        rw [if_pos rfl] at HS
        by_cases hjq : j < q
        · have hm0 : ((m : Int) == 0) = false := by
            have := HB.out j hjq HBB.out.symm
            have := HM.out
            rw [beq_eq_false_iff_ne]; omega
          have hm1 : 1 ≤ m := by
            have := HB.out j hjq HBB.out.symm
            have := HM.out
            omega
          go_wp2
          go_round
          case rel => exact ⟨j + 1, m - 1, by omega, by go_num, by rw [HS.out]; have := HM.out; omega, congrArg (Value.int .i64) (by omega)⟩
          case measure => simp [intOf]; omega
        · obtain rfl : j = q := by omega
          rcases HE.out with ⟨h1, _⟩ | ⟨h1, h2, h3, rfl⟩
          · omega
          · have hm0 : m ≤ 0 := by have := HM.out; omega
            obtain rfl : m = 0 := by omega
            clear h2 h3
            go_wp2
            go_ret
            exact ⟨rfl, rfl⟩
      · have hbb : ((b : Int) == (v : Int)) = false := by rw [beq_eq_false_iff_ne]; omega
        rw [if_neg hbv] at HS
        have hjq : j < q := by
          rcases Nat.lt_or_ge j q with h | h
          · exact h
          · obtain rfl : j = q := by omega
            rcases HE.out with ⟨h1, _⟩ | ⟨h1, h2, _⟩
            · omega
            · rw [← HBB.out] at h2; exact absurd h2 hbv
        have HBV := Lib.hid hbv
        clear hbv
        go_wp2
        go_round
        case rel => exact ⟨j + 1, m, by omega, by go_num, by rw [HS.out]; have := HM.out; omega, rfl⟩
        case measure => simp [intOf]; omega
    · obtain rfl : j = q := by omega
      rcases HE.out with ⟨h1, rfl⟩ | ⟨h1, _⟩
      · clear h1
        go_wp2
        go_ret
        exact ⟨rfl, rfl⟩
      · omega
end PB
end Go.Proofs.Ytckimocmppdecaa
