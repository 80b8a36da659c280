/-
  The closed examples of package arith: codes answers true.
-/
import Derived.Test.YtnnpkajmheglgaaRows
import Derived.Test.YtnnpkajmheglgaaArPut
import Derived.Test.YtnnpkajmheglgaaArEncode
import Derived.Test.YtnnpkajmheglgaaArDecAll
import Derived.Test.YtnnpkajmheglgaaBitsText
import Derived.Deep.RegionHeld3
import Derived.Deep.DrawnRows
namespace Go.Proofs.Ytnnpkajmheglgaa
open Go.RowKit
attribute [local go_sem ↓] Go.wp_at_zero Go.wp_at_succ
set_option linter.unusedVariables false
set_option linter.unusedSimpArgs false
namespace PB
theorem icells_length (l : List Int) : (icells l).length = l.length := by simp [icells]
/-- Up to where two lists agree. -/
theorem same_upto (xs ys : List Int) (hl : xs.length = ys.length) : ∃ q, q ≤ xs.length ∧ (∀ i, i < q → xs[i]? = ys[i]?) ∧ (q < xs.length → xs[q]? ≠ ys[q]?) := by
  by_cases h : ∃ i, i < xs.length ∧ xs[i]? ≠ ys[i]?
  · obtain ⟨i0, h0⟩ := h
    induction i0 using Nat.strongRecOn with
    | _ i0 ih =>
      by_cases h1 : ∃ i, i < i0 ∧ i < xs.length ∧ xs[i]? ≠ ys[i]?
      · obtain ⟨i, hi, hh⟩ := h1
        exact ih i hi hh
      · refine ⟨i0, by omega, fun i hi => ?_, fun _ => h0.2⟩
        by_cases h4 : xs[i]? = ys[i]?
        · exact h4
        · exact absurd ⟨i, hi, by omega, h4⟩ h1
  · refine ⟨xs.length, Nat.le_refl _, fun i hi => ?_, fun h => absurd h (by omega)⟩
    by_cases h4 : xs[i]? = ys[i]?
    · exact h4
    · exact absurd ⟨i, hi, h4⟩ h
set_option maxHeartbeats 400000 in
/-- Ints: whether two lists are equal. -/
theorem ints_any {A : Option Addr} {n c : Nat} {xs : List Int} {A2 : Option Addr} {n2 c2 : Nat} {ys : List Int} {w : World} (h : Rd w A n c (icells xs)) (h2 : Rd w A2 n2 c2 (icells ys)) (r : Bool) (hr : r = decide (xs = ys)) :
    Calls Try.prog 23 #[.slice A n c, .slice A2 n2 c2] w fun e w' => e = .returned (.bool r) ∧ Below w.heap.size w w' := by
  have hn := h.len
  have hn2 := h2.len
  have hcap := Reads.cap h
  have hcm := Reads.capMax h
  have hcap2 := Reads.cap h2
  have hcm2 := Reads.capMax h2
  unfold maxLen at hcm hcm2
  rw [icells_length] at hn hn2
  by_cases hnn : n = n2
  case neg =>
    obtain rfl : r = false := by
      rw [hr, decide_eq_false_iff_not]
      rintro rfl
      omega
    have hne : ((n : Int) != (n2 : Int)) = true := by rw [bne_iff_ne]; omega
    clear hr hnn
    go_enter Try.func23, Try.ntmps23
    go_wp2
    go_ret
    exact ⟨rfl, Below.refl _ _⟩
  obtain ⟨q, hq, hsame, hend⟩ := same_upto xs ys (by omega)
  subst hnn
  have HS := Lib.hid hsame
  have HE := Lib.hid hend
  have HR := Lib.hid hr
  have HN := Lib.hid hn
  have HN2 := Lib.hid hn2
  have hqn : q ≤ n := by omega
  have hne : ((n : Int) != (n : Int)) = false := by simp
  clear hsame hend hr hn hn2 hq
  go_enter Try.func23, Try.ntmps23
  go_wp2
  go_loopw [5] (fun i wr => ∃ k : Nat, k ≤ q ∧ i = .int .i64 k ∧ Below w.heap.size w wr) (fun i _ => n - (intOf i).toNat)
  case atStart => exact ⟨0, Nat.zero_le _, rfl, Below.refl _ _⟩
  case round =>
    obtain ⟨k, hk, rfl, yr⟩ := hrel
    by_cases hlt : k < n
    · obtain ⟨g, off, rfl, hg, hc⟩ := (h.on yr).2.2.2 (by omega)
      obtain ⟨g2, off2, rfl, hg2, hc2⟩ := (h2.on yr).2.2.2 (by omega)
      obtain ⟨x, hx, cx⟩ : ∃ x, xs[k]? = some x ∧ wr.cell? ⟨g, off + k, none⟩ = some (.int .i64 x) := by
        have e : xs[k]? = some (xs[k]'(by rw [HN.out]; exact hlt)) := List.getElem?_eq_getElem _
        exact ⟨_, e, hc k _ (by rw [icells, List.getElem?_map, e]; rfl)⟩
      obtain ⟨y, hy, cy⟩ : ∃ y, ys[k]? = some y ∧ wr.cell? ⟨g2, off2 + k, none⟩ = some (.int .i64 y) := by
        have e : ys[k]? = some (ys[k]'(by rw [HN2.out]; exact hlt)) := List.getElem?_eq_getElem _
        exact ⟨_, e, hc2 k _ (by rw [icells, List.getElem?_map, e]; rfl)⟩
      have HX := Lib.hid hx
      have HY := Lib.hid hy
      clear hc hc2 hx hy
      have i1 : (0 : Int) ≤ (k : Int) := by omega
      have i2 : (k : Int) < (n : Int) := by omega
      by_cases hkq : k < q
      · have hxy : x = y := by
          have := HS.out k hkq
          rw [HX.out, HY.out] at this
          injection this
        have hb : (x != y) = false := by rw [hxy]; simp
        have HXY := Lib.hid hxy
        clear hxy
        go_wp2_with fail
        go_quiet (fail)
        go_wp2
        go_roundw
        case rel => exact ⟨k + 1, by omega, by go_num, belowN yr nq⟩
        case measure => simp [intOf]; omega
      · obtain rfl : k = q := by omega
        have hxy : x ≠ y := by
          intro e
          have := HE.out (by rw [HN.out]; exact hlt)
          rw [HX.out, HY.out, e] at this
          exact this rfl
        have hb : (x != y) = true := by rw [bne_iff_ne]; exact hxy
        have hrf : r = false := by
          rw [HR.out, decide_eq_false_iff_not]
          intro e
          have := HX.out
          rw [e, HY.out] at this
          injection this with this
          exact hxy this.symm
        have HRF := Lib.hid hrf
        clear hxy hrf
        go_wp2_with fail
        go_quiet (fail)
        go_wp2
        go_ret
        exact ⟨ret_bool HRF.out.symm, belowN yr nq⟩
    · obtain rfl : k = n := by omega
      have hrt : r = true := by
        rw [HR.out, decide_eq_true_eq]
        refine List.ext_getElem? fun i => ?_
        rcases Nat.lt_or_ge i k with hi | hi
        · exact HS.out i (by omega)
        · rw [List.getElem?_eq_none (by rw [HN.out]; exact hi), List.getElem?_eq_none (by rw [HN2.out]; exact hi)]
      have HRT := Lib.hid hrt
      clear hrt
      go_wp2
      go_ret
      exact ⟨ret_bool HRT.out.symm, yr⟩
theorem ex_code : acode [⟨1, 2048⟩] = [0, 0, 1] := by decide
theorem ex_stp : stp 0 65535 1 2048 = (0, 65535, [0]) := by decide
theorem RdC.lit1 (w : World) (b p : Int) : RdC (w.alloc (.cells #[.int .i64 b, .int .i64 p] 48)) (some ⟨w.heap.size, 0, none⟩) 1 1 [⟨b, p⟩] := by
  have hB := Two.new w 48 (.int .i64 b) (.int .i64 p)
  refine ⟨rfl, Nat.le_refl _, by decide, fun _ => ⟨w.heap.size, 0, rfl, by simp, fun i x hx => ?_⟩⟩
  match i, hx with
  | 0, hx => obtain rfl : _ = x := by simpa using hx
             exact ⟨hB.c0, hB.c1⟩
  | i + 1, hx => simp at hx
theorem Rd.lit1 (w : World) {g : Nat} (hg : g = w.heap.size) (z : Int) (t : TypeId) : Rd (w.alloc (.cells #[.int .i64 z] t)) (some ⟨g, 0, none⟩) 1 1 (icells [z]) := by
  subst hg
  have hB := One.new w t (.int .i64 z)
  refine ⟨rfl, Nat.le_refl _, by decide, fun _ => ⟨w.heap.size, 0, rfl, by simp, fun i x hx => ?_⟩⟩
  match i, hx with
  | 0, hx => obtain rfl : _ = x := by simpa [icells] using hx
             exact hB.c0
  | i + 1, hx => simp [icells] at hx
theorem allcho1 : AllCho [⟨1, 2048⟩] := by
  intro c hc
  obtain rfl : c = ⟨1, 2048⟩ := by simpa using hc
  exact ⟨.inr rfl, by decide, by decide⟩
theorem ex_enc {A : Option Addr} {c : Nat} {w : World} (h : RdC w A 1 c [⟨1, 2048⟩]) :
    Calls Try.prog 11 #[.slice A 1 c] w fun e w' => ∃ A' n' c', e = .returned (.tuple #[.agg #[.slice A' n' c', .int .i64 3], .agg #[.int .i64 0, .int .i64 0]]) ∧ Rd w' A' n' c' (bcells (pack [0, 0, 1])) ∧ Below w.heap.size w w' := by
  have := arencode_ok h (by decide) allcho1
  rw [ex_code] at this
  exact this
theorem is01_001 : Is01 [0, 0, 1] := Is01.of_mem (by decide)
theorem ex_text {A : Option Addr} {n c : Nat} {w : World} (h : Rd w A n c (bcells (pack [0, 0, 1]))) :
    Calls Try.prog 44 #[.agg #[.slice A n c, .int .i64 3]] w fun e w' => e = .returned (.tuple #[.string ⟨#[48, 48, 49]⟩, .agg #[.int .i64 0, .int .i64 0]]) ∧ Below w.heap.size w w' :=
  text_ok A n c [0, 0, 1] _ w h (Nat.le_refl _) is01_001 (by decide)
theorem ex_drun : drun [0, 0, 1] [2048] (dinit [0, 0, 1]) = ⟨0, 65535, 16384, 17⟩ ∧ dbits [0, 0, 1] [2048] (dinit [0, 0, 1]) = [1] := by
  have e : dinit [0, 0, 1] = ⟨0, 65535, 8192, 16⟩ := by unfold dinit; congr 1
  rw [e]
  constructor <;> rfl
theorem ex_dec {A A2 : Option Addr} {n c c2 : Nat} {w : World} (h : Rd w A n c (bcells (pack [0, 0, 1]))) (h2 : Rd w A2 1 c2 (icells [2048])) :
    Calls Try.prog 17 #[.agg #[.slice A n c, .int .i64 3], .slice A2 1 c2] w fun e w' => ∃ A' n' c', e = .returned (.tuple #[.slice A' n' c', .agg #[.int .i64 0, .int .i64 0]]) ∧ Rd w' A' n' c' (icells [1]) ∧ Below w.heap.size w w' := by
  have hp : AllP [2048] := by intro p hq; rw [List.mem_singleton] at hq; rw [hq]; decide
  refine (ardec_main (l := [0, 0, 1]) h h2 is01_001 (by decide) (by decide) hp (by decide) 0 0 rfl [1] (by rw [ex_drun.1]; rfl) (by rw [ex_drun.2]; rfl)).mono ?_
  rintro e w' ⟨A', n', c', rfl, hr, hb⟩
  exact ⟨A', n', c', rfl, hr, hb⟩
theorem ex_put (w : World) :
    Calls Try.prog 24 #[.agg #[.int .i64 0, .int .i64 65535, .int .i64 0], .int .i64 1, .int .i64 2048] w fun e w' => ∃ A n c, e = .returned (.tuple #[.agg #[.int .i64 0, .int .i64 65535, .int .i64 0], .agg #[.slice A n c, .int .i64 1], .agg #[.int .i64 0, .int .i64 0]]) ∧ Below w.heap.size w w' := by
  refine (put_ok (lo := 0) (hi := 65535) (p := 2048) (b := 1) (q := 0) ⟨wid0, by decide, by decide⟩ (by decide) (by decide) (by decide) 0 65535 [0] 0 (by rw [ex_stp]) (by rw [ex_stp]) (by rw [ex_stp]; rfl) (by rw [ex_stp]; rfl) (by decide) w).mono ?_
  rintro e w' ⟨A, n, c, rfl, _, hb⟩
  exact ⟨A, n, c, rfl, hb⟩
theorem ex_ints {A A2 : Option Addr} {n c n2 c2 : Nat} {xs ys : List Int} {w : World} (h : Rd w A n c (icells xs)) (h2 : Rd w A2 n2 c2 (icells ys)) (he : xs = ys) :
    Calls Try.prog 23 #[.slice A n c, .slice A2 n2 c2] w fun e w' => e = .returned (.bool true) ∧ Below w.heap.size w w' :=
  ints_any h h2 true (by simp [he])
set_option maxRecDepth 100000 in
set_option maxHeartbeats 1600000 in
theorem codes_true (w : World) : Calls Try.prog 13 #[] w fun e w' => e = .returned (.bool true) ∧ Below w.heap.size w w' := by
  have Z0 := Below.refl w.heap.size w
  go_enter Try.func13, Try.ntmps13
  have C_1 := RdC.lit1 w 1 2048
  have Z1 := Z0.alloc Z0.size (.cells #[.int .i64 1, .int .i64 2048] 48)
  go_wp2_with fail
  refine (ex_enc C_1).mono ?_
  rintro e w2 ⟨A1, n1, c1, rfl, R1, y2⟩
  have R_2 := ((R1).alloc (.cells #[.slice A1 n1 c1, .int .i64 3] 25)).alloc (.cells #[.int .i64 0, .int .i64 0] 27)
  have B_2 := ((Two.new w2 25 (.slice A1 n1 c1) (.int .i64 3))).alloc (.cells #[.int .i64 0, .int .i64 0] 27)
  have F_2 := (Two.new1 w2 (.cells #[.slice A1 n1 c1, .int .i64 3] 25) 27 (.int .i64 0) (.int .i64 0))
  clear C_1
  have z2 := Z1.trans (y2.mono Z1.size)
  have Z2 := ((z2).alloc (by have := z2.size; omega) (.cells #[.slice A1 n1 c1, .int .i64 3] 25)).alloc (by have := z2.size; simp; omega) (.cells #[.int .i64 0, .int .i64 0] 27)
  have B_2_c0 := B_2.c0
  have B_2_c1 := B_2.c1
  have F_2_c0 := F_2.c0
  have F_2_c1 := F_2.c1
  go_wp2_with fail
  refine (ex_text R_2).mono ?_
  rintro e w3 ⟨rfl, y3⟩
  have R_3 := (R_2.on y3).alloc (.cells #[.int .i64 0, .int .i64 0] 27)
  have B_3 := (B_2.on y3).alloc (.cells #[.int .i64 0, .int .i64 0] 27)
  have F_3 := (F_2.on y3).alloc (.cells #[.int .i64 0, .int .i64 0] 27)
  have G_3 := (Two.new w3 27 (.int .i64 0) (.int .i64 0))
  clear R_2 B_2 B_2_c0 B_2_c1 F_2 F_2_c0 F_2_c1
  have z3 := Z2.trans (y3.mono Z2.size)
  have Z3 := (z3).alloc (by have := z3.size; omega) (.cells #[.int .i64 0, .int .i64 0] 27)
  have B_3_c0 := B_3.c0
  have B_3_c1 := B_3.c1
  have F_3_c0 := F_3.c0
  have F_3_c1 := F_3.c1
  have G_3_c0 := G_3.c0
  have G_3_c1 := G_3.c1
  have R_4 := R_3.alloc (.cells #[.int .i64 2048] 3)
  have B_4 := B_3.alloc (.cells #[.int .i64 2048] 3)
  have F_4 := F_3.alloc (.cells #[.int .i64 2048] 3)
  have G_4 := G_3.alloc (.cells #[.int .i64 2048] 3)
  have P_4 := (show Rd (((w3).alloc (.cells #[.int .i64 0, .int .i64 0] 27)).alloc (.cells #[.int .i64 2048] 3)) (some ⟨w3.heap.size + 1, 0, none⟩) 1 1 (icells [2048]) from Rd.lit1 ((w3).alloc (.cells #[.int .i64 0, .int .i64 0] 27)) (by simp) 2048 3)
  have Z4 := Z3.alloc Z3.size (.cells #[.int .i64 2048] 3)
  have B_4_c0 := B_4.c0
  have B_4_c1 := B_4.c1
  have F_4_c0 := F_4.c0
  have F_4_c1 := F_4.c1
  have G_4_c0 := G_4.c0
  have G_4_c1 := G_4.c1
  go_wp2_with fail
  refine (ex_dec R_4 P_4).mono ?_
  rintro e w5 ⟨A3, n3, c3, rfl, D3, y5⟩
  have R_5 := (R_4.on y5).alloc (.cells #[.int .i64 0, .int .i64 0] 27)
  have B_5 := (B_4.on y5).alloc (.cells #[.int .i64 0, .int .i64 0] 27)
  have F_5 := (F_4.on y5).alloc (.cells #[.int .i64 0, .int .i64 0] 27)
  have G_5 := (G_4.on y5).alloc (.cells #[.int .i64 0, .int .i64 0] 27)
  have D_5 := (D3).alloc (.cells #[.int .i64 0, .int .i64 0] 27)
  have H_5 := (Two.new w5 27 (.int .i64 0) (.int .i64 0))
  clear R_3 B_3 B_3_c0 B_3_c1 F_3 F_3_c0 F_3_c1 G_3 G_3_c0 G_3_c1 R_4 B_4 B_4_c0 B_4_c1 F_4 F_4_c0 F_4_c1 G_4 G_4_c0 G_4_c1 P_4
  have z5 := Z4.trans (y5.mono Z4.size)
  have Z5 := (z5).alloc (by have := z5.size; omega) (.cells #[.int .i64 0, .int .i64 0] 27)
  have B_5_c0 := B_5.c0
  have B_5_c1 := B_5.c1
  have F_5_c0 := F_5.c0
  have F_5_c1 := F_5.c1
  have G_5_c0 := G_5.c0
  have G_5_c1 := G_5.c1
  have H_5_c0 := H_5.c0
  have H_5_c1 := H_5.c1
  go_wp2_with fail
  refine (start_any _).mono ?_
  rintro e w6 ⟨rfl, y6⟩
  have R_6 := R_5.on y6
  have B_6 := B_5.on y6
  have F_6 := F_5.on y6
  have G_6 := G_5.on y6
  have D_6 := D_5.on y6
  have H_6 := H_5.on y6
  clear R_5 B_5 B_5_c0 B_5_c1 F_5 F_5_c0 F_5_c1 G_5 G_5_c0 G_5_c1 D_5 H_5 H_5_c0 H_5_c1
  have z6 := Z5.trans (y6.mono Z5.size)
  have Z6 := z6
  have B_6_c0 := B_6.c0
  have B_6_c1 := B_6.c1
  have F_6_c0 := F_6.c0
  have F_6_c1 := F_6.c1
  have G_6_c0 := G_6.c0
  have G_6_c1 := G_6.c1
  have H_6_c0 := H_6.c0
  have H_6_c1 := H_6.c1
  go_wp2_with fail
  refine (ex_put _).mono ?_
  rintro e w7 ⟨A5, n5, c5, rfl, y7⟩
  have R_7 := (((R_6.on y7).alloc (.cells #[.int .i64 0, .int .i64 65535, .int .i64 0] 50)).alloc (.cells #[.slice A5 n5 c5, .int .i64 1] 25)).alloc (.cells #[.int .i64 0, .int .i64 0] 27)
  have B_7 := (((B_6.on y7).alloc (.cells #[.int .i64 0, .int .i64 65535, .int .i64 0] 50)).alloc (.cells #[.slice A5 n5 c5, .int .i64 1] 25)).alloc (.cells #[.int .i64 0, .int .i64 0] 27)
  have F_7 := (((F_6.on y7).alloc (.cells #[.int .i64 0, .int .i64 65535, .int .i64 0] 50)).alloc (.cells #[.slice A5 n5 c5, .int .i64 1] 25)).alloc (.cells #[.int .i64 0, .int .i64 0] 27)
  have G_7 := (((G_6.on y7).alloc (.cells #[.int .i64 0, .int .i64 65535, .int .i64 0] 50)).alloc (.cells #[.slice A5 n5 c5, .int .i64 1] 25)).alloc (.cells #[.int .i64 0, .int .i64 0] 27)
  have D_7 := (((D_6.on y7).alloc (.cells #[.int .i64 0, .int .i64 65535, .int .i64 0] 50)).alloc (.cells #[.slice A5 n5 c5, .int .i64 1] 25)).alloc (.cells #[.int .i64 0, .int .i64 0] 27)
  have H_7 := (((H_6.on y7).alloc (.cells #[.int .i64 0, .int .i64 65535, .int .i64 0] 50)).alloc (.cells #[.slice A5 n5 c5, .int .i64 1] 25)).alloc (.cells #[.int .i64 0, .int .i64 0] 27)
  have N_7 := (((Three.new w7 50 (.int .i64 0) (.int .i64 65535) (.int .i64 0))).alloc (.cells #[.slice A5 n5 c5, .int .i64 1] 25)).alloc (.cells #[.int .i64 0, .int .i64 0] 27)
  have O_7 := ((Two.new1 w7 (.cells #[.int .i64 0, .int .i64 65535, .int .i64 0] 50) 25 (.slice A5 n5 c5) (.int .i64 1))).alloc (.cells #[.int .i64 0, .int .i64 0] 27)
  have K_7 := (Two.new2 w7 (.cells #[.int .i64 0, .int .i64 65535, .int .i64 0] 50) (.cells #[.slice A5 n5 c5, .int .i64 1] 25) 27 (.int .i64 0) (.int .i64 0))
  clear R_6 B_6 B_6_c0 B_6_c1 F_6 F_6_c0 F_6_c1 G_6 G_6_c0 G_6_c1 D_6 H_6 H_6_c0 H_6_c1
  have z7 := Z6.trans (y7.mono Z6.size)
  have Z7 := (((z7).alloc (by have := z7.size; omega) (.cells #[.int .i64 0, .int .i64 65535, .int .i64 0] 50)).alloc (by have := z7.size; simp; omega) (.cells #[.slice A5 n5 c5, .int .i64 1] 25)).alloc (by have := z7.size; simp; omega) (.cells #[.int .i64 0, .int .i64 0] 27)
  have B_7_c0 := B_7.c0
  have B_7_c1 := B_7.c1
  have F_7_c0 := F_7.c0
  have F_7_c1 := F_7.c1
  have G_7_c0 := G_7.c0
  have G_7_c1 := G_7.c1
  have H_7_c0 := H_7.c0
  have H_7_c1 := H_7.c1
  have N_7_c0 := N_7.c0
  have N_7_c1 := N_7.c1
  have N_7_c2 := N_7.c2
  have O_7_c0 := O_7.c0
  have O_7_c1 := O_7.c1
  have K_7_c0 := K_7.c0
  have K_7_c1 := K_7.c1
  go_wp2_with fail
  have R_8 := R_7.alloc (.cells #[.int .i64 1] 3)
  have B_8 := B_7.alloc (.cells #[.int .i64 1] 3)
  have F_8 := F_7.alloc (.cells #[.int .i64 1] 3)
  have G_8 := G_7.alloc (.cells #[.int .i64 1] 3)
  have D_8 := D_7.alloc (.cells #[.int .i64 1] 3)
  have H_8 := H_7.alloc (.cells #[.int .i64 1] 3)
  have N_8 := N_7.alloc (.cells #[.int .i64 1] 3)
  have O_8 := O_7.alloc (.cells #[.int .i64 1] 3)
  have K_8 := K_7.alloc (.cells #[.int .i64 1] 3)
  have Q_8 := (show Rd (((((w7).alloc (.cells #[.int .i64 0, .int .i64 65535, .int .i64 0] 50)).alloc (.cells #[.slice A5 n5 c5, .int .i64 1] 25)).alloc (.cells #[.int .i64 0, .int .i64 0] 27)).alloc (.cells #[.int .i64 1] 3)) (some ⟨w7.heap.size + 1 + 1 + 1, 0, none⟩) 1 1 (icells [1]) from Rd.lit1 ((((w7).alloc (.cells #[.int .i64 0, .int .i64 65535, .int .i64 0] 50)).alloc (.cells #[.slice A5 n5 c5, .int .i64 1] 25)).alloc (.cells #[.int .i64 0, .int .i64 0] 27)) (by simp) 1 3)
  have Z8 := Z7.alloc Z7.size (.cells #[.int .i64 1] 3)
  have B_8_c0 := B_8.c0
  have B_8_c1 := B_8.c1
  have F_8_c0 := F_8.c0
  have F_8_c1 := F_8.c1
  have G_8_c0 := G_8.c0
  have G_8_c1 := G_8.c1
  have H_8_c0 := H_8.c0
  have H_8_c1 := H_8.c1
  have N_8_c0 := N_8.c0
  have N_8_c1 := N_8.c1
  have N_8_c2 := N_8.c2
  have O_8_c0 := O_8.c0
  have O_8_c1 := O_8.c1
  have K_8_c0 := K_8.c0
  have K_8_c1 := K_8.c1
  refine (ex_ints D_8 Q_8 rfl).mono ?_
  rintro e w9 ⟨rfl, y9⟩
  have R_9 := R_8.on y9
  have B_9 := B_8.on y9
  have F_9 := F_8.on y9
  have G_9 := G_8.on y9
  have D_9 := D_8.on y9
  have H_9 := H_8.on y9
  have N_9 := N_8.on y9
  have O_9 := O_8.on y9
  have K_9 := K_8.on y9
  have Q_9 := Q_8.on y9
  clear R_7 B_7 B_7_c0 B_7_c1 F_7 F_7_c0 F_7_c1 G_7 G_7_c0 G_7_c1 D_7 H_7 H_7_c0 H_7_c1 N_7 N_7_c0 N_7_c1 N_7_c2 O_7 O_7_c0 O_7_c1 K_7 K_7_c0 K_7_c1 R_8 B_8 B_8_c0 B_8_c1 F_8 F_8_c0 F_8_c1 G_8 G_8_c0 G_8_c1 D_8 H_8 H_8_c0 H_8_c1 N_8 N_8_c0 N_8_c1 N_8_c2 O_8 O_8_c0 O_8_c1 K_8 K_8_c0 K_8_c1 Q_8
  have z9 := Z8.trans (y9.mono Z8.size)
  have Z9 := z9
  have B_9_c0 := B_9.c0
  have B_9_c1 := B_9.c1
  have F_9_c0 := F_9.c0
  have F_9_c1 := F_9.c1
  have G_9_c0 := G_9.c0
  have G_9_c1 := G_9.c1
  have H_9_c0 := H_9.c0
  have H_9_c1 := H_9.c1
  have N_9_c0 := N_9.c0
  have N_9_c1 := N_9.c1
  have N_9_c2 := N_9.c2
  have O_9_c0 := O_9.c0
  have O_9_c1 := O_9.c1
  have K_9_c0 := K_9.c0
  have K_9_c1 := K_9.c1
  go_wp2
  go_ret
  exact ⟨rfl, Z9⟩
theorem arenc_any {A : Option Addr} {n c : Nat} {cs : List Cho} {w : World} (h : RdC w A n c cs) (code idx : Int) (hC : COut cs code idx) (X : List Nat) (hX : X = if code = 0 then acode cs else []) (k : Nat) (hk : k = X.length) :
    Calls Try.prog 11 #[.slice A n c] w fun e w' => ∃ A' n' c', e = .returned (.tuple #[.agg #[.slice A' n' c', .int .i64 (k : Nat)], .agg #[.int .i64 code, .int .i64 idx]]) ∧ Rd w' A' n' c' (bcells (pack X)) ∧ Below w.heap.size w w' := by
  rcases hC with ⟨h1, rfl, rfl⟩ | ⟨h1, i, hi, h2, h3, rfl, rfl⟩ | ⟨h1, h2, rfl, rfl⟩
  · rw [if_neg (by decide)] at hX
    subst hX hk
    refine (arencode_long h h1).mono ?_
    rintro e w' ⟨rfl, hb⟩
    exact ⟨none, 0, 0, rfl, Rd.none_ w', hb⟩
  · rw [if_neg (by decide)] at hX
    subst hX hk
    refine (arencode_bad h h1 i hi h2 h3).mono ?_
    rintro e w' ⟨rfl, hb⟩
    exact ⟨none, 0, 0, rfl, Rd.none_ w', hb⟩
  · rw [if_pos rfl] at hX
    subst hX hk
    exact arencode_ok h h1 h2
theorem cout_ok {cs : List Cho} {code idx : Int} (h : COut cs code idx) (hc : code = 0) : AllCho cs ∧ cs.length ≤ 8192 ∧ idx = 0 := by
  rcases h with ⟨_, rfl, _⟩ | ⟨_, _, _, _, _, rfl, _⟩ | ⟨h1, h2, _, h3⟩
  · cases hc
  · cases hc
  · exact ⟨h2, h1, h3⟩
theorem arpacked {A : Option Addr} {n c : Nat} {l : List Nat} {w : World} (hn : l.length = n) (h : Rd w A n c (ncells l)) (h01 : Is01 l) (hl : l.length ≤ 1000000) :
    Calls Try.prog 15 #[.slice A n c] w fun e w' => ∃ A' n' c', e = .returned (.agg #[.slice A' n' c', .int .i64 (n : Nat)]) ∧ Rd w' A' n' c' (bcells (pack l)) ∧ Below w.heap.size w w' := packed_any n hn.symm h h01 hl
end PB
end Go.Proofs.Ytnnpkajmheglgaa
