/-
  Readers of ranks are as specified: the walk of the statement RankReadersMatchSpec.
-/
import Derived.Test.YtckimocmppdecaaRows
import Derived.Test.YtckimocmppdecaaRankEx
import Derived.Deep.RegionHeld3
import Derived.Deep.DrawnRows
namespace Go.Proofs.Ytckimocmppdecaa
open Go.RowKit
attribute [local go_sem ↓] Go.wp_at_zero Go.wp_at_succ
set_option linter.unusedVariables false
set_option linter.unusedSimpArgs false
namespace PB
set_option maxRecDepth 100000 in
set_option maxHeartbeats 3200000 in
theorem rr_n {A : Option Addr} {n c : Nat} {ii : Int} (hilo : -9223372036854775808 ≤ ii) (hihi : ii ≤ 9223372036854775807) {d : List Nat} {cnt : Int} (hd : ∀ k, d.getD k 0 < 256) (hlo : -9223372036854775808 ≤ cnt) (hhi : cnt ≤ 9223372036854775807) (hno : ¬ Ok d cnt)  (w : World) (h : Rd w A n c (bcells d)) :
    Calls Try.prog 6 #[.agg #[.slice A n c, .int .i64 cnt], .int .i64 ii] w fun e w' => e = .returned (.bool true) ∧ Below w.heap.size w w' := by
  have HD := Lib.hid hd
  have HNO := Lib.hid hno
  clear hd hno
  have R_0 := (h).alloc (.cells #[.slice A n c, .int .i64 cnt] 24)
  have B_0 := (Two.new w 24 (.slice A n c) (.int .i64 cnt))
  have Z0 := (Below.refl w.heap.size w).alloc (by simp) (.cells #[.slice A n c, .int .i64 cnt] 24)
  have B_0_c0 := B_0.c0
  have B_0_c1 := B_0.c1
  go_enter Try.func6, Try.ntmps6
  go_wp2_with fail
  refine (open_no R_0 HNO.out).mono ?_
  rintro e w1 ⟨rfl, y1⟩
  have R_1 := ((R_0.on y1).alloc (.cells #[.slice none 0 0, .int .i64 0, .slice none 0 0] 48)).alloc (.cells #[.int .i64 6, .int .i64 (-1)] 29)
  have B_1 := ((B_0.on y1).alloc (.cells #[.slice none 0 0, .int .i64 0, .slice none 0 0] 48)).alloc (.cells #[.int .i64 6, .int .i64 (-1)] 29)
  have X_1 := ((Three.new w1 48 (.slice none 0 0) (.int .i64 0) (.slice none 0 0))).alloc (.cells #[.int .i64 6, .int .i64 (-1)] 29)
  have F_1 := (Two.new1 w1 (.cells #[.slice none 0 0, .int .i64 0, .slice none 0 0] 48) 29 (.int .i64 6) (.int .i64 (-1)))
  clear R_0 B_0 B_0_c0 B_0_c1
  have z1 := Z0.trans (y1.mono Z0.size)
  have Z1 := ((z1).alloc (by have := z1.size; omega) (.cells #[.slice none 0 0, .int .i64 0, .slice none 0 0] 48)).alloc (by have := z1.size; simp; omega) (.cells #[.int .i64 6, .int .i64 (-1)] 29)
  have B_1_c0 := B_1.c0
  have B_1_c1 := B_1.c1
  have X_1_c0 := X_1.c0
  have X_1_c1 := X_1.c1
  have X_1_c2 := X_1.c2
  have F_1_c0 := F_1.c0
  have F_1_c1 := F_1.c1
  go_wp2_with fail
  refine (ranks_true _).mono ?_
  rintro e w2 ⟨rfl, y2⟩
  have R_2 := R_1.on y2
  have B_2 := B_1.on y2
  have X_2 := X_1.on y2
  have F_2 := F_1.on y2
  clear R_1 B_1 B_1_c0 B_1_c1 X_1 X_1_c0 X_1_c1 X_1_c2 F_1 F_1_c0 F_1_c1
  have z2 := Z1.trans (y2.mono Z1.size)
  have Z2 := z2
  have B_2_c0 := B_2.c0
  have B_2_c1 := B_2.c1
  have X_2_c0 := X_2.c0
  have X_2_c1 := X_2.c1
  have X_2_c2 := X_2.c2
  have F_2_c0 := F_2.c0
  have F_2_c1 := F_2.c1
  go_wp2_with fail
  refine (bitsok_any R_2 HD.out hlo hhi false ⟨(fun h => by cases h), fun h => absurd h HNO.out⟩).mono ?_
  rintro e w3 ⟨rfl, y3⟩
  have R_3 := R_2.on y3
  have B_3 := B_2.on y3
  have X_3 := X_2.on y3
  have F_3 := F_2.on y3
  clear R_2 B_2 B_2_c0 B_2_c1 X_2 X_2_c0 X_2_c1 X_2_c2 F_2 F_2_c0 F_2_c1
  have z3 := Z2.trans (y3.mono Z2.size)
  have Z3 := z3
  have B_3_c0 := B_3.c0
  have B_3_c1 := B_3.c1
  have X_3_c0 := X_3.c0
  have X_3_c1 := X_3.c1
  have X_3_c2 := X_3.c2
  have F_3_c0 := F_3.c0
  have F_3_c1 := F_3.c1
  go_wp2_with fail
  go_region_held3 (fun w' => w'.cell? ⟨w1.heap.size + 1, 0, none⟩ = some (.int .i64 6) ∧ w'.cell? ⟨w1.heap.size + 1, 1, none⟩ = some (.int .i64 (-1)) ∧ w'.cell? ⟨w1.heap.size, 0, none⟩ = some (.slice none 0 0) ∧ w'.cell? ⟨w1.heap.size, 1, none⟩ = some (.int .i64 0) ∧ w'.cell? ⟨w1.heap.size, 2, none⟩ = some (.slice none 0 0)) (go_keep) (first | (go_at_call 12; refine (refat_any _ _ _).mono ?_; rintro e w4 ⟨rfl, y4⟩; have Y4 : Below w3.heap.size w3.drew w4 := y4; have F_4_c0 := ((Two.on (w := w3.drew) F_3 Y4)).c0; have F_4_c1 := ((Two.on (w := w3.drew) F_3 Y4)).c1; have X_4_c0 := ((Three.on (w := w3.drew) X_3 Y4)).c0; have X_4_c1 := ((Three.on (w := w3.drew) X_3 Y4)).c1; have X_4_c2 := ((Three.on (w := w3.drew) X_3 Y4)).c2) | (go_at_call 26; refine (rlen_any _).mono ?_; rintro e w5 ⟨rfl, y5⟩; have Y5 := Y4.trans (y5.mono Y4.size); have F_5_c0 := ((Two.on (w := w3.drew) F_3 Y5)).c0; have F_5_c1 := ((Two.on (w := w3.drew) F_3 Y5)).c1; have X_5_c0 := ((Three.on (w := w3.drew) X_3 Y5)).c0; have X_5_c1 := ((Three.on (w := w3.drew) X_3 Y5)).c1; have X_5_c2 := ((Three.on (w := w3.drew) X_3 Y5)).c2))
  have R_5 := (Rd.on (w := w3.drew) R_3 Y5)
  have B_5 := (Two.on (w := w3.drew) B_3 Y5)
  have X_5 := (Three.on (w := w3.drew) X_3 Y5)
  have F_5 := (Two.on (w := w3.drew) F_3 Y5)
  have Z5 := (belowD Z3).trans (Y5.mono (belowD Z3).size)
  clear F_4_c0 F_4_c1 X_4_c0 X_4_c1 X_4_c2 F_5_c0 F_5_c1 X_5_c0 X_5_c1 X_5_c2
  clear R_3 B_3 B_3_c0 B_3_c1 X_3 X_3_c0 X_3_c1 X_3_c2 F_3 F_3_c0 F_3_c1
  have B_5_c0 := B_5.c0
  have B_5_c1 := B_5.c1
  have X_5_c0 := X_5.c0
  have X_5_c1 := X_5.c1
  have X_5_c2 := X_5.c2
  have F_5_c0 := F_5.c0
  have F_5_c1 := F_5.c1
  go_wp2
  go_ret
  exact ⟨rfl, Z5⟩
set_option maxRecDepth 100000 in
set_option maxHeartbeats 3200000 in
theorem rr_out {A : Option Addr} {n c : Nat} {ii : Int} (hilo : -9223372036854775808 ≤ ii) (hihi : ii ≤ 9223372036854775807) {l : List Nat} (h01 : Is01 l) (hl : l.length ≤ 131072) (hio : ii < 0 ∨ (l.length : Int) - 1 < ii)  (w : World) (h : Rd w A n c (bcells (pack l))) :
    Calls Try.prog 6 #[.agg #[.slice A n c, .int .i64 (l.length : Nat)], .int .i64 ii] w fun e w' => e = .returned (.bool true) ∧ Below w.heap.size w w' := by
  have H01 := Lib.hid h01
  have HLL := Lib.hid hl
  have HOK := Lib.hid (Ok.of_list h01 hl)
  clear h01
  obtain ⟨r, hr⟩ : ∃ r, r = ones (l.take ii.toNat) := ⟨_, rfl⟩
  have HR := Lib.hid hr
  clear hr
  have HB := Lib.hid (show false = BitIs l ii by unfold BitIs; symm; rw [decide_eq_false_iff_not]; omega)
  have R_0 := (h).alloc (.cells #[.slice A n c, .int .i64 (l.length : Nat)] 24)
  have B_0 := (Two.new w 24 (.slice A n c) (.int .i64 (l.length : Nat)))
  have Z0 := (Below.refl w.heap.size w).alloc (by simp) (.cells #[.slice A n c, .int .i64 (l.length : Nat)] 24)
  have B_0_c0 := B_0.c0
  have B_0_c1 := B_0.c1
  go_enter Try.func6, Try.ntmps6
  go_wp2_with fail
  refine (open_ok R_0 H01.out hl).mono ?_
  rintro e w1 ⟨A1, c1, A2, n2, c2, rfl, RX, SX, y1⟩
  have R_1 := ((R_0.on y1).alloc (.cells #[.slice A1 n c1, .int .i64 (l.length : Nat), .slice A2 n2 c2] 48)).alloc (.cells #[.int .i64 0, .int .i64 0] 29)
  have B_1 := ((B_0.on y1).alloc (.cells #[.slice A1 n c1, .int .i64 (l.length : Nat), .slice A2 n2 c2] 48)).alloc (.cells #[.int .i64 0, .int .i64 0] 29)
  have RX_1 := ((RX).alloc (.cells #[.slice A1 n c1, .int .i64 (l.length : Nat), .slice A2 n2 c2] 48)).alloc (.cells #[.int .i64 0, .int .i64 0] 29)
  have SX_1 := ((SX).alloc (.cells #[.slice A1 n c1, .int .i64 (l.length : Nat), .slice A2 n2 c2] 48)).alloc (.cells #[.int .i64 0, .int .i64 0] 29)
  have X_1 := ((Three.new w1 48 (.slice A1 n c1) (.int .i64 (l.length : Nat)) (.slice A2 n2 c2))).alloc (.cells #[.int .i64 0, .int .i64 0] 29)
  have F_1 := (Two.new1 w1 (.cells #[.slice A1 n c1, .int .i64 (l.length : Nat), .slice A2 n2 c2] 48) 29 (.int .i64 0) (.int .i64 0))
  clear R_0 B_0 B_0_c0 B_0_c1
  have z1 := Z0.trans (y1.mono Z0.size)
  have Z1 := ((z1).alloc (by have := z1.size; omega) (.cells #[.slice A1 n c1, .int .i64 (l.length : Nat), .slice A2 n2 c2] 48)).alloc (by have := z1.size; simp; omega) (.cells #[.int .i64 0, .int .i64 0] 29)
  have B_1_c0 := B_1.c0
  have B_1_c1 := B_1.c1
  have X_1_c0 := X_1.c0
  have X_1_c1 := X_1.c1
  have X_1_c2 := X_1.c2
  have F_1_c0 := F_1.c0
  have F_1_c1 := F_1.c1
  go_wp2_with fail
  refine (ranks_true _).mono ?_
  rintro e w2 ⟨rfl, y2⟩
  have R_2 := R_1.on y2
  have B_2 := B_1.on y2
  have RX_2 := RX_1.on y2
  have SX_2 := SX_1.on y2
  have X_2 := X_1.on y2
  have F_2 := F_1.on y2
  clear R_1 B_1 B_1_c0 B_1_c1 RX_1 SX_1 X_1 X_1_c0 X_1_c1 X_1_c2 F_1 F_1_c0 F_1_c1
  have z2 := Z1.trans (y2.mono Z1.size)
  have Z2 := z2
  have B_2_c0 := B_2.c0
  have B_2_c1 := B_2.c1
  have X_2_c0 := X_2.c0
  have X_2_c1 := X_2.c1
  have X_2_c2 := X_2.c2
  have F_2_c0 := F_2.c0
  have F_2_c1 := F_2.c1
  go_wp2_with fail
  refine (bitsok_any R_2 (pack_lt H01.out) (by omega) (by have := HLL.out; omega) true ⟨fun _ => HOK.out, fun _ => rfl⟩).mono ?_
  rintro e w3 ⟨rfl, y3⟩
  have R_3 := R_2.on y3
  have B_3 := B_2.on y3
  have RX_3 := RX_2.on y3
  have SX_3 := SX_2.on y3
  have X_3 := X_2.on y3
  have F_3 := F_2.on y3
  clear R_2 B_2 B_2_c0 B_2_c1 RX_2 SX_2 X_2 X_2_c0 X_2_c1 X_2_c2 F_2 F_2_c0 F_2_c1
  have z3 := Z2.trans (y3.mono Z2.size)
  have Z3 := z3
  have B_3_c0 := B_3.c0
  have B_3_c1 := B_3.c1
  have X_3_c0 := X_3.c0
  have X_3_c1 := X_3.c1
  have X_3_c2 := X_3.c2
  have F_3_c0 := F_3.c0
  have F_3_c1 := F_3.c1
  go_wp2_with fail
  refine (bits_any R_3 H01.out HLL.out _ rfl).mono ?_
  rintro e w4 ⟨Al, cl, rfl, hol, y4⟩
  have R_4 := R_3.on y4
  have B_4 := B_3.on y4
  have RX_4 := RX_3.on y4
  have SX_4 := SX_3.on y4
  have X_4 := X_3.on y4
  have F_4 := F_3.on y4
  have L_4 := Rd.own hol
  clear R_3 B_3 B_3_c0 B_3_c1 RX_3 SX_3 X_3 X_3_c0 X_3_c1 X_3_c2 F_3 F_3_c0 F_3_c1
  have z4 := Z3.trans (y4.mono Z3.size)
  have Z4 := z4
  have B_4_c0 := B_4.c0
  have B_4_c1 := B_4.c1
  have X_4_c0 := X_4.c0
  have X_4_c1 := X_4.c1
  have X_4_c2 := X_4.c2
  have F_4_c0 := F_4.c0
  have F_4_c1 := F_4.c1
  go_wp2_with fail
  refine (rlen_any _).mono ?_
  rintro e w5 ⟨rfl, y5⟩
  have R_5 := R_4.on y5
  have B_5 := B_4.on y5
  have RX_5 := RX_4.on y5
  have SX_5 := SX_4.on y5
  have X_5 := X_4.on y5
  have F_5 := F_4.on y5
  have L_5 := L_4.on y5
  clear R_4 B_4 B_4_c0 B_4_c1 RX_4 SX_4 X_4 X_4_c0 X_4_c1 X_4_c2 F_4 F_4_c0 F_4_c1 L_4
  have z5 := Z4.trans (y5.mono Z4.size)
  have Z5 := z5
  have B_5_c0 := B_5.c0
  have B_5_c1 := B_5.c1
  have X_5_c0 := X_5.c0
  have X_5_c1 := X_5.c1
  have X_5_c2 := X_5.c2
  have F_5_c0 := F_5.c0
  have F_5_c1 := F_5.c1
  go_wp2_with fail
  refine (rrank_meth RX_5 SX_5 H01.out hl hilo hihi HR.out).mono ?_
  rintro e w6 ⟨rfl, y6⟩
  have R_6 := R_5.on y6
  have B_6 := B_5.on y6
  have RX_6 := RX_5.on y6
  have SX_6 := SX_5.on y6
  have X_6 := X_5.on y6
  have F_6 := F_5.on y6
  have L_6 := L_5.on y6
  clear R_5 B_5 B_5_c0 B_5_c1 RX_5 SX_5 X_5 X_5_c0 X_5_c1 X_5_c2 F_5 F_5_c0 F_5_c1 L_5
  have z6 := Z5.trans (y6.mono Z5.size)
  have Z6 := z6
  have B_6_c0 := B_6.c0
  have B_6_c1 := B_6.c1
  have X_6_c0 := X_6.c0
  have X_6_c1 := X_6.c1
  have X_6_c2 := X_6.c2
  have F_6_c0 := F_6.c0
  have F_6_c1 := F_6.c1
  go_wp2_with fail
  refine (onesb_any L_6 H01.out hl _ hilo hihi _ HR.out).mono ?_
  rintro e w9_1 ⟨rfl, rfl⟩
  go_wp2_with fail
  refine (rbit_meth RX_6 SX_6 H01.out hl hilo hihi HB.out).mono ?_
  rintro e w7 ⟨rfl, y7⟩
  have R_7 := R_6.on y7
  have B_7 := B_6.on y7
  have RX_7 := RX_6.on y7
  have SX_7 := SX_6.on y7
  have X_7 := X_6.on y7
  have F_7 := F_6.on y7
  have L_7 := L_6.on y7
  clear R_6 B_6 B_6_c0 B_6_c1 RX_6 SX_6 X_6 X_6_c0 X_6_c1 X_6_c2 F_6 F_6_c0 F_6_c1 L_6
  have z7 := Z6.trans (y7.mono Z6.size)
  have Z7 := z7
  have B_7_c0 := B_7.c0
  have B_7_c1 := B_7.c1
  have X_7_c0 := X_7.c0
  have X_7_c1 := X_7.c1
  have X_7_c2 := X_7.c2
  have F_7_c0 := F_7.c0
  have F_7_c1 := F_7.c1
  go_wp2_with fail
  refine (in_no _ _ _ _ hio).mono ?_
  rintro e w9_2 ⟨rfl, rfl⟩
  go_wp2
  go_ret
  exact ⟨rfl, Z7⟩
set_option maxRecDepth 100000 in
set_option maxHeartbeats 3200000 in
theorem rr_in {A : Option Addr} {n c : Nat} {ii : Int} (hilo : -9223372036854775808 ≤ ii) (hihi : ii ≤ 9223372036854775807) {l : List Nat} (h01 : Is01 l) (hl : l.length ≤ 131072) {q : Nat} (hq : ii = (q : Nat)) (hql : q < l.length)  (w : World) (h : Rd w A n c (bcells (pack l))) :
    Calls Try.prog 6 #[.agg #[.slice A n c, .int .i64 (l.length : Nat)], .int .i64 ii] w fun e w' => e = .returned (.bool true) ∧ Below w.heap.size w w' := by
  have H01 := Lib.hid h01
  have HLL := Lib.hid hl
  have HOK := Lib.hid (Ok.of_list h01 hl)
  clear h01
  obtain ⟨r, hr⟩ : ∃ r, r = ones (l.take ii.toNat) := ⟨_, rfl⟩
  have HR := Lib.hid hr
  clear hr
  subst hq
  obtain ⟨b, hb⟩ : ∃ b, b = l.getD q 0 := ⟨_, rfl⟩
  have hb2 : b < 2 := by rw [hb]; exact H01.out _
  obtain ⟨B1, hB1⟩ : ∃ B1, B1 = decide (b = 1) := ⟨_, rfl⟩
  have HB := Lib.hid (show B1 = BitIs l ((q : Nat) : Int) by
    unfold BitIs; rw [hB1, hb, Int.toNat_natCast, Bool.eq_iff_iff]; simp only [decide_eq_true_eq]; omega)
  have HB0 := Lib.hid hb
  have HB1 := Lib.hid hB1
  clear hb hB1
  have m1 : ¬ ((l.length : Int) - 1 < (q : Int)) := by omega
  have m2 : min (q : Int) ((l.length : Int) - 1) = (q : Int) := by omega
  have m3 : max (0 : Int) (q : Int) = (q : Int) := by omega
  have R_0 := (h).alloc (.cells #[.slice A n c, .int .i64 (l.length : Nat)] 24)
  have B_0 := (Two.new w 24 (.slice A n c) (.int .i64 (l.length : Nat)))
  have Z0 := (Below.refl w.heap.size w).alloc (by simp) (.cells #[.slice A n c, .int .i64 (l.length : Nat)] 24)
  have B_0_c0 := B_0.c0
  have B_0_c1 := B_0.c1
  go_enter Try.func6, Try.ntmps6
  go_wp2_with fail
  refine (open_ok R_0 H01.out hl).mono ?_
  rintro e w1 ⟨A1, c1, A2, n2, c2, rfl, RX, SX, y1⟩
  have R_1 := ((R_0.on y1).alloc (.cells #[.slice A1 n c1, .int .i64 (l.length : Nat), .slice A2 n2 c2] 48)).alloc (.cells #[.int .i64 0, .int .i64 0] 29)
  have B_1 := ((B_0.on y1).alloc (.cells #[.slice A1 n c1, .int .i64 (l.length : Nat), .slice A2 n2 c2] 48)).alloc (.cells #[.int .i64 0, .int .i64 0] 29)
  have RX_1 := ((RX).alloc (.cells #[.slice A1 n c1, .int .i64 (l.length : Nat), .slice A2 n2 c2] 48)).alloc (.cells #[.int .i64 0, .int .i64 0] 29)
  have SX_1 := ((SX).alloc (.cells #[.slice A1 n c1, .int .i64 (l.length : Nat), .slice A2 n2 c2] 48)).alloc (.cells #[.int .i64 0, .int .i64 0] 29)
  have X_1 := ((Three.new w1 48 (.slice A1 n c1) (.int .i64 (l.length : Nat)) (.slice A2 n2 c2))).alloc (.cells #[.int .i64 0, .int .i64 0] 29)
  have F_1 := (Two.new1 w1 (.cells #[.slice A1 n c1, .int .i64 (l.length : Nat), .slice A2 n2 c2] 48) 29 (.int .i64 0) (.int .i64 0))
  clear R_0 B_0 B_0_c0 B_0_c1
  have z1 := Z0.trans (y1.mono Z0.size)
  have Z1 := ((z1).alloc (by have := z1.size; omega) (.cells #[.slice A1 n c1, .int .i64 (l.length : Nat), .slice A2 n2 c2] 48)).alloc (by have := z1.size; simp; omega) (.cells #[.int .i64 0, .int .i64 0] 29)
  have B_1_c0 := B_1.c0
  have B_1_c1 := B_1.c1
  have X_1_c0 := X_1.c0
  have X_1_c1 := X_1.c1
  have X_1_c2 := X_1.c2
  have F_1_c0 := F_1.c0
  have F_1_c1 := F_1.c1
  go_wp2_with fail
  refine (ranks_true _).mono ?_
  rintro e w2 ⟨rfl, y2⟩
  have R_2 := R_1.on y2
  have B_2 := B_1.on y2
  have RX_2 := RX_1.on y2
  have SX_2 := SX_1.on y2
  have X_2 := X_1.on y2
  have F_2 := F_1.on y2
  clear R_1 B_1 B_1_c0 B_1_c1 RX_1 SX_1 X_1 X_1_c0 X_1_c1 X_1_c2 F_1 F_1_c0 F_1_c1
  have z2 := Z1.trans (y2.mono Z1.size)
  have Z2 := z2
  have B_2_c0 := B_2.c0
  have B_2_c1 := B_2.c1
  have X_2_c0 := X_2.c0
  have X_2_c1 := X_2.c1
  have X_2_c2 := X_2.c2
  have F_2_c0 := F_2.c0
  have F_2_c1 := F_2.c1
  go_wp2_with fail
  refine (bitsok_any R_2 (pack_lt H01.out) (by omega) (by have := HLL.out; omega) true ⟨fun _ => HOK.out, fun _ => rfl⟩).mono ?_
  rintro e w3 ⟨rfl, y3⟩
  have R_3 := R_2.on y3
  have B_3 := B_2.on y3
  have RX_3 := RX_2.on y3
  have SX_3 := SX_2.on y3
  have X_3 := X_2.on y3
  have F_3 := F_2.on y3
  clear R_2 B_2 B_2_c0 B_2_c1 RX_2 SX_2 X_2 X_2_c0 X_2_c1 X_2_c2 F_2 F_2_c0 F_2_c1
  have z3 := Z2.trans (y3.mono Z2.size)
  have Z3 := z3
  have B_3_c0 := B_3.c0
  have B_3_c1 := B_3.c1
  have X_3_c0 := X_3.c0
  have X_3_c1 := X_3.c1
  have X_3_c2 := X_3.c2
  have F_3_c0 := F_3.c0
  have F_3_c1 := F_3.c1
  go_wp2_with fail
  refine (bits_any R_3 H01.out HLL.out _ rfl).mono ?_
  rintro e w4 ⟨Al, cl, rfl, hol, y4⟩
  have R_4 := R_3.on y4
  have B_4 := B_3.on y4
  have RX_4 := RX_3.on y4
  have SX_4 := SX_3.on y4
  have X_4 := X_3.on y4
  have F_4 := F_3.on y4
  have L_4 := Rd.own hol
  clear R_3 B_3 B_3_c0 B_3_c1 RX_3 SX_3 X_3 X_3_c0 X_3_c1 X_3_c2 F_3 F_3_c0 F_3_c1
  have z4 := Z3.trans (y4.mono Z3.size)
  have Z4 := z4
  have B_4_c0 := B_4.c0
  have B_4_c1 := B_4.c1
  have X_4_c0 := X_4.c0
  have X_4_c1 := X_4.c1
  have X_4_c2 := X_4.c2
  have F_4_c0 := F_4.c0
  have F_4_c1 := F_4.c1
  go_wp2_with fail
  refine (rlen_any _).mono ?_
  rintro e w5 ⟨rfl, y5⟩
  have R_5 := R_4.on y5
  have B_5 := B_4.on y5
  have RX_5 := RX_4.on y5
  have SX_5 := SX_4.on y5
  have X_5 := X_4.on y5
  have F_5 := F_4.on y5
  have L_5 := L_4.on y5
  clear R_4 B_4 B_4_c0 B_4_c1 RX_4 SX_4 X_4 X_4_c0 X_4_c1 X_4_c2 F_4 F_4_c0 F_4_c1 L_4
  have z5 := Z4.trans (y5.mono Z4.size)
  have Z5 := z5
  have B_5_c0 := B_5.c0
  have B_5_c1 := B_5.c1
  have X_5_c0 := X_5.c0
  have X_5_c1 := X_5.c1
  have X_5_c2 := X_5.c2
  have F_5_c0 := F_5.c0
  have F_5_c1 := F_5.c1
  go_wp2_with fail
  refine (rrank_meth RX_5 SX_5 H01.out hl hilo hihi HR.out).mono ?_
  rintro e w6 ⟨rfl, y6⟩
  have R_6 := R_5.on y6
  have B_6 := B_5.on y6
  have RX_6 := RX_5.on y6
  have SX_6 := SX_5.on y6
  have X_6 := X_5.on y6
  have F_6 := F_5.on y6
  have L_6 := L_5.on y6
  clear R_5 B_5 B_5_c0 B_5_c1 RX_5 SX_5 X_5 X_5_c0 X_5_c1 X_5_c2 F_5 F_5_c0 F_5_c1 L_5
  have z6 := Z5.trans (y6.mono Z5.size)
  have Z6 := z6
  have B_6_c0 := B_6.c0
  have B_6_c1 := B_6.c1
  have X_6_c0 := X_6.c0
  have X_6_c1 := X_6.c1
  have X_6_c2 := X_6.c2
  have F_6_c0 := F_6.c0
  have F_6_c1 := F_6.c1
  go_wp2_with fail
  refine (onesb_any L_6 H01.out hl _ hilo hihi _ HR.out).mono ?_
  rintro e w9_1 ⟨rfl, rfl⟩
  go_wp2_with fail
  refine (rbit_meth RX_6 SX_6 H01.out hl hilo hihi HB.out).mono ?_
  rintro e w7 ⟨rfl, y7⟩
  have R_7 := R_6.on y7
  have B_7 := B_6.on y7
  have RX_7 := RX_6.on y7
  have SX_7 := SX_6.on y7
  have X_7 := X_6.on y7
  have F_7 := F_6.on y7
  have L_7 := L_6.on y7
  clear R_6 B_6 B_6_c0 B_6_c1 RX_6 SX_6 X_6 X_6_c0 X_6_c1 X_6_c2 F_6 F_6_c0 F_6_c1 L_6
  have z7 := Z6.trans (y7.mono Z6.size)
  have Z7 := z7
  have B_7_c0 := B_7.c0
  have B_7_c1 := B_7.c1
  have X_7_c0 := X_7.c0
  have X_7_c1 := X_7.c1
  have X_7_c2 := X_7.c2
  have F_7_c0 := F_7.c0
  have F_7_c1 := F_7.c1
  go_wp2_with fail
  refine (in_yes _ _ _ _ (by omega) (by omega)).mono ?_
  rintro e w9_2 ⟨rfl, rfl⟩
  obtain ⟨g, off, rfl, hg, hc⟩ := L_7.2.2.2 (by omega)
  have hcell := hc q _ (ncells_get l q hql)
  rw [← HB0.out] at hcell
  clear hc
  have HE : B1 = ((b : Int) == 1) := by
    rw [HB1.out, Bool.eq_iff_iff]; simp only [decide_eq_true_eq, beq_iff_eq]; omega
  have HE := Lib.hid HE
  rcases Nat.eq_zero_or_pos q with hz | hz
  · subst hz
    rw [Nat.add_zero] at hcell
    go_wp2
    go_ret
    exact ⟨ret_bool (by first | rfl | (rw [HE.out]; simp)), Z7⟩
  · go_wp2
    all_goals (first | (exfalso; omega) | (go_ret; exact ⟨ret_bool (by first | rfl | (rw [HE.out]; simp)), Z7⟩))
theorem rr_all {A : Option Addr} {n c : Nat} {ii : Int} {d : List Nat} {cnt : Int} (hilo : -9223372036854775808 ≤ ii) (hihi : ii ≤ 9223372036854775807) (hd : ∀ k, d.getD k 0 < 256) (hlo : -9223372036854775808 ≤ cnt) (hhi : cnt ≤ 9223372036854775807) (w : World) (h : Rd w A n c (bcells d)) :
    Calls Try.prog 6 #[.agg #[.slice A n c, .int .i64 cnt], .int .i64 ii] w fun e w' => e = .returned (.bool true) ∧ Below w.heap.size w w' := by
  by_cases hok : Ok d cnt
  · obtain ⟨l, g1, g2, rfl, rfl⟩ := hok.list hd
    by_cases hio : ii < 0 ∨ (l.length : Int) - 1 < ii
    · exact rr_out hilo hihi g1 g2 hio w h
    · obtain ⟨q, rfl⟩ := Int.eq_ofNat_of_zero_le (show 0 ≤ ii by omega)
      exact rr_in hilo hihi g1 g2 (q := q) rfl (by omega) w h
  · exact rr_n hilo hihi hd hlo hhi hok w h
end PB
end Go.Proofs.Ytckimocmppdecaa
