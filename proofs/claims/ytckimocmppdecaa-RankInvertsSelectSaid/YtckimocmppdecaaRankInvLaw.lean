/-
  Ranks invert positions: the walk of the statement RankInvertsSelect.
-/
import Derived.Test.YtckimocmppdecaaRows
import Derived.Test.YtckimocmppdecaaRankMatchLaw
import Derived.Deep.RegionHeld3
import Derived.Deep.DrawnRows
namespace Go.Proofs.Ytckimocmppdecaa
open Go.RowKit
attribute [local go_sem ↓] Go.wp_at_zero Go.wp_at_succ
set_option linter.unusedVariables false
set_option linter.unusedSimpArgs false
namespace PB
theorem inv_one {l : List Nat} {q p : Nat} (h01 : Is01 l) (h : PlaceAt l q 1 p) : q = ones (l.take p) ∧ q ≤ p ∧ true = BitIs l (p : Nat) ∧ q + 1 = ones (l.take ((p : Int) + 1).toNat) := by
  obtain ⟨h1, h2, h3⟩ := h
  have e1 : q = ones (l.take p) := by rw [← h3, cntv_one (h01.take p)]
  have e2 : ones (l.take p) ≤ (l.take p).length := by rw [← cntv_one (h01.take p)]; unfold cntv; exact List.length_filter_le _ _
  refine ⟨e1, ?_, ?_, ?_⟩
  · rw [e1]; exact Nat.le_trans e2 (by rw [List.length_take]; omega)
  · unfold BitIs; symm; rw [decide_eq_true_eq, Int.toNat_natCast]; exact ⟨by omega, by omega, h2⟩
  · rw [show ((p : Int) + 1).toNat = p + 1 by omega, ones_take_succ l p h1, h2, e1]
theorem inv_zero {l : List Nat} {q p : Nat} (h01 : Is01 l) (h : PlaceAt l q 0 p) : ∃ T, T = ones (l.take p) ∧ q + T = p ∧ false = BitIs l (p : Nat) := by
  obtain ⟨h1, h2, h3⟩ := h
  refine ⟨_, rfl, ?_, ?_⟩
  · rw [← h3, cntv_zero (h01.take p), List.length_take]; omega
  · unfold BitIs; symm; rw [decide_eq_false_iff_not, Int.toNat_natCast]; omega
set_option maxRecDepth 100000 in
set_option maxHeartbeats 3200000 in
theorem ri_n {A : Option Addr} {n c : Nat} {ii : Int} (hilo : -9223372036854775808 ≤ ii) (hihi : ii ≤ 9223372036854775807) {d : List Nat} {cnt : Int} (hd : ∀ k, d.getD k 0 < 256) (hlo : -9223372036854775808 ≤ cnt) (hhi : cnt ≤ 9223372036854775807) (hno : ¬ Ok d cnt)  (w : World) (h : Rd w A n c (bcells d)) :
    Calls Try.prog 5 #[.agg #[.slice A n c, .int .i64 cnt], .int .i64 ii] w fun e w' => e = .returned (.bool true) ∧ Below w.heap.size w w' := by
  have HD := Lib.hid hd
  have HNO := Lib.hid hno
  clear hd hno
  have R_0 := (h).alloc (.cells #[.slice A n c, .int .i64 cnt] 24)
  have B_0 := (Two.new w 24 (.slice A n c) (.int .i64 cnt))
  have Z0 := (Below.refl w.heap.size w).alloc (by simp) (.cells #[.slice A n c, .int .i64 cnt] 24)
  have B_0_c0 := B_0.c0
  have B_0_c1 := B_0.c1
  go_enter Try.func5, Try.ntmps5
  go_wp2_with fail
  refine (build_no R_0 HNO.out).mono ?_
  rintro e w1 ⟨rfl, y1⟩
  have R_1 := ((R_0.on y1).alloc (.cells #[.slice none 0 0, .int .i64 0, .slice none 0 0] 27)).alloc (.cells #[.int .i64 6, .int .i64 (-1)] 29)
  have B_1 := ((B_0.on y1).alloc (.cells #[.slice none 0 0, .int .i64 0, .slice none 0 0] 27)).alloc (.cells #[.int .i64 6, .int .i64 (-1)] 29)
  have V_1 := ((Three.new w1 27 (.slice none 0 0) (.int .i64 0) (.slice none 0 0))).alloc (.cells #[.int .i64 6, .int .i64 (-1)] 29)
  have F_1 := (Two.new1 w1 (.cells #[.slice none 0 0, .int .i64 0, .slice none 0 0] 27) 29 (.int .i64 6) (.int .i64 (-1)))
  clear R_0 B_0 B_0_c0 B_0_c1
  have z1 := Z0.trans (y1.mono Z0.size)
  have Z1 := ((z1).alloc (by have := z1.size; omega) (.cells #[.slice none 0 0, .int .i64 0, .slice none 0 0] 27)).alloc (by have := z1.size; simp; omega) (.cells #[.int .i64 6, .int .i64 (-1)] 29)
  have B_1_c0 := B_1.c0
  have B_1_c1 := B_1.c1
  have V_1_c0 := V_1.c0
  have V_1_c1 := V_1.c1
  have V_1_c2 := V_1.c2
  have F_1_c0 := F_1.c0
  have F_1_c1 := F_1.c1
  go_wp2_with fail
  refine (open_no R_1 HNO.out).mono ?_
  rintro e w2 ⟨rfl, y2⟩
  have R_2 := ((R_1.on y2).alloc (.cells #[.slice none 0 0, .int .i64 0, .slice none 0 0] 48)).alloc (.cells #[.int .i64 6, .int .i64 (-1)] 29)
  have B_2 := ((B_1.on y2).alloc (.cells #[.slice none 0 0, .int .i64 0, .slice none 0 0] 48)).alloc (.cells #[.int .i64 6, .int .i64 (-1)] 29)
  have V_2 := ((V_1.on y2).alloc (.cells #[.slice none 0 0, .int .i64 0, .slice none 0 0] 48)).alloc (.cells #[.int .i64 6, .int .i64 (-1)] 29)
  have F_2 := ((F_1.on y2).alloc (.cells #[.slice none 0 0, .int .i64 0, .slice none 0 0] 48)).alloc (.cells #[.int .i64 6, .int .i64 (-1)] 29)
  have X_2 := ((Three.new w2 48 (.slice none 0 0) (.int .i64 0) (.slice none 0 0))).alloc (.cells #[.int .i64 6, .int .i64 (-1)] 29)
  have G_2 := (Two.new1 w2 (.cells #[.slice none 0 0, .int .i64 0, .slice none 0 0] 48) 29 (.int .i64 6) (.int .i64 (-1)))
  clear R_1 B_1 B_1_c0 B_1_c1 V_1 V_1_c0 V_1_c1 V_1_c2 F_1 F_1_c0 F_1_c1
  have z2 := Z1.trans (y2.mono Z1.size)
  have Z2 := ((z2).alloc (by have := z2.size; omega) (.cells #[.slice none 0 0, .int .i64 0, .slice none 0 0] 48)).alloc (by have := z2.size; simp; omega) (.cells #[.int .i64 6, .int .i64 (-1)] 29)
  have B_2_c0 := B_2.c0
  have B_2_c1 := B_2.c1
  have V_2_c0 := V_2.c0
  have V_2_c1 := V_2.c1
  have V_2_c2 := V_2.c2
  have F_2_c0 := F_2.c0
  have F_2_c1 := F_2.c1
  have X_2_c0 := X_2.c0
  have X_2_c1 := X_2.c1
  have X_2_c2 := X_2.c2
  have G_2_c0 := G_2.c0
  have G_2_c1 := G_2.c1
  go_wp2_with fail
  refine (ranks_true _).mono ?_
  rintro e w3 ⟨rfl, y3⟩
  have R_3 := R_2.on y3
  have B_3 := B_2.on y3
  have V_3 := V_2.on y3
  have F_3 := F_2.on y3
  have X_3 := X_2.on y3
  have G_3 := G_2.on y3
  clear R_2 B_2 B_2_c0 B_2_c1 V_2 V_2_c0 V_2_c1 V_2_c2 F_2 F_2_c0 F_2_c1 X_2 X_2_c0 X_2_c1 X_2_c2 G_2 G_2_c0 G_2_c1
  have z3 := Z2.trans (y3.mono Z2.size)
  have Z3 := z3
  have B_3_c0 := B_3.c0
  have B_3_c1 := B_3.c1
  have V_3_c0 := V_3.c0
  have V_3_c1 := V_3.c1
  have V_3_c2 := V_3.c2
  have F_3_c0 := F_3.c0
  have F_3_c1 := F_3.c1
  have X_3_c0 := X_3.c0
  have X_3_c1 := X_3.c1
  have X_3_c2 := X_3.c2
  have G_3_c0 := G_3.c0
  have G_3_c1 := G_3.c1
  go_wp2_with fail
  refine (ranks_true _).mono ?_
  rintro e w4 ⟨rfl, y4⟩
  have R_4 := R_3.on y4
  have B_4 := B_3.on y4
  have V_4 := V_3.on y4
  have F_4 := F_3.on y4
  have X_4 := X_3.on y4
  have G_4 := G_3.on y4
  clear R_3 B_3 B_3_c0 B_3_c1 V_3 V_3_c0 V_3_c1 V_3_c2 F_3 F_3_c0 F_3_c1 X_3 X_3_c0 X_3_c1 X_3_c2 G_3 G_3_c0 G_3_c1
  have z4 := Z3.trans (y4.mono Z3.size)
  have Z4 := z4
  have B_4_c0 := B_4.c0
  have B_4_c1 := B_4.c1
  have V_4_c0 := V_4.c0
  have V_4_c1 := V_4.c1
  have V_4_c2 := V_4.c2
  have F_4_c0 := F_4.c0
  have F_4_c1 := F_4.c1
  have X_4_c0 := X_4.c0
  have X_4_c1 := X_4.c1
  have X_4_c2 := X_4.c2
  have G_4_c0 := G_4.c0
  have G_4_c1 := G_4.c1
  go_wp2
  go_ret
  exact ⟨rfl, Z4⟩
set_option maxRecDepth 100000 in
set_option maxHeartbeats 3200000 in
theorem ri_neg {A : Option Addr} {n c : Nat} {ii : Int} (hilo : -9223372036854775808 ≤ ii) (hihi : ii ≤ 9223372036854775807) {l : List Nat} (h01 : Is01 l) (hl : l.length ≤ 131072) (hio : ii < 0)  (w : World) (h : Rd w A n c (bcells (pack l))) :
    Calls Try.prog 5 #[.agg #[.slice A n c, .int .i64 (l.length : Nat)], .int .i64 ii] w fun e w' => e = .returned (.bool true) ∧ Below w.heap.size w w' := by
  have H01 := Lib.hid h01
  have HLL := Lib.hid hl
  have HOK := Lib.hid (Ok.of_list h01 hl)
  clear h01
  have R_0 := (h).alloc (.cells #[.slice A n c, .int .i64 (l.length : Nat)] 24)
  have B_0 := (Two.new w 24 (.slice A n c) (.int .i64 (l.length : Nat)))
  have Z0 := (Below.refl w.heap.size w).alloc (by simp) (.cells #[.slice A n c, .int .i64 (l.length : Nat)] 24)
  have B_0_c0 := B_0.c0
  have B_0_c1 := B_0.c1
  go_enter Try.func5, Try.ntmps5
  go_wp2_with fail
  refine (build_ok R_0 H01.out hl).mono ?_
  rintro e w1 ⟨A1, c1, A2, n2, c2, rfl, RV, SV, y1⟩
  have R_1 := ((R_0.on y1).alloc (.cells #[.slice A1 n c1, .int .i64 (l.length : Nat), .slice A2 n2 c2] 27)).alloc (.cells #[.int .i64 0, .int .i64 0] 29)
  have B_1 := ((B_0.on y1).alloc (.cells #[.slice A1 n c1, .int .i64 (l.length : Nat), .slice A2 n2 c2] 27)).alloc (.cells #[.int .i64 0, .int .i64 0] 29)
  have RV_1 := ((RV).alloc (.cells #[.slice A1 n c1, .int .i64 (l.length : Nat), .slice A2 n2 c2] 27)).alloc (.cells #[.int .i64 0, .int .i64 0] 29)
  have SV_1 := ((SV).alloc (.cells #[.slice A1 n c1, .int .i64 (l.length : Nat), .slice A2 n2 c2] 27)).alloc (.cells #[.int .i64 0, .int .i64 0] 29)
  have V_1 := ((Three.new w1 27 (.slice A1 n c1) (.int .i64 (l.length : Nat)) (.slice A2 n2 c2))).alloc (.cells #[.int .i64 0, .int .i64 0] 29)
  have F_1 := (Two.new1 w1 (.cells #[.slice A1 n c1, .int .i64 (l.length : Nat), .slice A2 n2 c2] 27) 29 (.int .i64 0) (.int .i64 0))
  clear R_0 B_0 B_0_c0 B_0_c1
  have z1 := Z0.trans (y1.mono Z0.size)
  have Z1 := ((z1).alloc (by have := z1.size; omega) (.cells #[.slice A1 n c1, .int .i64 (l.length : Nat), .slice A2 n2 c2] 27)).alloc (by have := z1.size; simp; omega) (.cells #[.int .i64 0, .int .i64 0] 29)
  have B_1_c0 := B_1.c0
  have B_1_c1 := B_1.c1
  have V_1_c0 := V_1.c0
  have V_1_c1 := V_1.c1
  have V_1_c2 := V_1.c2
  have F_1_c0 := F_1.c0
  have F_1_c1 := F_1.c1
  go_wp2_with fail
  refine (open_ok R_1 H01.out hl).mono ?_
  rintro e w2 ⟨A3, c3, A4, n4, c4, rfl, RX, SX, y2⟩
  have R_2 := ((R_1.on y2).alloc (.cells #[.slice A3 n c3, .int .i64 (l.length : Nat), .slice A4 n4 c4] 48)).alloc (.cells #[.int .i64 0, .int .i64 0] 29)
  have B_2 := ((B_1.on y2).alloc (.cells #[.slice A3 n c3, .int .i64 (l.length : Nat), .slice A4 n4 c4] 48)).alloc (.cells #[.int .i64 0, .int .i64 0] 29)
  have RV_2 := ((RV_1.on y2).alloc (.cells #[.slice A3 n c3, .int .i64 (l.length : Nat), .slice A4 n4 c4] 48)).alloc (.cells #[.int .i64 0, .int .i64 0] 29)
  have SV_2 := ((SV_1.on y2).alloc (.cells #[.slice A3 n c3, .int .i64 (l.length : Nat), .slice A4 n4 c4] 48)).alloc (.cells #[.int .i64 0, .int .i64 0] 29)
  have V_2 := ((V_1.on y2).alloc (.cells #[.slice A3 n c3, .int .i64 (l.length : Nat), .slice A4 n4 c4] 48)).alloc (.cells #[.int .i64 0, .int .i64 0] 29)
  have F_2 := ((F_1.on y2).alloc (.cells #[.slice A3 n c3, .int .i64 (l.length : Nat), .slice A4 n4 c4] 48)).alloc (.cells #[.int .i64 0, .int .i64 0] 29)
  have RX_2 := ((RX).alloc (.cells #[.slice A3 n c3, .int .i64 (l.length : Nat), .slice A4 n4 c4] 48)).alloc (.cells #[.int .i64 0, .int .i64 0] 29)
  have SX_2 := ((SX).alloc (.cells #[.slice A3 n c3, .int .i64 (l.length : Nat), .slice A4 n4 c4] 48)).alloc (.cells #[.int .i64 0, .int .i64 0] 29)
  have X_2 := ((Three.new w2 48 (.slice A3 n c3) (.int .i64 (l.length : Nat)) (.slice A4 n4 c4))).alloc (.cells #[.int .i64 0, .int .i64 0] 29)
  have G_2 := (Two.new1 w2 (.cells #[.slice A3 n c3, .int .i64 (l.length : Nat), .slice A4 n4 c4] 48) 29 (.int .i64 0) (.int .i64 0))
  clear R_1 B_1 B_1_c0 B_1_c1 RV_1 SV_1 V_1 V_1_c0 V_1_c1 V_1_c2 F_1 F_1_c0 F_1_c1
  have z2 := Z1.trans (y2.mono Z1.size)
  have Z2 := ((z2).alloc (by have := z2.size; omega) (.cells #[.slice A3 n c3, .int .i64 (l.length : Nat), .slice A4 n4 c4] 48)).alloc (by have := z2.size; simp; omega) (.cells #[.int .i64 0, .int .i64 0] 29)
  have B_2_c0 := B_2.c0
  have B_2_c1 := B_2.c1
  have V_2_c0 := V_2.c0
  have V_2_c1 := V_2.c1
  have V_2_c2 := V_2.c2
  have F_2_c0 := F_2.c0
  have F_2_c1 := F_2.c1
  have X_2_c0 := X_2.c0
  have X_2_c1 := X_2.c1
  have X_2_c2 := X_2.c2
  have G_2_c0 := G_2.c0
  have G_2_c1 := G_2.c1
  go_wp2_with fail
  refine (ranks_true _).mono ?_
  rintro e w3 ⟨rfl, y3⟩
  have R_3 := R_2.on y3
  have B_3 := B_2.on y3
  have RV_3 := RV_2.on y3
  have SV_3 := SV_2.on y3
  have V_3 := V_2.on y3
  have F_3 := F_2.on y3
  have RX_3 := RX_2.on y3
  have SX_3 := SX_2.on y3
  have X_3 := X_2.on y3
  have G_3 := G_2.on y3
  clear R_2 B_2 B_2_c0 B_2_c1 RV_2 SV_2 V_2 V_2_c0 V_2_c1 V_2_c2 F_2 F_2_c0 F_2_c1 RX_2 SX_2 X_2 X_2_c0 X_2_c1 X_2_c2 G_2 G_2_c0 G_2_c1
  have z3 := Z2.trans (y3.mono Z2.size)
  have Z3 := z3
  have B_3_c0 := B_3.c0
  have B_3_c1 := B_3.c1
  have V_3_c0 := V_3.c0
  have V_3_c1 := V_3.c1
  have V_3_c2 := V_3.c2
  have F_3_c0 := F_3.c0
  have F_3_c1 := F_3.c1
  have X_3_c0 := X_3.c0
  have X_3_c1 := X_3.c1
  have X_3_c2 := X_3.c2
  have G_3_c0 := G_3.c0
  have G_3_c1 := G_3.c1
  go_wp2_with fail
  refine (sel_neg hio RV_3 SV_3 H01.out hl).mono ?_
  rintro e w4 ⟨rfl, y4⟩
  have R_4 := (R_3.on y4).alloc (.cells #[.int .i64 4, .int .i64 (-2)] 29)
  have B_4 := (B_3.on y4).alloc (.cells #[.int .i64 4, .int .i64 (-2)] 29)
  have RV_4 := (RV_3.on y4).alloc (.cells #[.int .i64 4, .int .i64 (-2)] 29)
  have SV_4 := (SV_3.on y4).alloc (.cells #[.int .i64 4, .int .i64 (-2)] 29)
  have V_4 := (V_3.on y4).alloc (.cells #[.int .i64 4, .int .i64 (-2)] 29)
  have F_4 := (F_3.on y4).alloc (.cells #[.int .i64 4, .int .i64 (-2)] 29)
  have RX_4 := (RX_3.on y4).alloc (.cells #[.int .i64 4, .int .i64 (-2)] 29)
  have SX_4 := (SX_3.on y4).alloc (.cells #[.int .i64 4, .int .i64 (-2)] 29)
  have X_4 := (X_3.on y4).alloc (.cells #[.int .i64 4, .int .i64 (-2)] 29)
  have G_4 := (G_3.on y4).alloc (.cells #[.int .i64 4, .int .i64 (-2)] 29)
  have R_b := R_3.on y4
  have B_b := B_3.on y4
  have RV_b := RV_3.on y4
  have SV_b := SV_3.on y4
  have V_b := V_3.on y4
  have F_b := F_3.on y4
  have RX_b := RX_3.on y4
  have SX_b := SX_3.on y4
  have X_b := X_3.on y4
  have G_b := G_3.on y4
  have E_4 := (Two.new w4 29 (.int .i64 4) (.int .i64 (-2)))
  clear R_3 B_3 B_3_c0 B_3_c1 RV_3 SV_3 V_3 V_3_c0 V_3_c1 V_3_c2 F_3 F_3_c0 F_3_c1 RX_3 SX_3 X_3 X_3_c0 X_3_c1 X_3_c2 G_3 G_3_c0 G_3_c1
  have z4 := Z3.trans (y4.mono Z3.size)
  have Z4 := (z4).alloc (by have := z4.size; omega) (.cells #[.int .i64 4, .int .i64 (-2)] 29)
  have CE_4 := (Below.refl w4.heap.size w4).alloc (by simp) (.cells #[.int .i64 4, .int .i64 (-2)] 29)
  have B_4_c0 := B_4.c0
  have B_4_c1 := B_4.c1
  have V_4_c0 := V_4.c0
  have V_4_c1 := V_4.c1
  have V_4_c2 := V_4.c2
  have F_4_c0 := F_4.c0
  have F_4_c1 := F_4.c1
  have X_4_c0 := X_4.c0
  have X_4_c1 := X_4.c1
  have X_4_c2 := X_4.c2
  have G_4_c0 := G_4.c0
  have G_4_c1 := G_4.c1
  have E_4_c0 := E_4.c0
  have E_4_c1 := E_4.c1
  have E_4_f0 := E_4.f0
  have E_4_f1 := E_4.f1
  go_wp2_with fail
  refine (selz_neg hio RV_4 SV_4 H01.out hl).mono ?_
  rintro e w5 ⟨rfl, y5⟩
  have R_5 := R_4.on y5
  have B_5 := B_4.on y5
  have RV_5 := RV_4.on y5
  have SV_5 := SV_4.on y5
  have V_5 := V_4.on y5
  have F_5 := F_4.on y5
  have RX_5 := RX_4.on y5
  have SX_5 := SX_4.on y5
  have X_5 := X_4.on y5
  have G_5 := G_4.on y5
  have E_5 := E_4.on y5
  clear R_4 B_4 B_4_c0 B_4_c1 RV_4 SV_4 V_4 V_4_c0 V_4_c1 V_4_c2 F_4 F_4_c0 F_4_c1 RX_4 SX_4 X_4 X_4_c0 X_4_c1 X_4_c2 G_4 G_4_c0 G_4_c1 E_4 E_4_c0 E_4_c1 E_4_f0 E_4_f1
  have z5 := Z4.trans (y5.mono Z4.size)
  have Z5 := z5
  have cE5 := CE_4.trans (y5.mono CE_4.size)
  have CE_5 := cE5
  have B_5_c0 := B_5.c0
  have B_5_c1 := B_5.c1
  have V_5_c0 := V_5.c0
  have V_5_c1 := V_5.c1
  have V_5_c2 := V_5.c2
  have F_5_c0 := F_5.c0
  have F_5_c1 := F_5.c1
  have X_5_c0 := X_5.c0
  have X_5_c1 := X_5.c1
  have X_5_c2 := X_5.c2
  have G_5_c0 := G_5.c0
  have G_5_c1 := G_5.c1
  have E_5_c0 := E_5.c0
  have E_5_c1 := E_5.c1
  have E_5_f0 := E_5.f0
  have E_5_f1 := E_5.f1
  have CE_6 := (CE_5.setCell (p := ⟨w4.heap.size, 0, none⟩) (by simp) (.int .i64 4)).setCell (p := ⟨w4.heap.size, 1, none⟩) (by simp) (.int .i64 (-2))
  have Z6 := (Z5.setCell (p := ⟨w4.heap.size, 0, none⟩) (by have := z4.size; simp; omega) (.int .i64 4)).setCell (p := ⟨w4.heap.size, 1, none⟩) (by have := z4.size; simp; omega) (.int .i64 (-2))
  have R_6 := R_b.on CE_6
  have B_6 := B_b.on CE_6
  have RV_6 := RV_b.on CE_6
  have SV_6 := SV_b.on CE_6
  have V_6 := V_b.on CE_6
  have F_6 := F_b.on CE_6
  have RX_6 := RX_b.on CE_6
  have SX_6 := SX_b.on CE_6
  have X_6 := X_b.on CE_6
  have G_6 := G_b.on CE_6
  have E_6 := (E_5.set0 (.int .i64 4)).set1 (.int .i64 (-2))
  have B_6_c0 := B_6.c0
  have B_6_c1 := B_6.c1
  have V_6_c0 := V_6.c0
  have V_6_c1 := V_6.c1
  have V_6_c2 := V_6.c2
  have F_6_c0 := F_6.c0
  have F_6_c1 := F_6.c1
  have X_6_c0 := X_6.c0
  have X_6_c1 := X_6.c1
  have X_6_c2 := X_6.c2
  have G_6_c0 := G_6.c0
  have G_6_c1 := G_6.c1
  have E_6_c0 := E_6.c0
  have E_6_c1 := E_6.c1
  have E_6_f0 := E_6.f0
  have E_6_f1 := E_6.f1
  go_wp2
  go_ret
  exact ⟨rfl, Z6⟩
set_option maxRecDepth 100000 in
set_option maxHeartbeats 3200000 in
theorem ri_oo {A : Option Addr} {n c : Nat} {ii : Int} (hilo : -9223372036854775808 ≤ ii) (hihi : ii ≤ 9223372036854775807) {l : List Nat} (h01 : Is01 l) (hl : l.length ≤ 131072) {q : Nat} (hq : ii = (q : Nat)) {px : Nat} (hpx : PlaceAt l q 1 px) {py : Nat} (hpy : PlaceAt l q 0 py)  (w : World) (h : Rd w A n c (bcells (pack l))) :
    Calls Try.prog 5 #[.agg #[.slice A n c, .int .i64 (l.length : Nat)], .int .i64 ii] w fun e w' => e = .returned (.bool true) ∧ Below w.heap.size w w' := by
  have H01 := Lib.hid h01
  have HLL := Lib.hid hl
  have HOK := Lib.hid (Ok.of_list h01 hl)
  clear h01
  subst hq
  obtain ⟨a1, a2, a3, a4⟩ := inv_one H01.out hpx
  have hqx : q ≤ px := a2
  have HPx := Lib.hid hpx
  have X1 := Lib.hid a1
  have X3 := Lib.hid a3
  have X4 := Lib.hid a4
  have hxl : px < l.length := hpx.1
  clear a1 a2 a3 a4 hpx
  obtain ⟨T, b1, b2, b3⟩ := inv_zero H01.out hpy
  have hTy : T ≤ py := by omega
  have hqy : q ≤ py := by omega
  have u1 : IntKind.i64.wrap ((py : Int) - (T : Int)) = (q : Int) := by
    rw [show (q : Int) = (py : Int) - (T : Int) by omega]; exact IntWalk.i64_in _ (by omega)
  have HPy := Lib.hid hpy
  have Y1 := Lib.hid b1
  have Y3 := Lib.hid b3
  have hyl : py < l.length := hpy.1
  clear b1 b2 b3 hpy
  have R_0 := (h).alloc (.cells #[.slice A n c, .int .i64 (l.length : Nat)] 24)
  have B_0 := (Two.new w 24 (.slice A n c) (.int .i64 (l.length : Nat)))
  have Z0 := (Below.refl w.heap.size w).alloc (by simp) (.cells #[.slice A n c, .int .i64 (l.length : Nat)] 24)
  have B_0_c0 := B_0.c0
  have B_0_c1 := B_0.c1
  go_enter Try.func5, Try.ntmps5
  go_wp2_with fail
  refine (build_ok R_0 H01.out hl).mono ?_
  rintro e w1 ⟨A1, c1, A2, n2, c2, rfl, RV, SV, y1⟩
  have R_1 := ((R_0.on y1).alloc (.cells #[.slice A1 n c1, .int .i64 (l.length : Nat), .slice A2 n2 c2] 27)).alloc (.cells #[.int .i64 0, .int .i64 0] 29)
  have B_1 := ((B_0.on y1).alloc (.cells #[.slice A1 n c1, .int .i64 (l.length : Nat), .slice A2 n2 c2] 27)).alloc (.cells #[.int .i64 0, .int .i64 0] 29)
  have RV_1 := ((RV).alloc (.cells #[.slice A1 n c1, .int .i64 (l.length : Nat), .slice A2 n2 c2] 27)).alloc (.cells #[.int .i64 0, .int .i64 0] 29)
  have SV_1 := ((SV).alloc (.cells #[.slice A1 n c1, .int .i64 (l.length : Nat), .slice A2 n2 c2] 27)).alloc (.cells #[.int .i64 0, .int .i64 0] 29)
  have V_1 := ((Three.new w1 27 (.slice A1 n c1) (.int .i64 (l.length : Nat)) (.slice A2 n2 c2))).alloc (.cells #[.int .i64 0, .int .i64 0] 29)
  have F_1 := (Two.new1 w1 (.cells #[.slice A1 n c1, .int .i64 (l.length : Nat), .slice A2 n2 c2] 27) 29 (.int .i64 0) (.int .i64 0))
  clear R_0 B_0 B_0_c0 B_0_c1
  have z1 := Z0.trans (y1.mono Z0.size)
  have Z1 := ((z1).alloc (by have := z1.size; omega) (.cells #[.slice A1 n c1, .int .i64 (l.length : Nat), .slice A2 n2 c2] 27)).alloc (by have := z1.size; simp; omega) (.cells #[.int .i64 0, .int .i64 0] 29)
  have B_1_c0 := B_1.c0
  have B_1_c1 := B_1.c1
  have V_1_c0 := V_1.c0
  have V_1_c1 := V_1.c1
  have V_1_c2 := V_1.c2
  have F_1_c0 := F_1.c0
  have F_1_c1 := F_1.c1
  go_wp2_with fail
  refine (open_ok R_1 H01.out hl).mono ?_
  rintro e w2 ⟨A3, c3, A4, n4, c4, rfl, RX, SX, y2⟩
  have R_2 := ((R_1.on y2).alloc (.cells #[.slice A3 n c3, .int .i64 (l.length : Nat), .slice A4 n4 c4] 48)).alloc (.cells #[.int .i64 0, .int .i64 0] 29)
  have B_2 := ((B_1.on y2).alloc (.cells #[.slice A3 n c3, .int .i64 (l.length : Nat), .slice A4 n4 c4] 48)).alloc (.cells #[.int .i64 0, .int .i64 0] 29)
  have RV_2 := ((RV_1.on y2).alloc (.cells #[.slice A3 n c3, .int .i64 (l.length : Nat), .slice A4 n4 c4] 48)).alloc (.cells #[.int .i64 0, .int .i64 0] 29)
  have SV_2 := ((SV_1.on y2).alloc (.cells #[.slice A3 n c3, .int .i64 (l.length : Nat), .slice A4 n4 c4] 48)).alloc (.cells #[.int .i64 0, .int .i64 0] 29)
  have V_2 := ((V_1.on y2).alloc (.cells #[.slice A3 n c3, .int .i64 (l.length : Nat), .slice A4 n4 c4] 48)).alloc (.cells #[.int .i64 0, .int .i64 0] 29)
  have F_2 := ((F_1.on y2).alloc (.cells #[.slice A3 n c3, .int .i64 (l.length : Nat), .slice A4 n4 c4] 48)).alloc (.cells #[.int .i64 0, .int .i64 0] 29)
  have RX_2 := ((RX).alloc (.cells #[.slice A3 n c3, .int .i64 (l.length : Nat), .slice A4 n4 c4] 48)).alloc (.cells #[.int .i64 0, .int .i64 0] 29)
  have SX_2 := ((SX).alloc (.cells #[.slice A3 n c3, .int .i64 (l.length : Nat), .slice A4 n4 c4] 48)).alloc (.cells #[.int .i64 0, .int .i64 0] 29)
  have X_2 := ((Three.new w2 48 (.slice A3 n c3) (.int .i64 (l.length : Nat)) (.slice A4 n4 c4))).alloc (.cells #[.int .i64 0, .int .i64 0] 29)
  have G_2 := (Two.new1 w2 (.cells #[.slice A3 n c3, .int .i64 (l.length : Nat), .slice A4 n4 c4] 48) 29 (.int .i64 0) (.int .i64 0))
  clear R_1 B_1 B_1_c0 B_1_c1 RV_1 SV_1 V_1 V_1_c0 V_1_c1 V_1_c2 F_1 F_1_c0 F_1_c1
  have z2 := Z1.trans (y2.mono Z1.size)
  have Z2 := ((z2).alloc (by have := z2.size; omega) (.cells #[.slice A3 n c3, .int .i64 (l.length : Nat), .slice A4 n4 c4] 48)).alloc (by have := z2.size; simp; omega) (.cells #[.int .i64 0, .int .i64 0] 29)
  have B_2_c0 := B_2.c0
  have B_2_c1 := B_2.c1
  have V_2_c0 := V_2.c0
  have V_2_c1 := V_2.c1
  have V_2_c2 := V_2.c2
  have F_2_c0 := F_2.c0
  have F_2_c1 := F_2.c1
  have X_2_c0 := X_2.c0
  have X_2_c1 := X_2.c1
  have X_2_c2 := X_2.c2
  have G_2_c0 := G_2.c0
  have G_2_c1 := G_2.c1
  go_wp2_with fail
  refine (ranks_true _).mono ?_
  rintro e w3 ⟨rfl, y3⟩
  have R_3 := R_2.on y3
  have B_3 := B_2.on y3
  have RV_3 := RV_2.on y3
  have SV_3 := SV_2.on y3
  have V_3 := V_2.on y3
  have F_3 := F_2.on y3
  have RX_3 := RX_2.on y3
  have SX_3 := SX_2.on y3
  have X_3 := X_2.on y3
  have G_3 := G_2.on y3
  clear R_2 B_2 B_2_c0 B_2_c1 RV_2 SV_2 V_2 V_2_c0 V_2_c1 V_2_c2 F_2 F_2_c0 F_2_c1 RX_2 SX_2 X_2 X_2_c0 X_2_c1 X_2_c2 G_2 G_2_c0 G_2_c1
  have z3 := Z2.trans (y3.mono Z2.size)
  have Z3 := z3
  have B_3_c0 := B_3.c0
  have B_3_c1 := B_3.c1
  have V_3_c0 := V_3.c0
  have V_3_c1 := V_3.c1
  have V_3_c2 := V_3.c2
  have F_3_c0 := F_3.c0
  have F_3_c1 := F_3.c1
  have X_3_c0 := X_3.c0
  have X_3_c1 := X_3.c1
  have X_3_c2 := X_3.c2
  have G_3_c0 := G_3.c0
  have G_3_c1 := G_3.c1
  go_wp2_with fail
  refine (sel_ok2 rfl rfl rfl (by omega) HPx.out RV_3 SV_3 H01.out hl).mono ?_
  rintro e w4 ⟨rfl, y4⟩
  have R_4 := (R_3.on y4).alloc (.cells #[.int .i64 0, .int .i64 0] 29)
  have B_4 := (B_3.on y4).alloc (.cells #[.int .i64 0, .int .i64 0] 29)
  have RV_4 := (RV_3.on y4).alloc (.cells #[.int .i64 0, .int .i64 0] 29)
  have SV_4 := (SV_3.on y4).alloc (.cells #[.int .i64 0, .int .i64 0] 29)
  have V_4 := (V_3.on y4).alloc (.cells #[.int .i64 0, .int .i64 0] 29)
  have F_4 := (F_3.on y4).alloc (.cells #[.int .i64 0, .int .i64 0] 29)
  have RX_4 := (RX_3.on y4).alloc (.cells #[.int .i64 0, .int .i64 0] 29)
  have SX_4 := (SX_3.on y4).alloc (.cells #[.int .i64 0, .int .i64 0] 29)
  have X_4 := (X_3.on y4).alloc (.cells #[.int .i64 0, .int .i64 0] 29)
  have G_4 := (G_3.on y4).alloc (.cells #[.int .i64 0, .int .i64 0] 29)
  have R_b := R_3.on y4
  have B_b := B_3.on y4
  have RV_b := RV_3.on y4
  have SV_b := SV_3.on y4
  have V_b := V_3.on y4
  have F_b := F_3.on y4
  have RX_b := RX_3.on y4
  have SX_b := SX_3.on y4
  have X_b := X_3.on y4
  have G_b := G_3.on y4
  have E_4 := (Two.new w4 29 (.int .i64 0) (.int .i64 0))
  clear R_3 B_3 B_3_c0 B_3_c1 RV_3 SV_3 V_3 V_3_c0 V_3_c1 V_3_c2 F_3 F_3_c0 F_3_c1 RX_3 SX_3 X_3 X_3_c0 X_3_c1 X_3_c2 G_3 G_3_c0 G_3_c1
  have z4 := Z3.trans (y4.mono Z3.size)
  have Z4 := (z4).alloc (by have := z4.size; omega) (.cells #[.int .i64 0, .int .i64 0] 29)
  have CE_4 := (Below.refl w4.heap.size w4).alloc (by simp) (.cells #[.int .i64 0, .int .i64 0] 29)
  have B_4_c0 := B_4.c0
  have B_4_c1 := B_4.c1
  have V_4_c0 := V_4.c0
  have V_4_c1 := V_4.c1
  have V_4_c2 := V_4.c2
  have F_4_c0 := F_4.c0
  have F_4_c1 := F_4.c1
  have X_4_c0 := X_4.c0
  have X_4_c1 := X_4.c1
  have X_4_c2 := X_4.c2
  have G_4_c0 := G_4.c0
  have G_4_c1 := G_4.c1
  have E_4_c0 := E_4.c0
  have E_4_c1 := E_4.c1
  have E_4_f0 := E_4.f0
  have E_4_f1 := E_4.f1
  go_wp2_with fail
  refine (rk_ok2 (i := px) (r := q) rfl rfl rfl (by omega) X1.out RV_4 SV_4 H01.out hl).mono ?_
  rintro e w5 ⟨rfl, y5⟩
  have R_5 := (R_4.on y5).alloc (.cells #[.int .i64 0, .int .i64 0] 29)
  have B_5 := (B_4.on y5).alloc (.cells #[.int .i64 0, .int .i64 0] 29)
  have RV_5 := (RV_4.on y5).alloc (.cells #[.int .i64 0, .int .i64 0] 29)
  have SV_5 := (SV_4.on y5).alloc (.cells #[.int .i64 0, .int .i64 0] 29)
  have V_5 := (V_4.on y5).alloc (.cells #[.int .i64 0, .int .i64 0] 29)
  have F_5 := (F_4.on y5).alloc (.cells #[.int .i64 0, .int .i64 0] 29)
  have RX_5 := (RX_4.on y5).alloc (.cells #[.int .i64 0, .int .i64 0] 29)
  have SX_5 := (SX_4.on y5).alloc (.cells #[.int .i64 0, .int .i64 0] 29)
  have X_5 := (X_4.on y5).alloc (.cells #[.int .i64 0, .int .i64 0] 29)
  have G_5 := (G_4.on y5).alloc (.cells #[.int .i64 0, .int .i64 0] 29)
  have E_5 := (E_4.on y5).alloc (.cells #[.int .i64 0, .int .i64 0] 29)
  have H_5 := (Two.new w5 29 (.int .i64 0) (.int .i64 0))
  clear R_4 B_4 B_4_c0 B_4_c1 RV_4 SV_4 V_4 V_4_c0 V_4_c1 V_4_c2 F_4 F_4_c0 F_4_c1 RX_4 SX_4 X_4 X_4_c0 X_4_c1 X_4_c2 G_4 G_4_c0 G_4_c1 E_4 E_4_c0 E_4_c1 E_4_f0 E_4_f1
  have z5 := Z4.trans (y5.mono Z4.size)
  have Z5 := (z5).alloc (by have := z5.size; omega) (.cells #[.int .i64 0, .int .i64 0] 29)
  have cE5 := CE_4.trans (y5.mono CE_4.size)
  have CE_5 := (cE5).alloc (by have := cE5.size; omega) (.cells #[.int .i64 0, .int .i64 0] 29)
  have B_5_c0 := B_5.c0
  have B_5_c1 := B_5.c1
  have V_5_c0 := V_5.c0
  have V_5_c1 := V_5.c1
  have V_5_c2 := V_5.c2
  have F_5_c0 := F_5.c0
  have F_5_c1 := F_5.c1
  have X_5_c0 := X_5.c0
  have X_5_c1 := X_5.c1
  have X_5_c2 := X_5.c2
  have G_5_c0 := G_5.c0
  have G_5_c1 := G_5.c1
  have E_5_c0 := E_5.c0
  have E_5_c1 := E_5.c1
  have E_5_f0 := E_5.f0
  have E_5_f1 := E_5.f1
  have H_5_c0 := H_5.c0
  have H_5_c1 := H_5.c1
  go_wp2_with fail
  refine (rbit_ok2 rfl RX_5 SX_5 H01.out hl (by omega) (by omega) X3.out).mono ?_
  rintro e w6 ⟨rfl, y6⟩
  have R_6 := R_5.on y6
  have B_6 := B_5.on y6
  have RV_6 := RV_5.on y6
  have SV_6 := SV_5.on y6
  have V_6 := V_5.on y6
  have F_6 := F_5.on y6
  have RX_6 := RX_5.on y6
  have SX_6 := SX_5.on y6
  have X_6 := X_5.on y6
  have G_6 := G_5.on y6
  have E_6 := E_5.on y6
  have H_6 := H_5.on y6
  clear R_5 B_5 B_5_c0 B_5_c1 RV_5 SV_5 V_5 V_5_c0 V_5_c1 V_5_c2 F_5 F_5_c0 F_5_c1 RX_5 SX_5 X_5 X_5_c0 X_5_c1 X_5_c2 G_5 G_5_c0 G_5_c1 E_5 E_5_c0 E_5_c1 E_5_f0 E_5_f1 H_5 H_5_c0 H_5_c1
  have z6 := Z5.trans (y6.mono Z5.size)
  have Z6 := z6
  have cE6 := CE_5.trans (y6.mono CE_5.size)
  have CE_6 := cE6
  have B_6_c0 := B_6.c0
  have B_6_c1 := B_6.c1
  have V_6_c0 := V_6.c0
  have V_6_c1 := V_6.c1
  have V_6_c2 := V_6.c2
  have F_6_c0 := F_6.c0
  have F_6_c1 := F_6.c1
  have X_6_c0 := X_6.c0
  have X_6_c1 := X_6.c1
  have X_6_c2 := X_6.c2
  have G_6_c0 := G_6.c0
  have G_6_c1 := G_6.c1
  have E_6_c0 := E_6.c0
  have E_6_c1 := E_6.c1
  have E_6_f0 := E_6.f0
  have E_6_f1 := E_6.f1
  have H_6_c0 := H_6.c0
  have H_6_c1 := H_6.c1
  go_wp2_with fail
  refine (rrank_ok2 (ri := (q : Int) + 1) (r := q + 1) (by omega) rfl RX_6 SX_6 H01.out hl (by omega) (by omega) X4.out).mono ?_
  rintro e w7 ⟨rfl, y7⟩
  have R_7 := R_6.on y7
  have B_7 := B_6.on y7
  have RV_7 := RV_6.on y7
  have SV_7 := SV_6.on y7
  have V_7 := V_6.on y7
  have F_7 := F_6.on y7
  have RX_7 := RX_6.on y7
  have SX_7 := SX_6.on y7
  have X_7 := X_6.on y7
  have G_7 := G_6.on y7
  have E_7 := E_6.on y7
  have H_7 := H_6.on y7
  clear R_6 B_6 B_6_c0 B_6_c1 RV_6 SV_6 V_6 V_6_c0 V_6_c1 V_6_c2 F_6 F_6_c0 F_6_c1 RX_6 SX_6 X_6 X_6_c0 X_6_c1 X_6_c2 G_6 G_6_c0 G_6_c1 E_6 E_6_c0 E_6_c1 E_6_f0 E_6_f1 H_6 H_6_c0 H_6_c1
  have z7 := Z6.trans (y7.mono Z6.size)
  have Z7 := z7
  have cE7 := CE_6.trans (y7.mono CE_6.size)
  have CE_7 := cE7
  have B_7_c0 := B_7.c0
  have B_7_c1 := B_7.c1
  have V_7_c0 := V_7.c0
  have V_7_c1 := V_7.c1
  have V_7_c2 := V_7.c2
  have F_7_c0 := F_7.c0
  have F_7_c1 := F_7.c1
  have X_7_c0 := X_7.c0
  have X_7_c1 := X_7.c1
  have X_7_c2 := X_7.c2
  have G_7_c0 := G_7.c0
  have G_7_c1 := G_7.c1
  have E_7_c0 := E_7.c0
  have E_7_c1 := E_7.c1
  have E_7_f0 := E_7.f0
  have E_7_f1 := E_7.f1
  have H_7_c0 := H_7.c0
  have H_7_c1 := H_7.c1
  clear H_7 H_7_c0 H_7_c1
  go_wp2_with fail
  refine (selz_ok2 rfl rfl rfl (by omega) HPy.out RV_7 SV_7 H01.out hl).mono ?_
  rintro e w8 ⟨rfl, y8⟩
  have R_8 := R_7.on y8
  have B_8 := B_7.on y8
  have RV_8 := RV_7.on y8
  have SV_8 := SV_7.on y8
  have V_8 := V_7.on y8
  have F_8 := F_7.on y8
  have RX_8 := RX_7.on y8
  have SX_8 := SX_7.on y8
  have X_8 := X_7.on y8
  have G_8 := G_7.on y8
  have E_8 := E_7.on y8
  clear R_7 B_7 B_7_c0 B_7_c1 RV_7 SV_7 V_7 V_7_c0 V_7_c1 V_7_c2 F_7 F_7_c0 F_7_c1 RX_7 SX_7 X_7 X_7_c0 X_7_c1 X_7_c2 G_7 G_7_c0 G_7_c1 E_7 E_7_c0 E_7_c1 E_7_f0 E_7_f1
  have z8 := Z7.trans (y8.mono Z7.size)
  have Z8 := z8
  have cE8 := CE_7.trans (y8.mono CE_7.size)
  have CE_8 := cE8
  have B_8_c0 := B_8.c0
  have B_8_c1 := B_8.c1
  have V_8_c0 := V_8.c0
  have V_8_c1 := V_8.c1
  have V_8_c2 := V_8.c2
  have F_8_c0 := F_8.c0
  have F_8_c1 := F_8.c1
  have X_8_c0 := X_8.c0
  have X_8_c1 := X_8.c1
  have X_8_c2 := X_8.c2
  have G_8_c0 := G_8.c0
  have G_8_c1 := G_8.c1
  have E_8_c0 := E_8.c0
  have E_8_c1 := E_8.c1
  have E_8_f0 := E_8.f0
  have E_8_f1 := E_8.f1
  have CE_9 := (CE_8.setCell (p := ⟨w4.heap.size, 0, none⟩) (by simp) (.int .i64 0)).setCell (p := ⟨w4.heap.size, 1, none⟩) (by simp) (.int .i64 0)
  have Z9 := (Z8.setCell (p := ⟨w4.heap.size, 0, none⟩) (by have := z4.size; simp; omega) (.int .i64 0)).setCell (p := ⟨w4.heap.size, 1, none⟩) (by have := z4.size; simp; omega) (.int .i64 0)
  have R_9 := R_b.on CE_9
  have B_9 := B_b.on CE_9
  have RV_9 := RV_b.on CE_9
  have SV_9 := SV_b.on CE_9
  have V_9 := V_b.on CE_9
  have F_9 := F_b.on CE_9
  have RX_9 := RX_b.on CE_9
  have SX_9 := SX_b.on CE_9
  have X_9 := X_b.on CE_9
  have G_9 := G_b.on CE_9
  have E_9 := (E_8.set0 (.int .i64 0)).set1 (.int .i64 0)
  have B_9_c0 := B_9.c0
  have B_9_c1 := B_9.c1
  have V_9_c0 := V_9.c0
  have V_9_c1 := V_9.c1
  have V_9_c2 := V_9.c2
  have F_9_c0 := F_9.c0
  have F_9_c1 := F_9.c1
  have X_9_c0 := X_9.c0
  have X_9_c1 := X_9.c1
  have X_9_c2 := X_9.c2
  have G_9_c0 := G_9.c0
  have G_9_c1 := G_9.c1
  have E_9_c0 := E_9.c0
  have E_9_c1 := E_9.c1
  have E_9_f0 := E_9.f0
  have E_9_f1 := E_9.f1
  go_wp2_with fail
  refine (rk_ok2 (i := py) (r := T) rfl rfl rfl (by omega) Y1.out RV_9 SV_9 H01.out hl).mono ?_
  rintro e w10 ⟨rfl, y10⟩
  have R_10 := (R_9.on y10).alloc (.cells #[.int .i64 0, .int .i64 0] 29)
  have B_10 := (B_9.on y10).alloc (.cells #[.int .i64 0, .int .i64 0] 29)
  have RV_10 := (RV_9.on y10).alloc (.cells #[.int .i64 0, .int .i64 0] 29)
  have SV_10 := (SV_9.on y10).alloc (.cells #[.int .i64 0, .int .i64 0] 29)
  have V_10 := (V_9.on y10).alloc (.cells #[.int .i64 0, .int .i64 0] 29)
  have F_10 := (F_9.on y10).alloc (.cells #[.int .i64 0, .int .i64 0] 29)
  have RX_10 := (RX_9.on y10).alloc (.cells #[.int .i64 0, .int .i64 0] 29)
  have SX_10 := (SX_9.on y10).alloc (.cells #[.int .i64 0, .int .i64 0] 29)
  have X_10 := (X_9.on y10).alloc (.cells #[.int .i64 0, .int .i64 0] 29)
  have G_10 := (G_9.on y10).alloc (.cells #[.int .i64 0, .int .i64 0] 29)
  have E_10 := (E_9.on y10).alloc (.cells #[.int .i64 0, .int .i64 0] 29)
  have J_10 := (Two.new w10 29 (.int .i64 0) (.int .i64 0))
  clear R_8 B_8 B_8_c0 B_8_c1 RV_8 SV_8 V_8 V_8_c0 V_8_c1 V_8_c2 F_8 F_8_c0 F_8_c1 RX_8 SX_8 X_8 X_8_c0 X_8_c1 X_8_c2 G_8 G_8_c0 G_8_c1 E_8 E_8_c0 E_8_c1 E_8_f0 E_8_f1 R_9 B_9 B_9_c0 B_9_c1 RV_9 SV_9 V_9 V_9_c0 V_9_c1 V_9_c2 F_9 F_9_c0 F_9_c1 RX_9 SX_9 X_9 X_9_c0 X_9_c1 X_9_c2 G_9 G_9_c0 G_9_c1 E_9 E_9_c0 E_9_c1 E_9_f0 E_9_f1
  have z10 := Z9.trans (y10.mono Z9.size)
  have Z10 := (z10).alloc (by have := z10.size; omega) (.cells #[.int .i64 0, .int .i64 0] 29)
  have cE10 := CE_9.trans (y10.mono CE_9.size)
  have CE_10 := (cE10).alloc (by have := cE10.size; omega) (.cells #[.int .i64 0, .int .i64 0] 29)
  have B_10_c0 := B_10.c0
  have B_10_c1 := B_10.c1
  have V_10_c0 := V_10.c0
  have V_10_c1 := V_10.c1
  have V_10_c2 := V_10.c2
  have F_10_c0 := F_10.c0
  have F_10_c1 := F_10.c1
  have X_10_c0 := X_10.c0
  have X_10_c1 := X_10.c1
  have X_10_c2 := X_10.c2
  have G_10_c0 := G_10.c0
  have G_10_c1 := G_10.c1
  have E_10_c0 := E_10.c0
  have E_10_c1 := E_10.c1
  have E_10_f0 := E_10.f0
  have E_10_f1 := E_10.f1
  have J_10_c0 := J_10.c0
  have J_10_c1 := J_10.c1
  go_wp2_with fail
  refine (rbit_ok2 rfl RX_10 SX_10 H01.out hl (by omega) (by omega) Y3.out).mono ?_
  rintro e w11 ⟨rfl, y11⟩
  have R_11 := R_10.on y11
  have B_11 := B_10.on y11
  have RV_11 := RV_10.on y11
  have SV_11 := SV_10.on y11
  have V_11 := V_10.on y11
  have F_11 := F_10.on y11
  have RX_11 := RX_10.on y11
  have SX_11 := SX_10.on y11
  have X_11 := X_10.on y11
  have G_11 := G_10.on y11
  have E_11 := E_10.on y11
  have J_11 := J_10.on y11
  clear R_10 B_10 B_10_c0 B_10_c1 RV_10 SV_10 V_10 V_10_c0 V_10_c1 V_10_c2 F_10 F_10_c0 F_10_c1 RX_10 SX_10 X_10 X_10_c0 X_10_c1 X_10_c2 G_10 G_10_c0 G_10_c1 E_10 E_10_c0 E_10_c1 E_10_f0 E_10_f1 J_10 J_10_c0 J_10_c1
  have z11 := Z10.trans (y11.mono Z10.size)
  have Z11 := z11
  have cE11 := CE_10.trans (y11.mono CE_10.size)
  have CE_11 := cE11
  have B_11_c0 := B_11.c0
  have B_11_c1 := B_11.c1
  have V_11_c0 := V_11.c0
  have V_11_c1 := V_11.c1
  have V_11_c2 := V_11.c2
  have F_11_c0 := F_11.c0
  have F_11_c1 := F_11.c1
  have X_11_c0 := X_11.c0
  have X_11_c1 := X_11.c1
  have X_11_c2 := X_11.c2
  have G_11_c0 := G_11.c0
  have G_11_c1 := G_11.c1
  have E_11_c0 := E_11.c0
  have E_11_c1 := E_11.c1
  have E_11_f0 := E_11.f0
  have E_11_f1 := E_11.f1
  have J_11_c0 := J_11.c0
  have J_11_c1 := J_11.c1
  go_wp2_with fail
  refine (rlen_any _).mono ?_
  rintro e w12 ⟨rfl, y12⟩
  have R_12 := R_11.on y12
  have B_12 := B_11.on y12
  have RV_12 := RV_11.on y12
  have SV_12 := SV_11.on y12
  have V_12 := V_11.on y12
  have F_12 := F_11.on y12
  have RX_12 := RX_11.on y12
  have SX_12 := SX_11.on y12
  have X_12 := X_11.on y12
  have G_12 := G_11.on y12
  have E_12 := E_11.on y12
  have J_12 := J_11.on y12
  clear R_11 B_11 B_11_c0 B_11_c1 RV_11 SV_11 V_11 V_11_c0 V_11_c1 V_11_c2 F_11 F_11_c0 F_11_c1 RX_11 SX_11 X_11 X_11_c0 X_11_c1 X_11_c2 G_11 G_11_c0 G_11_c1 E_11 E_11_c0 E_11_c1 E_11_f0 E_11_f1 J_11 J_11_c0 J_11_c1
  have z12 := Z11.trans (y12.mono Z11.size)
  have Z12 := z12
  have cE12 := CE_11.trans (y12.mono CE_11.size)
  have CE_12 := cE12
  have B_12_c0 := B_12.c0
  have B_12_c1 := B_12.c1
  have V_12_c0 := V_12.c0
  have V_12_c1 := V_12.c1
  have V_12_c2 := V_12.c2
  have F_12_c0 := F_12.c0
  have F_12_c1 := F_12.c1
  have X_12_c0 := X_12.c0
  have X_12_c1 := X_12.c1
  have X_12_c2 := X_12.c2
  have G_12_c0 := G_12.c0
  have G_12_c1 := G_12.c1
  have E_12_c0 := E_12.c0
  have E_12_c1 := E_12.c1
  have E_12_f0 := E_12.f0
  have E_12_f1 := E_12.f1
  have J_12_c0 := J_12.c0
  have J_12_c1 := J_12.c1
  go_wp2_with fail
  refine (in_yes _ _ _ _ (by omega) (by omega)).mono ?_
  rintro e w9_1 ⟨rfl, rfl⟩
  go_wp2
  go_ret
  exact ⟨rfl, Z12⟩
set_option maxRecDepth 100000 in
set_option maxHeartbeats 3200000 in
theorem ri_ox {A : Option Addr} {n c : Nat} {ii : Int} (hilo : -9223372036854775808 ≤ ii) (hihi : ii ≤ 9223372036854775807) {l : List Nat} (h01 : Is01 l) (hl : l.length ≤ 131072) {q : Nat} (hq : ii = (q : Nat)) {px : Nat} (hpx : PlaceAt l q 1 px) (hpy : NoPlace l q 0)  (w : World) (h : Rd w A n c (bcells (pack l))) :
    Calls Try.prog 5 #[.agg #[.slice A n c, .int .i64 (l.length : Nat)], .int .i64 ii] w fun e w' => e = .returned (.bool true) ∧ Below w.heap.size w w' := by
  have H01 := Lib.hid h01
  have HLL := Lib.hid hl
  have HOK := Lib.hid (Ok.of_list h01 hl)
  clear h01
  subst hq
  obtain ⟨a1, a2, a3, a4⟩ := inv_one H01.out hpx
  have hqx : q ≤ px := a2
  have HPx := Lib.hid hpx
  have X1 := Lib.hid a1
  have X3 := Lib.hid a3
  have X4 := Lib.hid a4
  have hxl : px < l.length := hpx.1
  clear a1 a2 a3 a4 hpx
  have HPy := Lib.hid hpy
  clear hpy
  have R_0 := (h).alloc (.cells #[.slice A n c, .int .i64 (l.length : Nat)] 24)
  have B_0 := (Two.new w 24 (.slice A n c) (.int .i64 (l.length : Nat)))
  have Z0 := (Below.refl w.heap.size w).alloc (by simp) (.cells #[.slice A n c, .int .i64 (l.length : Nat)] 24)
  have B_0_c0 := B_0.c0
  have B_0_c1 := B_0.c1
  go_enter Try.func5, Try.ntmps5
  go_wp2_with fail
  refine (build_ok R_0 H01.out hl).mono ?_
  rintro e w1 ⟨A1, c1, A2, n2, c2, rfl, RV, SV, y1⟩
  have R_1 := ((R_0.on y1).alloc (.cells #[.slice A1 n c1, .int .i64 (l.length : Nat), .slice A2 n2 c2] 27)).alloc (.cells #[.int .i64 0, .int .i64 0] 29)
  have B_1 := ((B_0.on y1).alloc (.cells #[.slice A1 n c1, .int .i64 (l.length : Nat), .slice A2 n2 c2] 27)).alloc (.cells #[.int .i64 0, .int .i64 0] 29)
  have RV_1 := ((RV).alloc (.cells #[.slice A1 n c1, .int .i64 (l.length : Nat), .slice A2 n2 c2] 27)).alloc (.cells #[.int .i64 0, .int .i64 0] 29)
  have SV_1 := ((SV).alloc (.cells #[.slice A1 n c1, .int .i64 (l.length : Nat), .slice A2 n2 c2] 27)).alloc (.cells #[.int .i64 0, .int .i64 0] 29)
  have V_1 := ((Three.new w1 27 (.slice A1 n c1) (.int .i64 (l.length : Nat)) (.slice A2 n2 c2))).alloc (.cells #[.int .i64 0, .int .i64 0] 29)
  have F_1 := (Two.new1 w1 (.cells #[.slice A1 n c1, .int .i64 (l.length : Nat), .slice A2 n2 c2] 27) 29 (.int .i64 0) (.int .i64 0))
  clear R_0 B_0 B_0_c0 B_0_c1
  have z1 := Z0.trans (y1.mono Z0.size)
  have Z1 := ((z1).alloc (by have := z1.size; omega) (.cells #[.slice A1 n c1, .int .i64 (l.length : Nat), .slice A2 n2 c2] 27)).alloc (by have := z1.size; simp; omega) (.cells #[.int .i64 0, .int .i64 0] 29)
  have B_1_c0 := B_1.c0
  have B_1_c1 := B_1.c1
  have V_1_c0 := V_1.c0
  have V_1_c1 := V_1.c1
  have V_1_c2 := V_1.c2
  have F_1_c0 := F_1.c0
  have F_1_c1 := F_1.c1
  go_wp2_with fail
  refine (open_ok R_1 H01.out hl).mono ?_
  rintro e w2 ⟨A3, c3, A4, n4, c4, rfl, RX, SX, y2⟩
  have R_2 := ((R_1.on y2).alloc (.cells #[.slice A3 n c3, .int .i64 (l.length : Nat), .slice A4 n4 c4] 48)).alloc (.cells #[.int .i64 0, .int .i64 0] 29)
  have B_2 := ((B_1.on y2).alloc (.cells #[.slice A3 n c3, .int .i64 (l.length : Nat), .slice A4 n4 c4] 48)).alloc (.cells #[.int .i64 0, .int .i64 0] 29)
  have RV_2 := ((RV_1.on y2).alloc (.cells #[.slice A3 n c3, .int .i64 (l.length : Nat), .slice A4 n4 c4] 48)).alloc (.cells #[.int .i64 0, .int .i64 0] 29)
  have SV_2 := ((SV_1.on y2).alloc (.cells #[.slice A3 n c3, .int .i64 (l.length : Nat), .slice A4 n4 c4] 48)).alloc (.cells #[.int .i64 0, .int .i64 0] 29)
  have V_2 := ((V_1.on y2).alloc (.cells #[.slice A3 n c3, .int .i64 (l.length : Nat), .slice A4 n4 c4] 48)).alloc (.cells #[.int .i64 0, .int .i64 0] 29)
  have F_2 := ((F_1.on y2).alloc (.cells #[.slice A3 n c3, .int .i64 (l.length : Nat), .slice A4 n4 c4] 48)).alloc (.cells #[.int .i64 0, .int .i64 0] 29)
  have RX_2 := ((RX).alloc (.cells #[.slice A3 n c3, .int .i64 (l.length : Nat), .slice A4 n4 c4] 48)).alloc (.cells #[.int .i64 0, .int .i64 0] 29)
  have SX_2 := ((SX).alloc (.cells #[.slice A3 n c3, .int .i64 (l.length : Nat), .slice A4 n4 c4] 48)).alloc (.cells #[.int .i64 0, .int .i64 0] 29)
  have X_2 := ((Three.new w2 48 (.slice A3 n c3) (.int .i64 (l.length : Nat)) (.slice A4 n4 c4))).alloc (.cells #[.int .i64 0, .int .i64 0] 29)
  have G_2 := (Two.new1 w2 (.cells #[.slice A3 n c3, .int .i64 (l.length : Nat), .slice A4 n4 c4] 48) 29 (.int .i64 0) (.int .i64 0))
  clear R_1 B_1 B_1_c0 B_1_c1 RV_1 SV_1 V_1 V_1_c0 V_1_c1 V_1_c2 F_1 F_1_c0 F_1_c1
  have z2 := Z1.trans (y2.mono Z1.size)
  have Z2 := ((z2).alloc (by have := z2.size; omega) (.cells #[.slice A3 n c3, .int .i64 (l.length : Nat), .slice A4 n4 c4] 48)).alloc (by have := z2.size; simp; omega) (.cells #[.int .i64 0, .int .i64 0] 29)
  have B_2_c0 := B_2.c0
  have B_2_c1 := B_2.c1
  have V_2_c0 := V_2.c0
  have V_2_c1 := V_2.c1
  have V_2_c2 := V_2.c2
  have F_2_c0 := F_2.c0
  have F_2_c1 := F_2.c1
  have X_2_c0 := X_2.c0
  have X_2_c1 := X_2.c1
  have X_2_c2 := X_2.c2
  have G_2_c0 := G_2.c0
  have G_2_c1 := G_2.c1
  go_wp2_with fail
  refine (ranks_true _).mono ?_
  rintro e w3 ⟨rfl, y3⟩
  have R_3 := R_2.on y3
  have B_3 := B_2.on y3
  have RV_3 := RV_2.on y3
  have SV_3 := SV_2.on y3
  have V_3 := V_2.on y3
  have F_3 := F_2.on y3
  have RX_3 := RX_2.on y3
  have SX_3 := SX_2.on y3
  have X_3 := X_2.on y3
  have G_3 := G_2.on y3
  clear R_2 B_2 B_2_c0 B_2_c1 RV_2 SV_2 V_2 V_2_c0 V_2_c1 V_2_c2 F_2 F_2_c0 F_2_c1 RX_2 SX_2 X_2 X_2_c0 X_2_c1 X_2_c2 G_2 G_2_c0 G_2_c1
  have z3 := Z2.trans (y3.mono Z2.size)
  have Z3 := z3
  have B_3_c0 := B_3.c0
  have B_3_c1 := B_3.c1
  have V_3_c0 := V_3.c0
  have V_3_c1 := V_3.c1
  have V_3_c2 := V_3.c2
  have F_3_c0 := F_3.c0
  have F_3_c1 := F_3.c1
  have X_3_c0 := X_3.c0
  have X_3_c1 := X_3.c1
  have X_3_c2 := X_3.c2
  have G_3_c0 := G_3.c0
  have G_3_c1 := G_3.c1
  go_wp2_with fail
  refine (sel_ok2 rfl rfl rfl (by omega) HPx.out RV_3 SV_3 H01.out hl).mono ?_
  rintro e w4 ⟨rfl, y4⟩
  have R_4 := (R_3.on y4).alloc (.cells #[.int .i64 0, .int .i64 0] 29)
  have B_4 := (B_3.on y4).alloc (.cells #[.int .i64 0, .int .i64 0] 29)
  have RV_4 := (RV_3.on y4).alloc (.cells #[.int .i64 0, .int .i64 0] 29)
  have SV_4 := (SV_3.on y4).alloc (.cells #[.int .i64 0, .int .i64 0] 29)
  have V_4 := (V_3.on y4).alloc (.cells #[.int .i64 0, .int .i64 0] 29)
  have F_4 := (F_3.on y4).alloc (.cells #[.int .i64 0, .int .i64 0] 29)
  have RX_4 := (RX_3.on y4).alloc (.cells #[.int .i64 0, .int .i64 0] 29)
  have SX_4 := (SX_3.on y4).alloc (.cells #[.int .i64 0, .int .i64 0] 29)
  have X_4 := (X_3.on y4).alloc (.cells #[.int .i64 0, .int .i64 0] 29)
  have G_4 := (G_3.on y4).alloc (.cells #[.int .i64 0, .int .i64 0] 29)
  have R_b := R_3.on y4
  have B_b := B_3.on y4
  have RV_b := RV_3.on y4
  have SV_b := SV_3.on y4
  have V_b := V_3.on y4
  have F_b := F_3.on y4
  have RX_b := RX_3.on y4
  have SX_b := SX_3.on y4
  have X_b := X_3.on y4
  have G_b := G_3.on y4
  have E_4 := (Two.new w4 29 (.int .i64 0) (.int .i64 0))
  clear R_3 B_3 B_3_c0 B_3_c1 RV_3 SV_3 V_3 V_3_c0 V_3_c1 V_3_c2 F_3 F_3_c0 F_3_c1 RX_3 SX_3 X_3 X_3_c0 X_3_c1 X_3_c2 G_3 G_3_c0 G_3_c1
  have z4 := Z3.trans (y4.mono Z3.size)
  have Z4 := (z4).alloc (by have := z4.size; omega) (.cells #[.int .i64 0, .int .i64 0] 29)
  have CE_4 := (Below.refl w4.heap.size w4).alloc (by simp) (.cells #[.int .i64 0, .int .i64 0] 29)
  have B_4_c0 := B_4.c0
  have B_4_c1 := B_4.c1
  have V_4_c0 := V_4.c0
  have V_4_c1 := V_4.c1
  have V_4_c2 := V_4.c2
  have F_4_c0 := F_4.c0
  have F_4_c1 := F_4.c1
  have X_4_c0 := X_4.c0
  have X_4_c1 := X_4.c1
  have X_4_c2 := X_4.c2
  have G_4_c0 := G_4.c0
  have G_4_c1 := G_4.c1
  have E_4_c0 := E_4.c0
  have E_4_c1 := E_4.c1
  have E_4_f0 := E_4.f0
  have E_4_f1 := E_4.f1
  go_wp2_with fail
  refine (rk_ok2 (i := px) (r := q) rfl rfl rfl (by omega) X1.out RV_4 SV_4 H01.out hl).mono ?_
  rintro e w5 ⟨rfl, y5⟩
  have R_5 := (R_4.on y5).alloc (.cells #[.int .i64 0, .int .i64 0] 29)
  have B_5 := (B_4.on y5).alloc (.cells #[.int .i64 0, .int .i64 0] 29)
  have RV_5 := (RV_4.on y5).alloc (.cells #[.int .i64 0, .int .i64 0] 29)
  have SV_5 := (SV_4.on y5).alloc (.cells #[.int .i64 0, .int .i64 0] 29)
  have V_5 := (V_4.on y5).alloc (.cells #[.int .i64 0, .int .i64 0] 29)
  have F_5 := (F_4.on y5).alloc (.cells #[.int .i64 0, .int .i64 0] 29)
  have RX_5 := (RX_4.on y5).alloc (.cells #[.int .i64 0, .int .i64 0] 29)
  have SX_5 := (SX_4.on y5).alloc (.cells #[.int .i64 0, .int .i64 0] 29)
  have X_5 := (X_4.on y5).alloc (.cells #[.int .i64 0, .int .i64 0] 29)
  have G_5 := (G_4.on y5).alloc (.cells #[.int .i64 0, .int .i64 0] 29)
  have E_5 := (E_4.on y5).alloc (.cells #[.int .i64 0, .int .i64 0] 29)
  have H_5 := (Two.new w5 29 (.int .i64 0) (.int .i64 0))
  clear R_4 B_4 B_4_c0 B_4_c1 RV_4 SV_4 V_4 V_4_c0 V_4_c1 V_4_c2 F_4 F_4_c0 F_4_c1 RX_4 SX_4 X_4 X_4_c0 X_4_c1 X_4_c2 G_4 G_4_c0 G_4_c1 E_4 E_4_c0 E_4_c1 E_4_f0 E_4_f1
  have z5 := Z4.trans (y5.mono Z4.size)
  have Z5 := (z5).alloc (by have := z5.size; omega) (.cells #[.int .i64 0, .int .i64 0] 29)
  have cE5 := CE_4.trans (y5.mono CE_4.size)
  have CE_5 := (cE5).alloc (by have := cE5.size; omega) (.cells #[.int .i64 0, .int .i64 0] 29)
  have B_5_c0 := B_5.c0
  have B_5_c1 := B_5.c1
  have V_5_c0 := V_5.c0
  have V_5_c1 := V_5.c1
  have V_5_c2 := V_5.c2
  have F_5_c0 := F_5.c0
  have F_5_c1 := F_5.c1
  have X_5_c0 := X_5.c0
  have X_5_c1 := X_5.c1
  have X_5_c2 := X_5.c2
  have G_5_c0 := G_5.c0
  have G_5_c1 := G_5.c1
  have E_5_c0 := E_5.c0
  have E_5_c1 := E_5.c1
  have E_5_f0 := E_5.f0
  have E_5_f1 := E_5.f1
  have H_5_c0 := H_5.c0
  have H_5_c1 := H_5.c1
  go_wp2_with fail
  refine (rbit_ok2 rfl RX_5 SX_5 H01.out hl (by omega) (by omega) X3.out).mono ?_
  rintro e w6 ⟨rfl, y6⟩
  have R_6 := R_5.on y6
  have B_6 := B_5.on y6
  have RV_6 := RV_5.on y6
  have SV_6 := SV_5.on y6
  have V_6 := V_5.on y6
  have F_6 := F_5.on y6
  have RX_6 := RX_5.on y6
  have SX_6 := SX_5.on y6
  have X_6 := X_5.on y6
  have G_6 := G_5.on y6
  have E_6 := E_5.on y6
  have H_6 := H_5.on y6
  clear R_5 B_5 B_5_c0 B_5_c1 RV_5 SV_5 V_5 V_5_c0 V_5_c1 V_5_c2 F_5 F_5_c0 F_5_c1 RX_5 SX_5 X_5 X_5_c0 X_5_c1 X_5_c2 G_5 G_5_c0 G_5_c1 E_5 E_5_c0 E_5_c1 E_5_f0 E_5_f1 H_5 H_5_c0 H_5_c1
  have z6 := Z5.trans (y6.mono Z5.size)
  have Z6 := z6
  have cE6 := CE_5.trans (y6.mono CE_5.size)
  have CE_6 := cE6
  have B_6_c0 := B_6.c0
  have B_6_c1 := B_6.c1
  have V_6_c0 := V_6.c0
  have V_6_c1 := V_6.c1
  have V_6_c2 := V_6.c2
  have F_6_c0 := F_6.c0
  have F_6_c1 := F_6.c1
  have X_6_c0 := X_6.c0
  have X_6_c1 := X_6.c1
  have X_6_c2 := X_6.c2
  have G_6_c0 := G_6.c0
  have G_6_c1 := G_6.c1
  have E_6_c0 := E_6.c0
  have E_6_c1 := E_6.c1
  have E_6_f0 := E_6.f0
  have E_6_f1 := E_6.f1
  have H_6_c0 := H_6.c0
  have H_6_c1 := H_6.c1
  go_wp2_with fail
  refine (rrank_ok2 (ri := (q : Int) + 1) (r := q + 1) (by omega) rfl RX_6 SX_6 H01.out hl (by omega) (by omega) X4.out).mono ?_
  rintro e w7 ⟨rfl, y7⟩
  have R_7 := R_6.on y7
  have B_7 := B_6.on y7
  have RV_7 := RV_6.on y7
  have SV_7 := SV_6.on y7
  have V_7 := V_6.on y7
  have F_7 := F_6.on y7
  have RX_7 := RX_6.on y7
  have SX_7 := SX_6.on y7
  have X_7 := X_6.on y7
  have G_7 := G_6.on y7
  have E_7 := E_6.on y7
  have H_7 := H_6.on y7
  clear R_6 B_6 B_6_c0 B_6_c1 RV_6 SV_6 V_6 V_6_c0 V_6_c1 V_6_c2 F_6 F_6_c0 F_6_c1 RX_6 SX_6 X_6 X_6_c0 X_6_c1 X_6_c2 G_6 G_6_c0 G_6_c1 E_6 E_6_c0 E_6_c1 E_6_f0 E_6_f1 H_6 H_6_c0 H_6_c1
  have z7 := Z6.trans (y7.mono Z6.size)
  have Z7 := z7
  have cE7 := CE_6.trans (y7.mono CE_6.size)
  have CE_7 := cE7
  have B_7_c0 := B_7.c0
  have B_7_c1 := B_7.c1
  have V_7_c0 := V_7.c0
  have V_7_c1 := V_7.c1
  have V_7_c2 := V_7.c2
  have F_7_c0 := F_7.c0
  have F_7_c1 := F_7.c1
  have X_7_c0 := X_7.c0
  have X_7_c1 := X_7.c1
  have X_7_c2 := X_7.c2
  have G_7_c0 := G_7.c0
  have G_7_c1 := G_7.c1
  have E_7_c0 := E_7.c0
  have E_7_c1 := E_7.c1
  have E_7_f0 := E_7.f0
  have E_7_f1 := E_7.f1
  have H_7_c0 := H_7.c0
  have H_7_c1 := H_7.c1
  clear H_7 H_7_c0 H_7_c1
  go_wp2_with fail
  refine (selz_none (by omega) HPy.out RV_7 SV_7 H01.out hl).mono ?_
  rintro e w8 ⟨rfl, y8⟩
  have R_8 := R_7.on y8
  have B_8 := B_7.on y8
  have RV_8 := RV_7.on y8
  have SV_8 := SV_7.on y8
  have V_8 := V_7.on y8
  have F_8 := F_7.on y8
  have RX_8 := RX_7.on y8
  have SX_8 := SX_7.on y8
  have X_8 := X_7.on y8
  have G_8 := G_7.on y8
  have E_8 := E_7.on y8
  clear R_7 B_7 B_7_c0 B_7_c1 RV_7 SV_7 V_7 V_7_c0 V_7_c1 V_7_c2 F_7 F_7_c0 F_7_c1 RX_7 SX_7 X_7 X_7_c0 X_7_c1 X_7_c2 G_7 G_7_c0 G_7_c1 E_7 E_7_c0 E_7_c1 E_7_f0 E_7_f1
  have z8 := Z7.trans (y8.mono Z7.size)
  have Z8 := z8
  have cE8 := CE_7.trans (y8.mono CE_7.size)
  have CE_8 := cE8
  have B_8_c0 := B_8.c0
  have B_8_c1 := B_8.c1
  have V_8_c0 := V_8.c0
  have V_8_c1 := V_8.c1
  have V_8_c2 := V_8.c2
  have F_8_c0 := F_8.c0
  have F_8_c1 := F_8.c1
  have X_8_c0 := X_8.c0
  have X_8_c1 := X_8.c1
  have X_8_c2 := X_8.c2
  have G_8_c0 := G_8.c0
  have G_8_c1 := G_8.c1
  have E_8_c0 := E_8.c0
  have E_8_c1 := E_8.c1
  have E_8_f0 := E_8.f0
  have E_8_f1 := E_8.f1
  have CE_9 := (CE_8.setCell (p := ⟨w4.heap.size, 0, none⟩) (by simp) (.int .i64 4)).setCell (p := ⟨w4.heap.size, 1, none⟩) (by simp) (.int .i64 (-2))
  have Z9 := (Z8.setCell (p := ⟨w4.heap.size, 0, none⟩) (by have := z4.size; simp; omega) (.int .i64 4)).setCell (p := ⟨w4.heap.size, 1, none⟩) (by have := z4.size; simp; omega) (.int .i64 (-2))
  have R_9 := R_b.on CE_9
  have B_9 := B_b.on CE_9
  have RV_9 := RV_b.on CE_9
  have SV_9 := SV_b.on CE_9
  have V_9 := V_b.on CE_9
  have F_9 := F_b.on CE_9
  have RX_9 := RX_b.on CE_9
  have SX_9 := SX_b.on CE_9
  have X_9 := X_b.on CE_9
  have G_9 := G_b.on CE_9
  have E_9 := (E_8.set0 (.int .i64 4)).set1 (.int .i64 (-2))
  have B_9_c0 := B_9.c0
  have B_9_c1 := B_9.c1
  have V_9_c0 := V_9.c0
  have V_9_c1 := V_9.c1
  have V_9_c2 := V_9.c2
  have F_9_c0 := F_9.c0
  have F_9_c1 := F_9.c1
  have X_9_c0 := X_9.c0
  have X_9_c1 := X_9.c1
  have X_9_c2 := X_9.c2
  have G_9_c0 := G_9.c0
  have G_9_c1 := G_9.c1
  have E_9_c0 := E_9.c0
  have E_9_c1 := E_9.c1
  have E_9_f0 := E_9.f0
  have E_9_f1 := E_9.f1
  go_wp2
  go_ret
  exact ⟨rfl, Z9⟩
set_option maxRecDepth 100000 in
set_option maxHeartbeats 3200000 in
theorem ri_xo {A : Option Addr} {n c : Nat} {ii : Int} (hilo : -9223372036854775808 ≤ ii) (hihi : ii ≤ 9223372036854775807) {l : List Nat} (h01 : Is01 l) (hl : l.length ≤ 131072) {q : Nat} (hq : ii = (q : Nat)) (hpx : NoPlace l q 1) {py : Nat} (hpy : PlaceAt l q 0 py)  (w : World) (h : Rd w A n c (bcells (pack l))) :
    Calls Try.prog 5 #[.agg #[.slice A n c, .int .i64 (l.length : Nat)], .int .i64 ii] w fun e w' => e = .returned (.bool true) ∧ Below w.heap.size w w' := by
  have H01 := Lib.hid h01
  have HLL := Lib.hid hl
  have HOK := Lib.hid (Ok.of_list h01 hl)
  clear h01
  subst hq
  have HPx := Lib.hid hpx
  clear hpx
  obtain ⟨T, b1, b2, b3⟩ := inv_zero H01.out hpy
  have hTy : T ≤ py := by omega
  have hqy : q ≤ py := by omega
  have u1 : IntKind.i64.wrap ((py : Int) - (T : Int)) = (q : Int) := by
    rw [show (q : Int) = (py : Int) - (T : Int) by omega]; exact IntWalk.i64_in _ (by omega)
  have HPy := Lib.hid hpy
  have Y1 := Lib.hid b1
  have Y3 := Lib.hid b3
  have hyl : py < l.length := hpy.1
  clear b1 b2 b3 hpy
  have R_0 := (h).alloc (.cells #[.slice A n c, .int .i64 (l.length : Nat)] 24)
  have B_0 := (Two.new w 24 (.slice A n c) (.int .i64 (l.length : Nat)))
  have Z0 := (Below.refl w.heap.size w).alloc (by simp) (.cells #[.slice A n c, .int .i64 (l.length : Nat)] 24)
  have B_0_c0 := B_0.c0
  have B_0_c1 := B_0.c1
  go_enter Try.func5, Try.ntmps5
  go_wp2_with fail
  refine (build_ok R_0 H01.out hl).mono ?_
  rintro e w1 ⟨A1, c1, A2, n2, c2, rfl, RV, SV, y1⟩
  have R_1 := ((R_0.on y1).alloc (.cells #[.slice A1 n c1, .int .i64 (l.length : Nat), .slice A2 n2 c2] 27)).alloc (.cells #[.int .i64 0, .int .i64 0] 29)
  have B_1 := ((B_0.on y1).alloc (.cells #[.slice A1 n c1, .int .i64 (l.length : Nat), .slice A2 n2 c2] 27)).alloc (.cells #[.int .i64 0, .int .i64 0] 29)
  have RV_1 := ((RV).alloc (.cells #[.slice A1 n c1, .int .i64 (l.length : Nat), .slice A2 n2 c2] 27)).alloc (.cells #[.int .i64 0, .int .i64 0] 29)
  have SV_1 := ((SV).alloc (.cells #[.slice A1 n c1, .int .i64 (l.length : Nat), .slice A2 n2 c2] 27)).alloc (.cells #[.int .i64 0, .int .i64 0] 29)
  have V_1 := ((Three.new w1 27 (.slice A1 n c1) (.int .i64 (l.length : Nat)) (.slice A2 n2 c2))).alloc (.cells #[.int .i64 0, .int .i64 0] 29)
  have F_1 := (Two.new1 w1 (.cells #[.slice A1 n c1, .int .i64 (l.length : Nat), .slice A2 n2 c2] 27) 29 (.int .i64 0) (.int .i64 0))
  clear R_0 B_0 B_0_c0 B_0_c1
  have z1 := Z0.trans (y1.mono Z0.size)
  have Z1 := ((z1).alloc (by have := z1.size; omega) (.cells #[.slice A1 n c1, .int .i64 (l.length : Nat), .slice A2 n2 c2] 27)).alloc (by have := z1.size; simp; omega) (.cells #[.int .i64 0, .int .i64 0] 29)
  have B_1_c0 := B_1.c0
  have B_1_c1 := B_1.c1
  have V_1_c0 := V_1.c0
  have V_1_c1 := V_1.c1
  have V_1_c2 := V_1.c2
  have F_1_c0 := F_1.c0
  have F_1_c1 := F_1.c1
  go_wp2_with fail
  refine (open_ok R_1 H01.out hl).mono ?_
  rintro e w2 ⟨A3, c3, A4, n4, c4, rfl, RX, SX, y2⟩
  have R_2 := ((R_1.on y2).alloc (.cells #[.slice A3 n c3, .int .i64 (l.length : Nat), .slice A4 n4 c4] 48)).alloc (.cells #[.int .i64 0, .int .i64 0] 29)
  have B_2 := ((B_1.on y2).alloc (.cells #[.slice A3 n c3, .int .i64 (l.length : Nat), .slice A4 n4 c4] 48)).alloc (.cells #[.int .i64 0, .int .i64 0] 29)
  have RV_2 := ((RV_1.on y2).alloc (.cells #[.slice A3 n c3, .int .i64 (l.length : Nat), .slice A4 n4 c4] 48)).alloc (.cells #[.int .i64 0, .int .i64 0] 29)
  have SV_2 := ((SV_1.on y2).alloc (.cells #[.slice A3 n c3, .int .i64 (l.length : Nat), .slice A4 n4 c4] 48)).alloc (.cells #[.int .i64 0, .int .i64 0] 29)
  have V_2 := ((V_1.on y2).alloc (.cells #[.slice A3 n c3, .int .i64 (l.length : Nat), .slice A4 n4 c4] 48)).alloc (.cells #[.int .i64 0, .int .i64 0] 29)
  have F_2 := ((F_1.on y2).alloc (.cells #[.slice A3 n c3, .int .i64 (l.length : Nat), .slice A4 n4 c4] 48)).alloc (.cells #[.int .i64 0, .int .i64 0] 29)
  have RX_2 := ((RX).alloc (.cells #[.slice A3 n c3, .int .i64 (l.length : Nat), .slice A4 n4 c4] 48)).alloc (.cells #[.int .i64 0, .int .i64 0] 29)
  have SX_2 := ((SX).alloc (.cells #[.slice A3 n c3, .int .i64 (l.length : Nat), .slice A4 n4 c4] 48)).alloc (.cells #[.int .i64 0, .int .i64 0] 29)
  have X_2 := ((Three.new w2 48 (.slice A3 n c3) (.int .i64 (l.length : Nat)) (.slice A4 n4 c4))).alloc (.cells #[.int .i64 0, .int .i64 0] 29)
  have G_2 := (Two.new1 w2 (.cells #[.slice A3 n c3, .int .i64 (l.length : Nat), .slice A4 n4 c4] 48) 29 (.int .i64 0) (.int .i64 0))
  clear R_1 B_1 B_1_c0 B_1_c1 RV_1 SV_1 V_1 V_1_c0 V_1_c1 V_1_c2 F_1 F_1_c0 F_1_c1
  have z2 := Z1.trans (y2.mono Z1.size)
  have Z2 := ((z2).alloc (by have := z2.size; omega) (.cells #[.slice A3 n c3, .int .i64 (l.length : Nat), .slice A4 n4 c4] 48)).alloc (by have := z2.size; simp; omega) (.cells #[.int .i64 0, .int .i64 0] 29)
  have B_2_c0 := B_2.c0
  have B_2_c1 := B_2.c1
  have V_2_c0 := V_2.c0
  have V_2_c1 := V_2.c1
  have V_2_c2 := V_2.c2
  have F_2_c0 := F_2.c0
  have F_2_c1 := F_2.c1
  have X_2_c0 := X_2.c0
  have X_2_c1 := X_2.c1
  have X_2_c2 := X_2.c2
  have G_2_c0 := G_2.c0
  have G_2_c1 := G_2.c1
  go_wp2_with fail
  refine (ranks_true _).mono ?_
  rintro e w3 ⟨rfl, y3⟩
  have R_3 := R_2.on y3
  have B_3 := B_2.on y3
  have RV_3 := RV_2.on y3
  have SV_3 := SV_2.on y3
  have V_3 := V_2.on y3
  have F_3 := F_2.on y3
  have RX_3 := RX_2.on y3
  have SX_3 := SX_2.on y3
  have X_3 := X_2.on y3
  have G_3 := G_2.on y3
  clear R_2 B_2 B_2_c0 B_2_c1 RV_2 SV_2 V_2 V_2_c0 V_2_c1 V_2_c2 F_2 F_2_c0 F_2_c1 RX_2 SX_2 X_2 X_2_c0 X_2_c1 X_2_c2 G_2 G_2_c0 G_2_c1
  have z3 := Z2.trans (y3.mono Z2.size)
  have Z3 := z3
  have B_3_c0 := B_3.c0
  have B_3_c1 := B_3.c1
  have V_3_c0 := V_3.c0
  have V_3_c1 := V_3.c1
  have V_3_c2 := V_3.c2
  have F_3_c0 := F_3.c0
  have F_3_c1 := F_3.c1
  have X_3_c0 := X_3.c0
  have X_3_c1 := X_3.c1
  have X_3_c2 := X_3.c2
  have G_3_c0 := G_3.c0
  have G_3_c1 := G_3.c1
  go_wp2_with fail
  refine (sel_none (by omega) HPx.out RV_3 SV_3 H01.out hl).mono ?_
  rintro e w4 ⟨rfl, y4⟩
  have R_4 := (R_3.on y4).alloc (.cells #[.int .i64 4, .int .i64 (-2)] 29)
  have B_4 := (B_3.on y4).alloc (.cells #[.int .i64 4, .int .i64 (-2)] 29)
  have RV_4 := (RV_3.on y4).alloc (.cells #[.int .i64 4, .int .i64 (-2)] 29)
  have SV_4 := (SV_3.on y4).alloc (.cells #[.int .i64 4, .int .i64 (-2)] 29)
  have V_4 := (V_3.on y4).alloc (.cells #[.int .i64 4, .int .i64 (-2)] 29)
  have F_4 := (F_3.on y4).alloc (.cells #[.int .i64 4, .int .i64 (-2)] 29)
  have RX_4 := (RX_3.on y4).alloc (.cells #[.int .i64 4, .int .i64 (-2)] 29)
  have SX_4 := (SX_3.on y4).alloc (.cells #[.int .i64 4, .int .i64 (-2)] 29)
  have X_4 := (X_3.on y4).alloc (.cells #[.int .i64 4, .int .i64 (-2)] 29)
  have G_4 := (G_3.on y4).alloc (.cells #[.int .i64 4, .int .i64 (-2)] 29)
  have R_b := R_3.on y4
  have B_b := B_3.on y4
  have RV_b := RV_3.on y4
  have SV_b := SV_3.on y4
  have V_b := V_3.on y4
  have F_b := F_3.on y4
  have RX_b := RX_3.on y4
  have SX_b := SX_3.on y4
  have X_b := X_3.on y4
  have G_b := G_3.on y4
  have E_4 := (Two.new w4 29 (.int .i64 4) (.int .i64 (-2)))
  clear R_3 B_3 B_3_c0 B_3_c1 RV_3 SV_3 V_3 V_3_c0 V_3_c1 V_3_c2 F_3 F_3_c0 F_3_c1 RX_3 SX_3 X_3 X_3_c0 X_3_c1 X_3_c2 G_3 G_3_c0 G_3_c1
  have z4 := Z3.trans (y4.mono Z3.size)
  have Z4 := (z4).alloc (by have := z4.size; omega) (.cells #[.int .i64 4, .int .i64 (-2)] 29)
  have CE_4 := (Below.refl w4.heap.size w4).alloc (by simp) (.cells #[.int .i64 4, .int .i64 (-2)] 29)
  have B_4_c0 := B_4.c0
  have B_4_c1 := B_4.c1
  have V_4_c0 := V_4.c0
  have V_4_c1 := V_4.c1
  have V_4_c2 := V_4.c2
  have F_4_c0 := F_4.c0
  have F_4_c1 := F_4.c1
  have X_4_c0 := X_4.c0
  have X_4_c1 := X_4.c1
  have X_4_c2 := X_4.c2
  have G_4_c0 := G_4.c0
  have G_4_c1 := G_4.c1
  have E_4_c0 := E_4.c0
  have E_4_c1 := E_4.c1
  have E_4_f0 := E_4.f0
  have E_4_f1 := E_4.f1
  go_wp2_with fail
  refine (selz_ok2 rfl rfl rfl (by omega) HPy.out RV_4 SV_4 H01.out hl).mono ?_
  rintro e w5 ⟨rfl, y5⟩
  have R_5 := R_4.on y5
  have B_5 := B_4.on y5
  have RV_5 := RV_4.on y5
  have SV_5 := SV_4.on y5
  have V_5 := V_4.on y5
  have F_5 := F_4.on y5
  have RX_5 := RX_4.on y5
  have SX_5 := SX_4.on y5
  have X_5 := X_4.on y5
  have G_5 := G_4.on y5
  have E_5 := E_4.on y5
  clear R_4 B_4 B_4_c0 B_4_c1 RV_4 SV_4 V_4 V_4_c0 V_4_c1 V_4_c2 F_4 F_4_c0 F_4_c1 RX_4 SX_4 X_4 X_4_c0 X_4_c1 X_4_c2 G_4 G_4_c0 G_4_c1 E_4 E_4_c0 E_4_c1 E_4_f0 E_4_f1
  have z5 := Z4.trans (y5.mono Z4.size)
  have Z5 := z5
  have cE5 := CE_4.trans (y5.mono CE_4.size)
  have CE_5 := cE5
  have B_5_c0 := B_5.c0
  have B_5_c1 := B_5.c1
  have V_5_c0 := V_5.c0
  have V_5_c1 := V_5.c1
  have V_5_c2 := V_5.c2
  have F_5_c0 := F_5.c0
  have F_5_c1 := F_5.c1
  have X_5_c0 := X_5.c0
  have X_5_c1 := X_5.c1
  have X_5_c2 := X_5.c2
  have G_5_c0 := G_5.c0
  have G_5_c1 := G_5.c1
  have E_5_c0 := E_5.c0
  have E_5_c1 := E_5.c1
  have E_5_f0 := E_5.f0
  have E_5_f1 := E_5.f1
  have CE_6 := (CE_5.setCell (p := ⟨w4.heap.size, 0, none⟩) (by simp) (.int .i64 0)).setCell (p := ⟨w4.heap.size, 1, none⟩) (by simp) (.int .i64 0)
  have Z6 := (Z5.setCell (p := ⟨w4.heap.size, 0, none⟩) (by have := z4.size; simp; omega) (.int .i64 0)).setCell (p := ⟨w4.heap.size, 1, none⟩) (by have := z4.size; simp; omega) (.int .i64 0)
  have R_6 := R_b.on CE_6
  have B_6 := B_b.on CE_6
  have RV_6 := RV_b.on CE_6
  have SV_6 := SV_b.on CE_6
  have V_6 := V_b.on CE_6
  have F_6 := F_b.on CE_6
  have RX_6 := RX_b.on CE_6
  have SX_6 := SX_b.on CE_6
  have X_6 := X_b.on CE_6
  have G_6 := G_b.on CE_6
  have E_6 := (E_5.set0 (.int .i64 0)).set1 (.int .i64 0)
  have B_6_c0 := B_6.c0
  have B_6_c1 := B_6.c1
  have V_6_c0 := V_6.c0
  have V_6_c1 := V_6.c1
  have V_6_c2 := V_6.c2
  have F_6_c0 := F_6.c0
  have F_6_c1 := F_6.c1
  have X_6_c0 := X_6.c0
  have X_6_c1 := X_6.c1
  have X_6_c2 := X_6.c2
  have G_6_c0 := G_6.c0
  have G_6_c1 := G_6.c1
  have E_6_c0 := E_6.c0
  have E_6_c1 := E_6.c1
  have E_6_f0 := E_6.f0
  have E_6_f1 := E_6.f1
  go_wp2_with fail
  refine (rk_ok2 (i := py) (r := T) rfl rfl rfl (by omega) Y1.out RV_6 SV_6 H01.out hl).mono ?_
  rintro e w7 ⟨rfl, y7⟩
  have R_7 := (R_6.on y7).alloc (.cells #[.int .i64 0, .int .i64 0] 29)
  have B_7 := (B_6.on y7).alloc (.cells #[.int .i64 0, .int .i64 0] 29)
  have RV_7 := (RV_6.on y7).alloc (.cells #[.int .i64 0, .int .i64 0] 29)
  have SV_7 := (SV_6.on y7).alloc (.cells #[.int .i64 0, .int .i64 0] 29)
  have V_7 := (V_6.on y7).alloc (.cells #[.int .i64 0, .int .i64 0] 29)
  have F_7 := (F_6.on y7).alloc (.cells #[.int .i64 0, .int .i64 0] 29)
  have RX_7 := (RX_6.on y7).alloc (.cells #[.int .i64 0, .int .i64 0] 29)
  have SX_7 := (SX_6.on y7).alloc (.cells #[.int .i64 0, .int .i64 0] 29)
  have X_7 := (X_6.on y7).alloc (.cells #[.int .i64 0, .int .i64 0] 29)
  have G_7 := (G_6.on y7).alloc (.cells #[.int .i64 0, .int .i64 0] 29)
  have E_7 := (E_6.on y7).alloc (.cells #[.int .i64 0, .int .i64 0] 29)
  have J_7 := (Two.new w7 29 (.int .i64 0) (.int .i64 0))
  clear R_5 B_5 B_5_c0 B_5_c1 RV_5 SV_5 V_5 V_5_c0 V_5_c1 V_5_c2 F_5 F_5_c0 F_5_c1 RX_5 SX_5 X_5 X_5_c0 X_5_c1 X_5_c2 G_5 G_5_c0 G_5_c1 E_5 E_5_c0 E_5_c1 E_5_f0 E_5_f1 R_6 B_6 B_6_c0 B_6_c1 RV_6 SV_6 V_6 V_6_c0 V_6_c1 V_6_c2 F_6 F_6_c0 F_6_c1 RX_6 SX_6 X_6 X_6_c0 X_6_c1 X_6_c2 G_6 G_6_c0 G_6_c1 E_6 E_6_c0 E_6_c1 E_6_f0 E_6_f1
  have z7 := Z6.trans (y7.mono Z6.size)
  have Z7 := (z7).alloc (by have := z7.size; omega) (.cells #[.int .i64 0, .int .i64 0] 29)
  have cE7 := CE_6.trans (y7.mono CE_6.size)
  have CE_7 := (cE7).alloc (by have := cE7.size; omega) (.cells #[.int .i64 0, .int .i64 0] 29)
  have B_7_c0 := B_7.c0
  have B_7_c1 := B_7.c1
  have V_7_c0 := V_7.c0
  have V_7_c1 := V_7.c1
  have V_7_c2 := V_7.c2
  have F_7_c0 := F_7.c0
  have F_7_c1 := F_7.c1
  have X_7_c0 := X_7.c0
  have X_7_c1 := X_7.c1
  have X_7_c2 := X_7.c2
  have G_7_c0 := G_7.c0
  have G_7_c1 := G_7.c1
  have E_7_c0 := E_7.c0
  have E_7_c1 := E_7.c1
  have E_7_f0 := E_7.f0
  have E_7_f1 := E_7.f1
  have J_7_c0 := J_7.c0
  have J_7_c1 := J_7.c1
  go_wp2_with fail
  refine (rbit_ok2 rfl RX_7 SX_7 H01.out hl (by omega) (by omega) Y3.out).mono ?_
  rintro e w8 ⟨rfl, y8⟩
  have R_8 := R_7.on y8
  have B_8 := B_7.on y8
  have RV_8 := RV_7.on y8
  have SV_8 := SV_7.on y8
  have V_8 := V_7.on y8
  have F_8 := F_7.on y8
  have RX_8 := RX_7.on y8
  have SX_8 := SX_7.on y8
  have X_8 := X_7.on y8
  have G_8 := G_7.on y8
  have E_8 := E_7.on y8
  have J_8 := J_7.on y8
  clear R_7 B_7 B_7_c0 B_7_c1 RV_7 SV_7 V_7 V_7_c0 V_7_c1 V_7_c2 F_7 F_7_c0 F_7_c1 RX_7 SX_7 X_7 X_7_c0 X_7_c1 X_7_c2 G_7 G_7_c0 G_7_c1 E_7 E_7_c0 E_7_c1 E_7_f0 E_7_f1 J_7 J_7_c0 J_7_c1
  have z8 := Z7.trans (y8.mono Z7.size)
  have Z8 := z8
  have cE8 := CE_7.trans (y8.mono CE_7.size)
  have CE_8 := cE8
  have B_8_c0 := B_8.c0
  have B_8_c1 := B_8.c1
  have V_8_c0 := V_8.c0
  have V_8_c1 := V_8.c1
  have V_8_c2 := V_8.c2
  have F_8_c0 := F_8.c0
  have F_8_c1 := F_8.c1
  have X_8_c0 := X_8.c0
  have X_8_c1 := X_8.c1
  have X_8_c2 := X_8.c2
  have G_8_c0 := G_8.c0
  have G_8_c1 := G_8.c1
  have E_8_c0 := E_8.c0
  have E_8_c1 := E_8.c1
  have E_8_f0 := E_8.f0
  have E_8_f1 := E_8.f1
  have J_8_c0 := J_8.c0
  have J_8_c1 := J_8.c1
  go_wp2_with fail
  refine (rlen_any _).mono ?_
  rintro e w9 ⟨rfl, y9⟩
  have R_9 := R_8.on y9
  have B_9 := B_8.on y9
  have RV_9 := RV_8.on y9
  have SV_9 := SV_8.on y9
  have V_9 := V_8.on y9
  have F_9 := F_8.on y9
  have RX_9 := RX_8.on y9
  have SX_9 := SX_8.on y9
  have X_9 := X_8.on y9
  have G_9 := G_8.on y9
  have E_9 := E_8.on y9
  have J_9 := J_8.on y9
  clear R_8 B_8 B_8_c0 B_8_c1 RV_8 SV_8 V_8 V_8_c0 V_8_c1 V_8_c2 F_8 F_8_c0 F_8_c1 RX_8 SX_8 X_8 X_8_c0 X_8_c1 X_8_c2 G_8 G_8_c0 G_8_c1 E_8 E_8_c0 E_8_c1 E_8_f0 E_8_f1 J_8 J_8_c0 J_8_c1
  have z9 := Z8.trans (y9.mono Z8.size)
  have Z9 := z9
  have cE9 := CE_8.trans (y9.mono CE_8.size)
  have CE_9 := cE9
  have B_9_c0 := B_9.c0
  have B_9_c1 := B_9.c1
  have V_9_c0 := V_9.c0
  have V_9_c1 := V_9.c1
  have V_9_c2 := V_9.c2
  have F_9_c0 := F_9.c0
  have F_9_c1 := F_9.c1
  have X_9_c0 := X_9.c0
  have X_9_c1 := X_9.c1
  have X_9_c2 := X_9.c2
  have G_9_c0 := G_9.c0
  have G_9_c1 := G_9.c1
  have E_9_c0 := E_9.c0
  have E_9_c1 := E_9.c1
  have E_9_f0 := E_9.f0
  have E_9_f1 := E_9.f1
  have J_9_c0 := J_9.c0
  have J_9_c1 := J_9.c1
  go_wp2_with fail
  refine (in_yes _ _ _ _ (by omega) (by omega)).mono ?_
  rintro e w9_1 ⟨rfl, rfl⟩
  go_wp2
  go_ret
  exact ⟨rfl, Z9⟩
set_option maxRecDepth 100000 in
set_option maxHeartbeats 3200000 in
theorem ri_xx {A : Option Addr} {n c : Nat} {ii : Int} (hilo : -9223372036854775808 ≤ ii) (hihi : ii ≤ 9223372036854775807) {l : List Nat} (h01 : Is01 l) (hl : l.length ≤ 131072) {q : Nat} (hq : ii = (q : Nat)) (hpx : NoPlace l q 1) (hpy : NoPlace l q 0)  (w : World) (h : Rd w A n c (bcells (pack l))) :
    Calls Try.prog 5 #[.agg #[.slice A n c, .int .i64 (l.length : Nat)], .int .i64 ii] w fun e w' => e = .returned (.bool true) ∧ Below w.heap.size w w' := by
  have H01 := Lib.hid h01
  have HLL := Lib.hid hl
  have HOK := Lib.hid (Ok.of_list h01 hl)
  clear h01
  subst hq
  have HPx := Lib.hid hpx
  clear hpx
  have HPy := Lib.hid hpy
  clear hpy
  have R_0 := (h).alloc (.cells #[.slice A n c, .int .i64 (l.length : Nat)] 24)
  have B_0 := (Two.new w 24 (.slice A n c) (.int .i64 (l.length : Nat)))
  have Z0 := (Below.refl w.heap.size w).alloc (by simp) (.cells #[.slice A n c, .int .i64 (l.length : Nat)] 24)
  have B_0_c0 := B_0.c0
  have B_0_c1 := B_0.c1
  go_enter Try.func5, Try.ntmps5
  go_wp2_with fail
  refine (build_ok R_0 H01.out hl).mono ?_
  rintro e w1 ⟨A1, c1, A2, n2, c2, rfl, RV, SV, y1⟩
  have R_1 := ((R_0.on y1).alloc (.cells #[.slice A1 n c1, .int .i64 (l.length : Nat), .slice A2 n2 c2] 27)).alloc (.cells #[.int .i64 0, .int .i64 0] 29)
  have B_1 := ((B_0.on y1).alloc (.cells #[.slice A1 n c1, .int .i64 (l.length : Nat), .slice A2 n2 c2] 27)).alloc (.cells #[.int .i64 0, .int .i64 0] 29)
  have RV_1 := ((RV).alloc (.cells #[.slice A1 n c1, .int .i64 (l.length : Nat), .slice A2 n2 c2] 27)).alloc (.cells #[.int .i64 0, .int .i64 0] 29)
  have SV_1 := ((SV).alloc (.cells #[.slice A1 n c1, .int .i64 (l.length : Nat), .slice A2 n2 c2] 27)).alloc (.cells #[.int .i64 0, .int .i64 0] 29)
  have V_1 := ((Three.new w1 27 (.slice A1 n c1) (.int .i64 (l.length : Nat)) (.slice A2 n2 c2))).alloc (.cells #[.int .i64 0, .int .i64 0] 29)
  have F_1 := (Two.new1 w1 (.cells #[.slice A1 n c1, .int .i64 (l.length : Nat), .slice A2 n2 c2] 27) 29 (.int .i64 0) (.int .i64 0))
  clear R_0 B_0 B_0_c0 B_0_c1
  have z1 := Z0.trans (y1.mono Z0.size)
  have Z1 := ((z1).alloc (by have := z1.size; omega) (.cells #[.slice A1 n c1, .int .i64 (l.length : Nat), .slice A2 n2 c2] 27)).alloc (by have := z1.size; simp; omega) (.cells #[.int .i64 0, .int .i64 0] 29)
  have B_1_c0 := B_1.c0
  have B_1_c1 := B_1.c1
  have V_1_c0 := V_1.c0
  have V_1_c1 := V_1.c1
  have V_1_c2 := V_1.c2
  have F_1_c0 := F_1.c0
  have F_1_c1 := F_1.c1
  go_wp2_with fail
  refine (open_ok R_1 H01.out hl).mono ?_
  rintro e w2 ⟨A3, c3, A4, n4, c4, rfl, RX, SX, y2⟩
  have R_2 := ((R_1.on y2).alloc (.cells #[.slice A3 n c3, .int .i64 (l.length : Nat), .slice A4 n4 c4] 48)).alloc (.cells #[.int .i64 0, .int .i64 0] 29)
  have B_2 := ((B_1.on y2).alloc (.cells #[.slice A3 n c3, .int .i64 (l.length : Nat), .slice A4 n4 c4] 48)).alloc (.cells #[.int .i64 0, .int .i64 0] 29)
  have RV_2 := ((RV_1.on y2).alloc (.cells #[.slice A3 n c3, .int .i64 (l.length : Nat), .slice A4 n4 c4] 48)).alloc (.cells #[.int .i64 0, .int .i64 0] 29)
  have SV_2 := ((SV_1.on y2).alloc (.cells #[.slice A3 n c3, .int .i64 (l.length : Nat), .slice A4 n4 c4] 48)).alloc (.cells #[.int .i64 0, .int .i64 0] 29)
  have V_2 := ((V_1.on y2).alloc (.cells #[.slice A3 n c3, .int .i64 (l.length : Nat), .slice A4 n4 c4] 48)).alloc (.cells #[.int .i64 0, .int .i64 0] 29)
  have F_2 := ((F_1.on y2).alloc (.cells #[.slice A3 n c3, .int .i64 (l.length : Nat), .slice A4 n4 c4] 48)).alloc (.cells #[.int .i64 0, .int .i64 0] 29)
  have RX_2 := ((RX).alloc (.cells #[.slice A3 n c3, .int .i64 (l.length : Nat), .slice A4 n4 c4] 48)).alloc (.cells #[.int .i64 0, .int .i64 0] 29)
  have SX_2 := ((SX).alloc (.cells #[.slice A3 n c3, .int .i64 (l.length : Nat), .slice A4 n4 c4] 48)).alloc (.cells #[.int .i64 0, .int .i64 0] 29)
  have X_2 := ((Three.new w2 48 (.slice A3 n c3) (.int .i64 (l.length : Nat)) (.slice A4 n4 c4))).alloc (.cells #[.int .i64 0, .int .i64 0] 29)
  have G_2 := (Two.new1 w2 (.cells #[.slice A3 n c3, .int .i64 (l.length : Nat), .slice A4 n4 c4] 48) 29 (.int .i64 0) (.int .i64 0))
  clear R_1 B_1 B_1_c0 B_1_c1 RV_1 SV_1 V_1 V_1_c0 V_1_c1 V_1_c2 F_1 F_1_c0 F_1_c1
  have z2 := Z1.trans (y2.mono Z1.size)
  have Z2 := ((z2).alloc (by have := z2.size; omega) (.cells #[.slice A3 n c3, .int .i64 (l.length : Nat), .slice A4 n4 c4] 48)).alloc (by have := z2.size; simp; omega) (.cells #[.int .i64 0, .int .i64 0] 29)
  have B_2_c0 := B_2.c0
  have B_2_c1 := B_2.c1
  have V_2_c0 := V_2.c0
  have V_2_c1 := V_2.c1
  have V_2_c2 := V_2.c2
  have F_2_c0 := F_2.c0
  have F_2_c1 := F_2.c1
  have X_2_c0 := X_2.c0
  have X_2_c1 := X_2.c1
  have X_2_c2 := X_2.c2
  have G_2_c0 := G_2.c0
  have G_2_c1 := G_2.c1
  go_wp2_with fail
  refine (ranks_true _).mono ?_
  rintro e w3 ⟨rfl, y3⟩
  have R_3 := R_2.on y3
  have B_3 := B_2.on y3
  have RV_3 := RV_2.on y3
  have SV_3 := SV_2.on y3
  have V_3 := V_2.on y3
  have F_3 := F_2.on y3
  have RX_3 := RX_2.on y3
  have SX_3 := SX_2.on y3
  have X_3 := X_2.on y3
  have G_3 := G_2.on y3
  clear R_2 B_2 B_2_c0 B_2_c1 RV_2 SV_2 V_2 V_2_c0 V_2_c1 V_2_c2 F_2 F_2_c0 F_2_c1 RX_2 SX_2 X_2 X_2_c0 X_2_c1 X_2_c2 G_2 G_2_c0 G_2_c1
  have z3 := Z2.trans (y3.mono Z2.size)
  have Z3 := z3
  have B_3_c0 := B_3.c0
  have B_3_c1 := B_3.c1
  have V_3_c0 := V_3.c0
  have V_3_c1 := V_3.c1
  have V_3_c2 := V_3.c2
  have F_3_c0 := F_3.c0
  have F_3_c1 := F_3.c1
  have X_3_c0 := X_3.c0
  have X_3_c1 := X_3.c1
  have X_3_c2 := X_3.c2
  have G_3_c0 := G_3.c0
  have G_3_c1 := G_3.c1
  go_wp2_with fail
  refine (sel_none (by omega) HPx.out RV_3 SV_3 H01.out hl).mono ?_
  rintro e w4 ⟨rfl, y4⟩
  have R_4 := (R_3.on y4).alloc (.cells #[.int .i64 4, .int .i64 (-2)] 29)
  have B_4 := (B_3.on y4).alloc (.cells #[.int .i64 4, .int .i64 (-2)] 29)
  have RV_4 := (RV_3.on y4).alloc (.cells #[.int .i64 4, .int .i64 (-2)] 29)
  have SV_4 := (SV_3.on y4).alloc (.cells #[.int .i64 4, .int .i64 (-2)] 29)
  have V_4 := (V_3.on y4).alloc (.cells #[.int .i64 4, .int .i64 (-2)] 29)
  have F_4 := (F_3.on y4).alloc (.cells #[.int .i64 4, .int .i64 (-2)] 29)
  have RX_4 := (RX_3.on y4).alloc (.cells #[.int .i64 4, .int .i64 (-2)] 29)
  have SX_4 := (SX_3.on y4).alloc (.cells #[.int .i64 4, .int .i64 (-2)] 29)
  have X_4 := (X_3.on y4).alloc (.cells #[.int .i64 4, .int .i64 (-2)] 29)
  have G_4 := (G_3.on y4).alloc (.cells #[.int .i64 4, .int .i64 (-2)] 29)
  have R_b := R_3.on y4
  have B_b := B_3.on y4
  have RV_b := RV_3.on y4
  have SV_b := SV_3.on y4
  have V_b := V_3.on y4
  have F_b := F_3.on y4
  have RX_b := RX_3.on y4
  have SX_b := SX_3.on y4
  have X_b := X_3.on y4
  have G_b := G_3.on y4
  have E_4 := (Two.new w4 29 (.int .i64 4) (.int .i64 (-2)))
  clear R_3 B_3 B_3_c0 B_3_c1 RV_3 SV_3 V_3 V_3_c0 V_3_c1 V_3_c2 F_3 F_3_c0 F_3_c1 RX_3 SX_3 X_3 X_3_c0 X_3_c1 X_3_c2 G_3 G_3_c0 G_3_c1
  have z4 := Z3.trans (y4.mono Z3.size)
  have Z4 := (z4).alloc (by have := z4.size; omega) (.cells #[.int .i64 4, .int .i64 (-2)] 29)
  have CE_4 := (Below.refl w4.heap.size w4).alloc (by simp) (.cells #[.int .i64 4, .int .i64 (-2)] 29)
  have B_4_c0 := B_4.c0
  have B_4_c1 := B_4.c1
  have V_4_c0 := V_4.c0
  have V_4_c1 := V_4.c1
  have V_4_c2 := V_4.c2
  have F_4_c0 := F_4.c0
  have F_4_c1 := F_4.c1
  have X_4_c0 := X_4.c0
  have X_4_c1 := X_4.c1
  have X_4_c2 := X_4.c2
  have G_4_c0 := G_4.c0
  have G_4_c1 := G_4.c1
  have E_4_c0 := E_4.c0
  have E_4_c1 := E_4.c1
  have E_4_f0 := E_4.f0
  have E_4_f1 := E_4.f1
  go_wp2_with fail
  refine (selz_none (by omega) HPy.out RV_4 SV_4 H01.out hl).mono ?_
  rintro e w5 ⟨rfl, y5⟩
  have R_5 := R_4.on y5
  have B_5 := B_4.on y5
  have RV_5 := RV_4.on y5
  have SV_5 := SV_4.on y5
  have V_5 := V_4.on y5
  have F_5 := F_4.on y5
  have RX_5 := RX_4.on y5
  have SX_5 := SX_4.on y5
  have X_5 := X_4.on y5
  have G_5 := G_4.on y5
  have E_5 := E_4.on y5
  clear R_4 B_4 B_4_c0 B_4_c1 RV_4 SV_4 V_4 V_4_c0 V_4_c1 V_4_c2 F_4 F_4_c0 F_4_c1 RX_4 SX_4 X_4 X_4_c0 X_4_c1 X_4_c2 G_4 G_4_c0 G_4_c1 E_4 E_4_c0 E_4_c1 E_4_f0 E_4_f1
  have z5 := Z4.trans (y5.mono Z4.size)
  have Z5 := z5
  have cE5 := CE_4.trans (y5.mono CE_4.size)
  have CE_5 := cE5
  have B_5_c0 := B_5.c0
  have B_5_c1 := B_5.c1
  have V_5_c0 := V_5.c0
  have V_5_c1 := V_5.c1
  have V_5_c2 := V_5.c2
  have F_5_c0 := F_5.c0
  have F_5_c1 := F_5.c1
  have X_5_c0 := X_5.c0
  have X_5_c1 := X_5.c1
  have X_5_c2 := X_5.c2
  have G_5_c0 := G_5.c0
  have G_5_c1 := G_5.c1
  have E_5_c0 := E_5.c0
  have E_5_c1 := E_5.c1
  have E_5_f0 := E_5.f0
  have E_5_f1 := E_5.f1
  have CE_6 := (CE_5.setCell (p := ⟨w4.heap.size, 0, none⟩) (by simp) (.int .i64 4)).setCell (p := ⟨w4.heap.size, 1, none⟩) (by simp) (.int .i64 (-2))
  have Z6 := (Z5.setCell (p := ⟨w4.heap.size, 0, none⟩) (by have := z4.size; simp; omega) (.int .i64 4)).setCell (p := ⟨w4.heap.size, 1, none⟩) (by have := z4.size; simp; omega) (.int .i64 (-2))
  have R_6 := R_b.on CE_6
  have B_6 := B_b.on CE_6
  have RV_6 := RV_b.on CE_6
  have SV_6 := SV_b.on CE_6
  have V_6 := V_b.on CE_6
  have F_6 := F_b.on CE_6
  have RX_6 := RX_b.on CE_6
  have SX_6 := SX_b.on CE_6
  have X_6 := X_b.on CE_6
  have G_6 := G_b.on CE_6
  have E_6 := (E_5.set0 (.int .i64 4)).set1 (.int .i64 (-2))
  have B_6_c0 := B_6.c0
  have B_6_c1 := B_6.c1
  have V_6_c0 := V_6.c0
  have V_6_c1 := V_6.c1
  have V_6_c2 := V_6.c2
  have F_6_c0 := F_6.c0
  have F_6_c1 := F_6.c1
  have X_6_c0 := X_6.c0
  have X_6_c1 := X_6.c1
  have X_6_c2 := X_6.c2
  have G_6_c0 := G_6.c0
  have G_6_c1 := G_6.c1
  have E_6_c0 := E_6.c0
  have E_6_c1 := E_6.c1
  have E_6_f0 := E_6.f0
  have E_6_f1 := E_6.f1
  go_wp2
  go_ret
  exact ⟨rfl, Z6⟩
theorem ri_all {A : Option Addr} {n c : Nat} {ii : Int} {d : List Nat} {cnt : Int} (hilo : -9223372036854775808 ≤ ii) (hihi : ii ≤ 9223372036854775807) (hd : ∀ k, d.getD k 0 < 256) (hlo : -9223372036854775808 ≤ cnt) (hhi : cnt ≤ 9223372036854775807) (w : World) (h : Rd w A n c (bcells d)) :
    Calls Try.prog 5 #[.agg #[.slice A n c, .int .i64 cnt], .int .i64 ii] w fun e w' => e = .returned (.bool true) ∧ Below w.heap.size w w' := by
  by_cases hok : Ok d cnt
  · obtain ⟨l, g1, g2, rfl, rfl⟩ := hok.list hd
    by_cases hneg : ii < 0
    · exact ri_neg hilo hihi g1 g2 hneg w h
    obtain ⟨q, rfl⟩ := Int.eq_ofNat_of_zero_le (show 0 ≤ ii by omega)
    rcases place_or l q 1 with hx | ⟨px, hx⟩
    · rcases place_or l q 0 with hy | ⟨py, hy⟩
      · exact ri_xx hilo hihi g1 g2 rfl hx hy w h
      · exact ri_xo hilo hihi g1 g2 rfl hx hy w h
    · rcases place_or l q 0 with hy | ⟨py, hy⟩
      · exact ri_ox hilo hihi g1 g2 rfl hx hy w h
      · exact ri_oo hilo hihi g1 g2 rfl hx hy w h
  · exact ri_n hilo hihi hd hlo hhi hok w h
end PB
end Go.Proofs.Ytckimocmppdecaa
