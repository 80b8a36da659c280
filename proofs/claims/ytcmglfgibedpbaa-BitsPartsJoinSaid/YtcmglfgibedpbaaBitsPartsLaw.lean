/-
  A bit string that is divided at any place is joined again: the walk of the statement BitsPartsJoin.
-/
import Derived.Test.YtcmglfgibedpbaaRows
import Derived.Test.YtcmglfgibedpbaaBitsApi
import Derived.Test.YtcmglfgibedpbaaBitsApi2
import Derived.Deep.RegionHeld3
import Derived.Deep.DrawnRows
namespace Go.Proofs.Ytcmglfgibedpbaa
open Go.RowKit
attribute [local go_sem ↓] Go.wp_at_zero Go.wp_at_succ
set_option linter.unusedVariables false
set_option linter.unusedSimpArgs false
namespace PB
set_option maxRecDepth 100000 in
set_option maxHeartbeats 3200000 in
theorem pj_N {A : Option Addr} {n c : Nat} {d : List Nat} {cnt at_ : Int} (hd : ∀ k, d.getD k 0 < 256) (hlo : -9223372036854775808 ≤ cnt) (hhi : cnt ≤ 9223372036854775807) (hno : ¬ Ok d cnt)  (w : World) (h : Rd w A n c (bcells d)) :
    Calls Try.prog 10 #[.agg #[.slice A n c, .int .i64 cnt], .int .i64 at_] w fun e w' => e = .returned (.bool true) ∧ Below w.heap.size w w' := by
  have HD := Lib.hid hd
  have HNO := Lib.hid hno
  clear hd hno
  have R_0 := (h).alloc (.cells #[.slice A n c, .int .i64 cnt] 24)
  have B_0 := (Two.new w 24 (.slice A n c) (.int .i64 cnt))
  have Z0 := (Below.refl w.heap.size w).alloc (by simp) (.cells #[.slice A n c, .int .i64 cnt] 24)
  have B_0_c0 := B_0.c0
  have B_0_c1 := B_0.c1
  go_enter Try.func10, Try.ntmps10
  go_wp2_with fail
  refine (strings_true _).mono ?_
  rintro e w1 ⟨rfl, y1⟩
  have R_1 := R_0.on y1
  have B_1 := B_0.on y1
  clear R_0 B_0 B_0_c0 B_0_c1
  have z1 := Z0.trans (y1.mono Z0.size)
  have Z1 := z1
  have B_1_c0 := B_1.c0
  have B_1_c1 := B_1.c1
  go_wp2_with fail
  refine (bitsok_any R_1 HD.out hlo hhi false ⟨(fun h => by cases h), fun h => absurd h HNO.out⟩).mono ?_
  rintro e w2 ⟨rfl, y2⟩
  have R_2 := R_1.on y2
  have B_2 := B_1.on y2
  clear R_1 B_1 B_1_c0 B_1_c1
  have z2 := Z1.trans (y2.mono Z1.size)
  have Z2 := z2
  have B_2_c0 := B_2.c0
  have B_2_c1 := B_2.c1
  go_wp2
  go_ret
  exact ⟨rfl, Z2⟩
set_option maxRecDepth 100000 in
set_option maxHeartbeats 3200000 in
theorem pj_O {A : Option Addr} {n c : Nat} {l : List Nat} (h01 : Is01 l) (hl : l.length ≤ 131072) {at_ : Int} (ha : at_ < 0 ∨ (l.length : Int) < at_)  (w : World) (h : Rd w A n c (bcells (pack l))) :
    Calls Try.prog 10 #[.agg #[.slice A n c, .int .i64 (l.length : Nat)], .int .i64 at_] w fun e w' => e = .returned (.bool true) ∧ Below w.heap.size w w' := by
  have H01 := Lib.hid h01
  have HLL := Lib.hid hl
  have HOK := Lib.hid (Ok.of_list h01 hl)
  clear h01
  have R_0 := (h).alloc (.cells #[.slice A n c, .int .i64 (l.length : Nat)] 24)
  have B_0 := (Two.new w 24 (.slice A n c) (.int .i64 (l.length : Nat)))
  have Z0 := (Below.refl w.heap.size w).alloc (by simp) (.cells #[.slice A n c, .int .i64 (l.length : Nat)] 24)
  have B_0_c0 := B_0.c0
  have B_0_c1 := B_0.c1
  go_enter Try.func10, Try.ntmps10
  go_wp2_with fail
  refine (strings_true _).mono ?_
  rintro e w1 ⟨rfl, y1⟩
  have R_1 := R_0.on y1
  have B_1 := B_0.on y1
  clear R_0 B_0 B_0_c0 B_0_c1
  have z1 := Z0.trans (y1.mono Z0.size)
  have Z1 := z1
  have B_1_c0 := B_1.c0
  have B_1_c1 := B_1.c1
  go_wp2_with fail
  refine (bitsok_any R_1 (pack_lt H01.out) (by omega) (by have := HLL.out; omega) true ⟨fun _ => HOK.out, fun _ => rfl⟩).mono ?_
  rintro e w2 ⟨rfl, y2⟩
  have R_2 := R_1.on y2
  have B_2 := B_1.on y2
  clear R_1 B_1 B_1_c0 B_1_c1
  have z2 := Z1.trans (y2.mono Z1.size)
  have Z2 := z2
  have B_2_c0 := B_2.c0
  have B_2_c1 := B_2.c1
  go_wp2_with fail
  refine (in_no at_ 0 (l.length : Nat) _ ha).mono ?_
  rintro e w9_1 ⟨rfl, rfl⟩
  go_wp2
  go_ret
  exact ⟨rfl, Z2⟩
set_option maxRecDepth 100000 in
set_option maxHeartbeats 3200000 in
theorem pj_Y {A : Option Addr} {n c : Nat} {l : List Nat} (h01 : Is01 l) (hl : l.length ≤ 131072) {q : Nat} (hq : q ≤ l.length)  (w : World) (h : Rd w A n c (bcells (pack l))) :
    Calls Try.prog 10 #[.agg #[.slice A n c, .int .i64 (l.length : Nat)], .int .i64 (q : Nat)] w fun e w' => e = .returned (.bool true) ∧ Below w.heap.size w w' := by
  have H01 := Lib.hid h01
  have HLL := Lib.hid hl
  have HOK := Lib.hid (Ok.of_list h01 hl)
  clear h01
  obtain ⟨X, hX⟩ : ∃ X, X = (l.drop 0).take (q - 0) := ⟨_, rfl⟩
  obtain ⟨Y, hY⟩ : ∃ Y, Y = (l.drop q).take (l.length - q) := ⟨_, rfl⟩
  have hXl : X.length = q := by rw [hX]; simp; omega
  have hYl : Y.length = l.length - q := by rw [hY]; simp
  have HXY := Lib.hid (show l = X ++ Y by rw [hX, hY, List.drop_zero, Nat.sub_zero, List.take_of_length_le (l := l.drop q) (by simp), List.take_append_drop])
  have HSX := Lib.hid (fun W (hW : Rd W A n c (bcells (pack l))) => api_slice hW H01.out HLL.out (Nat.zero_le q) hq hX 0 _ rfl rfl)
  have HSY := Lib.hid (fun W (hW : Rd W A n c (bcells (pack l))) => api_slice hW H01.out HLL.out hq (Nat.le_refl _) hY _ _ rfl rfl)
  have HX01 := Lib.hid (show Is01 X by rw [hX]; exact (H01.out.drop _).take _)
  have HY01 := Lib.hid (show Is01 Y by rw [hY]; exact (H01.out.drop _).take _)
  have hsum : X.length + Y.length ≤ 131072 := by omega
  have e1 : (((X.length : Nat) : Int) == (q : Int)) = true := by rw [beq_iff_eq]; omega
  clear hX hY hXl hYl
  have R_0 := (h).alloc (.cells #[.slice A n c, .int .i64 (l.length : Nat)] 24)
  have B_0 := (Two.new w 24 (.slice A n c) (.int .i64 (l.length : Nat)))
  have Z0 := (Below.refl w.heap.size w).alloc (by simp) (.cells #[.slice A n c, .int .i64 (l.length : Nat)] 24)
  have B_0_c0 := B_0.c0
  have B_0_c1 := B_0.c1
  go_enter Try.func10, Try.ntmps10
  go_wp2_with fail
  refine (strings_true _).mono ?_
  rintro e w1 ⟨rfl, y1⟩
  have R_1 := R_0.on y1
  have B_1 := B_0.on y1
  clear R_0 B_0 B_0_c0 B_0_c1
  have z1 := Z0.trans (y1.mono Z0.size)
  have Z1 := z1
  have B_1_c0 := B_1.c0
  have B_1_c1 := B_1.c1
  go_wp2_with fail
  refine (bitsok_any R_1 (pack_lt H01.out) (by omega) (by have := HLL.out; omega) true ⟨fun _ => HOK.out, fun _ => rfl⟩).mono ?_
  rintro e w2 ⟨rfl, y2⟩
  have R_2 := R_1.on y2
  have B_2 := B_1.on y2
  clear R_1 B_1 B_1_c0 B_1_c1
  have z2 := Z1.trans (y2.mono Z1.size)
  have Z2 := z2
  have B_2_c0 := B_2.c0
  have B_2_c1 := B_2.c1
  go_wp2_with fail
  refine (in_yes (q : Nat) 0 (l.length : Nat) _ (by omega) (by omega)).mono ?_
  rintro e w9_1 ⟨rfl, rfl⟩
  go_wp2_with fail
  refine (HSX.out _ R_2).mono ?_
  rintro e w3 ⟨Ax, nx, cx, rfl, Rx, y3⟩
  have R_3 := ((R_2.on y3).alloc (.cells #[.slice Ax nx cx, .int .i64 (X.length : Nat)] 24)).alloc (.cells #[.int .i64 0, .int .i64 0] 26)
  have B_3 := ((B_2.on y3).alloc (.cells #[.slice Ax nx cx, .int .i64 (X.length : Nat)] 24)).alloc (.cells #[.int .i64 0, .int .i64 0] 26)
  have RX_3 := ((Rx).alloc (.cells #[.slice Ax nx cx, .int .i64 (X.length : Nat)] 24)).alloc (.cells #[.int .i64 0, .int .i64 0] 26)
  have X_3 := ((Two.new w3 24 (.slice Ax nx cx) (.int .i64 (X.length : Nat)))).alloc (.cells #[.int .i64 0, .int .i64 0] 26)
  have F_3 := (Two.new1 w3 (.cells #[.slice Ax nx cx, .int .i64 (X.length : Nat)] 24) 26 (.int .i64 0) (.int .i64 0))
  clear R_2 B_2 B_2_c0 B_2_c1
  have z3 := Z2.trans (y3.mono Z2.size)
  have Z3 := ((z3).alloc (by have := z3.size; omega) (.cells #[.slice Ax nx cx, .int .i64 (X.length : Nat)] 24)).alloc (by have := z3.size; simp; omega) (.cells #[.int .i64 0, .int .i64 0] 26)
  have B_3_c0 := B_3.c0
  have B_3_c1 := B_3.c1
  have X_3_c0 := X_3.c0
  have X_3_c1 := X_3.c1
  have F_3_c0 := F_3.c0
  have F_3_c1 := F_3.c1
  go_wp2_with fail
  refine (HSY.out _ R_3).mono ?_
  rintro e w4 ⟨Ay, ny, cy, rfl, Ry, y4⟩
  have R_4 := ((R_3.on y4).alloc (.cells #[.slice Ay ny cy, .int .i64 (Y.length : Nat)] 24)).alloc (.cells #[.int .i64 0, .int .i64 0] 26)
  have B_4 := ((B_3.on y4).alloc (.cells #[.slice Ay ny cy, .int .i64 (Y.length : Nat)] 24)).alloc (.cells #[.int .i64 0, .int .i64 0] 26)
  have RX_4 := ((RX_3.on y4).alloc (.cells #[.slice Ay ny cy, .int .i64 (Y.length : Nat)] 24)).alloc (.cells #[.int .i64 0, .int .i64 0] 26)
  have X_4 := ((X_3.on y4).alloc (.cells #[.slice Ay ny cy, .int .i64 (Y.length : Nat)] 24)).alloc (.cells #[.int .i64 0, .int .i64 0] 26)
  have F_4 := ((F_3.on y4).alloc (.cells #[.slice Ay ny cy, .int .i64 (Y.length : Nat)] 24)).alloc (.cells #[.int .i64 0, .int .i64 0] 26)
  have RY_4 := ((Ry).alloc (.cells #[.slice Ay ny cy, .int .i64 (Y.length : Nat)] 24)).alloc (.cells #[.int .i64 0, .int .i64 0] 26)
  have Y_4 := ((Two.new w4 24 (.slice Ay ny cy) (.int .i64 (Y.length : Nat)))).alloc (.cells #[.int .i64 0, .int .i64 0] 26)
  have G_4 := (Two.new1 w4 (.cells #[.slice Ay ny cy, .int .i64 (Y.length : Nat)] 24) 26 (.int .i64 0) (.int .i64 0))
  clear R_3 B_3 B_3_c0 B_3_c1 RX_3 X_3 X_3_c0 X_3_c1 F_3 F_3_c0 F_3_c1
  have z4 := Z3.trans (y4.mono Z3.size)
  have Z4 := ((z4).alloc (by have := z4.size; omega) (.cells #[.slice Ay ny cy, .int .i64 (Y.length : Nat)] 24)).alloc (by have := z4.size; simp; omega) (.cells #[.int .i64 0, .int .i64 0] 26)
  have B_4_c0 := B_4.c0
  have B_4_c1 := B_4.c1
  have X_4_c0 := X_4.c0
  have X_4_c1 := X_4.c1
  have F_4_c0 := F_4.c0
  have F_4_c1 := F_4.c1
  have Y_4_c0 := Y_4.c0
  have Y_4_c1 := Y_4.c1
  have G_4_c0 := G_4.c0
  have G_4_c1 := G_4.c1
  go_wp2_with fail
  refine (api_join2 RX_4 RY_4 HX01.out HY01.out hsum HXY.out _ _ rfl rfl _ (by simp)).mono ?_
  rintro e w5 ⟨Az, nz, cz, rfl, Rz, y5⟩
  have R_5 := ((R_4.on y5).alloc (.cells #[.slice Az nz cz, .int .i64 (l.length : Nat)] 24)).alloc (.cells #[.int .i64 0, .int .i64 0] 26)
  have B_5 := ((B_4.on y5).alloc (.cells #[.slice Az nz cz, .int .i64 (l.length : Nat)] 24)).alloc (.cells #[.int .i64 0, .int .i64 0] 26)
  have RX_5 := ((RX_4.on y5).alloc (.cells #[.slice Az nz cz, .int .i64 (l.length : Nat)] 24)).alloc (.cells #[.int .i64 0, .int .i64 0] 26)
  have X_5 := ((X_4.on y5).alloc (.cells #[.slice Az nz cz, .int .i64 (l.length : Nat)] 24)).alloc (.cells #[.int .i64 0, .int .i64 0] 26)
  have F_5 := ((F_4.on y5).alloc (.cells #[.slice Az nz cz, .int .i64 (l.length : Nat)] 24)).alloc (.cells #[.int .i64 0, .int .i64 0] 26)
  have RY_5 := ((RY_4.on y5).alloc (.cells #[.slice Az nz cz, .int .i64 (l.length : Nat)] 24)).alloc (.cells #[.int .i64 0, .int .i64 0] 26)
  have Y_5 := ((Y_4.on y5).alloc (.cells #[.slice Az nz cz, .int .i64 (l.length : Nat)] 24)).alloc (.cells #[.int .i64 0, .int .i64 0] 26)
  have G_5 := ((G_4.on y5).alloc (.cells #[.slice Az nz cz, .int .i64 (l.length : Nat)] 24)).alloc (.cells #[.int .i64 0, .int .i64 0] 26)
  have RV_5 := ((Rz).alloc (.cells #[.slice Az nz cz, .int .i64 (l.length : Nat)] 24)).alloc (.cells #[.int .i64 0, .int .i64 0] 26)
  have V_5 := ((Two.new w5 24 (.slice Az nz cz) (.int .i64 (l.length : Nat)))).alloc (.cells #[.int .i64 0, .int .i64 0] 26)
  have E_5 := (Two.new1 w5 (.cells #[.slice Az nz cz, .int .i64 (l.length : Nat)] 24) 26 (.int .i64 0) (.int .i64 0))
  clear R_4 B_4 B_4_c0 B_4_c1 RX_4 X_4 X_4_c0 X_4_c1 F_4 F_4_c0 F_4_c1 RY_4 Y_4 Y_4_c0 Y_4_c1 G_4 G_4_c0 G_4_c1
  have z5 := Z4.trans (y5.mono Z4.size)
  have Z5 := ((z5).alloc (by have := z5.size; omega) (.cells #[.slice Az nz cz, .int .i64 (l.length : Nat)] 24)).alloc (by have := z5.size; simp; omega) (.cells #[.int .i64 0, .int .i64 0] 26)
  have B_5_c0 := B_5.c0
  have B_5_c1 := B_5.c1
  have X_5_c0 := X_5.c0
  have X_5_c1 := X_5.c1
  have F_5_c0 := F_5.c0
  have F_5_c1 := F_5.c1
  have Y_5_c0 := Y_5.c0
  have Y_5_c1 := Y_5.c1
  have G_5_c0 := G_5.c0
  have G_5_c1 := G_5.c1
  have V_5_c0 := V_5.c0
  have V_5_c1 := V_5.c1
  have E_5_c0 := E_5.c0
  have E_5_c1 := E_5.c1
  go_wp2_with fail
  refine (api_same RV_5 R_5 H01.out H01.out true (by simp) _ _ rfl rfl).mono ?_
  rintro e w6 ⟨rfl, y6⟩
  have R_6 := R_5.on y6
  have B_6 := B_5.on y6
  have RX_6 := RX_5.on y6
  have X_6 := X_5.on y6
  have F_6 := F_5.on y6
  have RY_6 := RY_5.on y6
  have Y_6 := Y_5.on y6
  have G_6 := G_5.on y6
  have RV_6 := RV_5.on y6
  have V_6 := V_5.on y6
  have E_6 := E_5.on y6
  clear R_5 B_5 B_5_c0 B_5_c1 RX_5 X_5 X_5_c0 X_5_c1 F_5 F_5_c0 F_5_c1 RY_5 Y_5 Y_5_c0 Y_5_c1 G_5 G_5_c0 G_5_c1 RV_5 V_5 V_5_c0 V_5_c1 E_5 E_5_c0 E_5_c1
  have z6 := Z5.trans (y6.mono Z5.size)
  have Z6 := z6
  have B_6_c0 := B_6.c0
  have B_6_c1 := B_6.c1
  have X_6_c0 := X_6.c0
  have X_6_c1 := X_6.c1
  have F_6_c0 := F_6.c0
  have F_6_c1 := F_6.c1
  have Y_6_c0 := Y_6.c0
  have Y_6_c1 := Y_6.c1
  have G_6_c0 := G_6.c0
  have G_6_c1 := G_6.c1
  have V_6_c0 := V_6.c0
  have V_6_c1 := V_6.c1
  have E_6_c0 := E_6.c0
  have E_6_c1 := E_6.c1
  go_wp2
  go_ret
  exact ⟨rfl, Z6⟩
theorem pj_all {A : Option Addr} {n c : Nat} {d : List Nat} {cnt at_ : Int} (hd : ∀ k, d.getD k 0 < 256) (hlo : -9223372036854775808 ≤ cnt) (hhi : cnt ≤ 9223372036854775807) (w : World) (h : Rd w A n c (bcells d)) :
    Calls Try.prog 10 #[.agg #[.slice A n c, .int .i64 cnt], .int .i64 at_] w fun e w' => e = .returned (.bool true) ∧ Below w.heap.size w w' := by
  by_cases hok : Ok d cnt
  · obtain ⟨l, k1, k2, rfl, rfl⟩ := hok.list hd
    by_cases ha : at_ < 0 ∨ (l.length : Int) < at_
    · exact pj_O k1 k2 ha w h
    · obtain ⟨q, rfl⟩ := Int.eq_ofNat_of_zero_le (show 0 ≤ at_ by omega)
      exact pj_Y k1 k2 (by omega) w h
  · exact pj_N hd hlo hhi hok w h
end PB
end Go.Proofs.Ytcmglfgibedpbaa
