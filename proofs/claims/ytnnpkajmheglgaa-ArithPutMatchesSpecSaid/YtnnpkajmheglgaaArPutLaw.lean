/-
  States of the encoder and bits that are added, with all faults, are as specified: the walk of the statement ArithPutMatchesSpec.
-/
import Derived.Test.YtnnpkajmheglgaaRows
import Derived.Test.YtnnpkajmheglgaaArPutApi
import Derived.Deep.RegionHeld3
import Derived.Deep.DrawnRows
import Derived.Deep.Cut
namespace Go.Proofs.Ytnnpkajmheglgaa
open Go.RowKit
attribute [local go_sem ↓] Go.wp_at_zero Go.wp_at_succ
set_option linter.unusedVariables false
set_option linter.unusedSimpArgs false
namespace PB
set_option maxRecDepth 100000 in
set_option maxHeartbeats 1600000 in
theorem ap_form {lo hi q : Int} (hno : ¬ COk lo hi q) (b p : Int) (w : World)  :
    Calls Try.prog 8 #[.agg #[.int .i64 lo, .int .i64 hi, .int .i64 q], .int .i64 b, .int .i64 p] w fun e w' => e = .returned (.bool true) ∧ Below w.heap.size w w' := by
  have HPU := Lib.hid (fun (W : World) => put_form hno b p W)
  have HFI := Lib.hid (fun (W : World) => finish_form hno W)
  have HCK := Lib.hid (fun (W : World) => coderok_any lo hi q false ⟨(fun h => by cases h), fun h => absurd h hno⟩ W)
  clear hno
  have P_0 := (Three.new w 50 (.int .i64 lo) (.int .i64 hi) (.int .i64 q))
  have Z0 := (Below.refl w.heap.size w).alloc (by simp) (.cells #[.int .i64 lo, .int .i64 hi, .int .i64 q] 50)
  have P_0_c0 := P_0.c0
  have P_0_c1 := P_0.c1
  have P_0_c2 := P_0.c2
  go_enter Try.func8, Try.ntmps8
  go_wp2_with fail
  refine (HPU.out _).mono ?_
  rintro e w1 ⟨rfl, y1⟩
  have P_1 := (((P_0.on y1).alloc (.cells #[.int .i64 0, .int .i64 0, .int .i64 0] 50)).alloc (.cells #[.slice none 0 0, .int .i64 0] 25)).alloc (.cells #[.int .i64 6, .int .i64 (-1)] 27)
  have X_1 := (((Three.new w1 50 (.int .i64 0) (.int .i64 0) (.int .i64 0))).alloc (.cells #[.slice none 0 0, .int .i64 0] 25)).alloc (.cells #[.int .i64 6, .int .i64 (-1)] 27)
  have B_1 := ((Two.new1 w1 (.cells #[.int .i64 0, .int .i64 0, .int .i64 0] 50) 25 (.slice none 0 0) (.int .i64 0))).alloc (.cells #[.int .i64 6, .int .i64 (-1)] 27)
  have F_1 := (Two.new2 w1 (.cells #[.int .i64 0, .int .i64 0, .int .i64 0] 50) (.cells #[.slice none 0 0, .int .i64 0] 25) 27 (.int .i64 6) (.int .i64 (-1)))
  clear P_0 P_0_c0 P_0_c1 P_0_c2
  have z1 := Z0.trans (y1.mono Z0.size)
  have Z1 := (((z1).alloc (by have := z1.size; omega) (.cells #[.int .i64 0, .int .i64 0, .int .i64 0] 50)).alloc (by have := z1.size; simp; omega) (.cells #[.slice none 0 0, .int .i64 0] 25)).alloc (by have := z1.size; simp; omega) (.cells #[.int .i64 6, .int .i64 (-1)] 27)
  have P_1_c0 := P_1.c0
  have P_1_c1 := P_1.c1
  have P_1_c2 := P_1.c2
  have X_1_c0 := X_1.c0
  have X_1_c1 := X_1.c1
  have X_1_c2 := X_1.c2
  have B_1_c0 := B_1.c0
  have B_1_c1 := B_1.c1
  have F_1_c0 := F_1.c0
  have F_1_c1 := F_1.c1
  go_wp2_with fail
  refine (HFI.out _).mono ?_
  rintro e w2 ⟨rfl, y2⟩
  have P_2 := ((P_1.on y2).alloc (.cells #[.slice none 0 0, .int .i64 0] 25)).alloc (.cells #[.int .i64 6, .int .i64 (-1)] 27)
  have X_2 := ((X_1.on y2).alloc (.cells #[.slice none 0 0, .int .i64 0] 25)).alloc (.cells #[.int .i64 6, .int .i64 (-1)] 27)
  have B_2 := ((B_1.on y2).alloc (.cells #[.slice none 0 0, .int .i64 0] 25)).alloc (.cells #[.int .i64 6, .int .i64 (-1)] 27)
  have F_2 := ((F_1.on y2).alloc (.cells #[.slice none 0 0, .int .i64 0] 25)).alloc (.cells #[.int .i64 6, .int .i64 (-1)] 27)
  have E_2 := ((Two.new w2 25 (.slice none 0 0) (.int .i64 0))).alloc (.cells #[.int .i64 6, .int .i64 (-1)] 27)
  have G_2 := (Two.new1 w2 (.cells #[.slice none 0 0, .int .i64 0] 25) 27 (.int .i64 6) (.int .i64 (-1)))
  clear P_1 P_1_c0 P_1_c1 P_1_c2 X_1 X_1_c0 X_1_c1 X_1_c2 B_1 B_1_c0 B_1_c1 F_1 F_1_c0 F_1_c1
  have z2 := Z1.trans (y2.mono Z1.size)
  have Z2 := ((z2).alloc (by have := z2.size; omega) (.cells #[.slice none 0 0, .int .i64 0] 25)).alloc (by have := z2.size; simp; omega) (.cells #[.int .i64 6, .int .i64 (-1)] 27)
  have P_2_c0 := P_2.c0
  have P_2_c1 := P_2.c1
  have P_2_c2 := P_2.c2
  have X_2_c0 := X_2.c0
  have X_2_c1 := X_2.c1
  have X_2_c2 := X_2.c2
  have B_2_c0 := B_2.c0
  have B_2_c1 := B_2.c1
  have F_2_c0 := F_2.c0
  have F_2_c1 := F_2.c1
  have E_2_c0 := E_2.c0
  have E_2_c1 := E_2.c1
  have G_2_c0 := G_2.c0
  have G_2_c1 := G_2.c1
  go_wp2_with fail
  refine (codes_true _).mono ?_
  rintro e w3 ⟨rfl, y3⟩
  have P_3 := P_2.on y3
  have X_3 := X_2.on y3
  have B_3 := B_2.on y3
  have F_3 := F_2.on y3
  have E_3 := E_2.on y3
  have G_3 := G_2.on y3
  clear P_2 P_2_c0 P_2_c1 P_2_c2 X_2 X_2_c0 X_2_c1 X_2_c2 B_2 B_2_c0 B_2_c1 F_2 F_2_c0 F_2_c1 E_2 E_2_c0 E_2_c1 G_2 G_2_c0 G_2_c1
  have z3 := Z2.trans (y3.mono Z2.size)
  have Z3 := z3
  have P_3_c0 := P_3.c0
  have P_3_c1 := P_3.c1
  have P_3_c2 := P_3.c2
  have X_3_c0 := X_3.c0
  have X_3_c1 := X_3.c1
  have X_3_c2 := X_3.c2
  have B_3_c0 := B_3.c0
  have B_3_c1 := B_3.c1
  have F_3_c0 := F_3.c0
  have F_3_c1 := F_3.c1
  have E_3_c0 := E_3.c0
  have E_3_c1 := E_3.c1
  have G_3_c0 := G_3.c0
  have G_3_c1 := G_3.c1
  go_wp2_with fail
  refine (start_any _).mono ?_
  rintro e w4 ⟨rfl, y4⟩
  have P_4 := P_3.on y4
  have X_4 := X_3.on y4
  have B_4 := B_3.on y4
  have F_4 := F_3.on y4
  have E_4 := E_3.on y4
  have G_4 := G_3.on y4
  clear P_3 P_3_c0 P_3_c1 P_3_c2 X_3 X_3_c0 X_3_c1 X_3_c2 B_3 B_3_c0 B_3_c1 F_3 F_3_c0 F_3_c1 E_3 E_3_c0 E_3_c1 G_3 G_3_c0 G_3_c1
  have z4 := Z3.trans (y4.mono Z3.size)
  have Z4 := z4
  have P_4_c0 := P_4.c0
  have P_4_c1 := P_4.c1
  have P_4_c2 := P_4.c2
  have X_4_c0 := X_4.c0
  have X_4_c1 := X_4.c1
  have X_4_c2 := X_4.c2
  have B_4_c0 := B_4.c0
  have B_4_c1 := B_4.c1
  have F_4_c0 := F_4.c0
  have F_4_c1 := F_4.c1
  have E_4_c0 := E_4.c0
  have E_4_c1 := E_4.c1
  have G_4_c0 := G_4.c0
  have G_4_c1 := G_4.c1
  go_wp2_with fail
  refine (HCK.out _).mono ?_
  rintro e w5 ⟨rfl, y5⟩
  have P_5 := P_4.on y5
  have X_5 := X_4.on y5
  have B_5 := B_4.on y5
  have F_5 := F_4.on y5
  have E_5 := E_4.on y5
  have G_5 := G_4.on y5
  clear P_4 P_4_c0 P_4_c1 P_4_c2 X_4 X_4_c0 X_4_c1 X_4_c2 B_4 B_4_c0 B_4_c1 F_4 F_4_c0 F_4_c1 E_4 E_4_c0 E_4_c1 G_4 G_4_c0 G_4_c1
  have z5 := Z4.trans (y5.mono Z4.size)
  have Z5 := z5
  have P_5_c0 := P_5.c0
  have P_5_c1 := P_5.c1
  have P_5_c2 := P_5.c2
  have X_5_c0 := X_5.c0
  have X_5_c1 := X_5.c1
  have X_5_c2 := X_5.c2
  have B_5_c0 := B_5.c0
  have B_5_c1 := B_5.c1
  have F_5_c0 := F_5.c0
  have F_5_c1 := F_5.c1
  have E_5_c0 := E_5.c0
  have E_5_c1 := E_5.c1
  have G_5_c0 := G_5.c0
  have G_5_c1 := G_5.c1
  go_wp2_with fail
  refine (refat_any _ _ _).mono ?_
  rintro e w6 ⟨rfl, y6⟩
  have P_6 := (P_5.on y6).alloc (.cells #[.int .i64 6, .int .i64 (-1)] 27)
  have X_6 := (X_5.on y6).alloc (.cells #[.int .i64 6, .int .i64 (-1)] 27)
  have B_6 := (B_5.on y6).alloc (.cells #[.int .i64 6, .int .i64 (-1)] 27)
  have F_6 := (F_5.on y6).alloc (.cells #[.int .i64 6, .int .i64 (-1)] 27)
  have E_6 := (E_5.on y6).alloc (.cells #[.int .i64 6, .int .i64 (-1)] 27)
  have G_6 := (G_5.on y6).alloc (.cells #[.int .i64 6, .int .i64 (-1)] 27)
  have H_6 := (Two.new w6 27 (.int .i64 6) (.int .i64 (-1)))
  clear P_5 P_5_c0 P_5_c1 P_5_c2 X_5 X_5_c0 X_5_c1 X_5_c2 B_5 B_5_c0 B_5_c1 F_5 F_5_c0 F_5_c1 E_5 E_5_c0 E_5_c1 G_5 G_5_c0 G_5_c1
  have z6 := Z5.trans (y6.mono Z5.size)
  have Z6 := (z6).alloc (by have := z6.size; omega) (.cells #[.int .i64 6, .int .i64 (-1)] 27)
  have P_6_c0 := P_6.c0
  have P_6_c1 := P_6.c1
  have P_6_c2 := P_6.c2
  have X_6_c0 := X_6.c0
  have X_6_c1 := X_6.c1
  have X_6_c2 := X_6.c2
  have B_6_c0 := B_6.c0
  have B_6_c1 := B_6.c1
  have F_6_c0 := F_6.c0
  have F_6_c1 := F_6.c1
  have E_6_c0 := E_6.c0
  have E_6_c1 := E_6.c1
  have G_6_c0 := G_6.c0
  have G_6_c1 := G_6.c1
  have H_6_c0 := H_6.c0
  have H_6_c1 := H_6.c1
  go_wp2_with fail
  refine (api_same (l := []) (l2 := []) (Rd.none_ _) (Rd.none_ _) Is01.nil Is01.nil true (by simp) _ _ rfl rfl).mono ?_
  rintro e w7 ⟨rfl, y7⟩
  have P_7 := P_6.on y7
  have X_7 := X_6.on y7
  have B_7 := B_6.on y7
  have F_7 := F_6.on y7
  have E_7 := E_6.on y7
  have G_7 := G_6.on y7
  have H_7 := H_6.on y7
  clear P_6 P_6_c0 P_6_c1 P_6_c2 X_6 X_6_c0 X_6_c1 X_6_c2 B_6 B_6_c0 B_6_c1 F_6 F_6_c0 F_6_c1 E_6 E_6_c0 E_6_c1 G_6 G_6_c0 G_6_c1 H_6 H_6_c0 H_6_c1
  have z7 := Z6.trans (y7.mono Z6.size)
  have Z7 := z7
  have P_7_c0 := P_7.c0
  have P_7_c1 := P_7.c1
  have P_7_c2 := P_7.c2
  have X_7_c0 := X_7.c0
  have X_7_c1 := X_7.c1
  have X_7_c2 := X_7.c2
  have B_7_c0 := B_7.c0
  have B_7_c1 := B_7.c1
  have F_7_c0 := F_7.c0
  have F_7_c1 := F_7.c1
  have E_7_c0 := E_7.c0
  have E_7_c1 := E_7.c1
  have G_7_c0 := G_7.c0
  have G_7_c1 := G_7.c1
  have H_7_c0 := H_7.c0
  have H_7_c1 := H_7.c1
  go_wp2_with fail
  refine (api_same (l := []) (l2 := []) (Rd.none_ _) (Rd.none_ _) Is01.nil Is01.nil true (by simp) _ _ rfl rfl).mono ?_
  rintro e w8 ⟨rfl, y8⟩
  have P_8 := P_7.on y8
  have X_8 := X_7.on y8
  have B_8 := B_7.on y8
  have F_8 := F_7.on y8
  have E_8 := E_7.on y8
  have G_8 := G_7.on y8
  have H_8 := H_7.on y8
  clear P_7 P_7_c0 P_7_c1 P_7_c2 X_7 X_7_c0 X_7_c1 X_7_c2 B_7 B_7_c0 B_7_c1 F_7 F_7_c0 F_7_c1 E_7 E_7_c0 E_7_c1 G_7 G_7_c0 G_7_c1 H_7 H_7_c0 H_7_c1
  have z8 := Z7.trans (y8.mono Z7.size)
  have Z8 := z8
  have P_8_c0 := P_8.c0
  have P_8_c1 := P_8.c1
  have P_8_c2 := P_8.c2
  have X_8_c0 := X_8.c0
  have X_8_c1 := X_8.c1
  have X_8_c2 := X_8.c2
  have B_8_c0 := B_8.c0
  have B_8_c1 := B_8.c1
  have F_8_c0 := F_8.c0
  have F_8_c1 := F_8.c1
  have E_8_c0 := E_8.c0
  have E_8_c1 := E_8.c1
  have G_8_c0 := G_8.c0
  have G_8_c1 := G_8.c1
  have H_8_c0 := H_8.c0
  have H_8_c1 := H_8.c1
  go_wp2
  go_ret
  exact ⟨rfl, Z8⟩
set_option maxRecDepth 100000 in
set_option maxHeartbeats 1600000 in
theorem ap_bit_l {lo hi b p : Int} {q : Nat} (hok : COk lo hi (q : Nat)) (hb : b ≠ 0 ∧ b ≠ 1) (hlast : lo < 16384) (w : World)  :
    Calls Try.prog 8 #[.agg #[.int .i64 lo, .int .i64 hi, .int .i64 (q : Nat)], .int .i64 b, .int .i64 p] w fun e w' => e = .returned (.bool true) ∧ Below w.heap.size w w' := by
  have hqq := hok.2.2
  have hb9 : 0 = if lo < 16384 then 0 else 1 := by rw [if_pos hlast]
  have HFI := Lib.hid (fun (W : World) => finish_ok hok 0 hb9 W)
  have HCK := Lib.hid (fun (W : World) => coderok_any lo hi (q : Nat) true ⟨fun _ => hok, fun _ => rfl⟩ W)
  obtain ⟨kf, hkf⟩ : ∃ kf, kf = (crt 0 (q + 1)).length := ⟨_, rfl⟩
  have hkf2 : kf ≤ q + 2 := by rw [hkf]; simp [crt]
  have hc01 : Is01 (crt 0 (q + 1)) := Is01.of_mem fun x hx => by have := crt_le (b := 0) (q := q + 1) (by decide) x hx; omega
  have HC01 := Lib.hid hc01
  have hsl : (sentf [0] (q + 1)) = (crt 0 (q + 1), 0) := by rw [sentf_other (by decide)]; simp [sentf]
  have HSE := Lib.hid (fun (W : World) (A9 : Option Addr) (n9 c9 : Nat) (hW : Rd W A9 n9 c9 (ncells [0])) => sent_any hW (by decide) (by decide) (q := q + 1) (by omega) (crt 0 (q + 1)) 0 (by rw [hsl]) (by rw [hsl]) ((q : Int) + 1) (by omega))
  rw [← hkf] at HFI
  have HKF := Lib.hid hkf
  have hlk : decide (lo < 16384) = true := by simpa using hlast
  obtain ⟨g0, g1⟩ := hb
  have k0 : (b != 0) = true := by simpa using g0
  have k1 : (b != 1) = true := by simpa using g1
  have HPU := Lib.hid (fun (W : World) => put_bit hok ⟨g0, g1⟩ p W)
  clear hok hlast hb9 hkf hc01 hsl g0 g1
  have P_0 := (Three.new w 50 (.int .i64 lo) (.int .i64 hi) (.int .i64 (q : Nat)))
  have Z0 := (Below.refl w.heap.size w).alloc (by simp) (.cells #[.int .i64 lo, .int .i64 hi, .int .i64 (q : Nat)] 50)
  have P_0_c0 := P_0.c0
  have P_0_c1 := P_0.c1
  have P_0_c2 := P_0.c2
  go_enter Try.func8, Try.ntmps8
  go_wp2_with fail
  refine (HPU.out _).mono ?_
  rintro e w1 ⟨rfl, y1⟩
  have P_1 := (((P_0.on y1).alloc (.cells #[.int .i64 0, .int .i64 0, .int .i64 0] 50)).alloc (.cells #[.slice none 0 0, .int .i64 0] 25)).alloc (.cells #[.int .i64 4, .int .i64 (-2)] 27)
  have X_1 := (((Three.new w1 50 (.int .i64 0) (.int .i64 0) (.int .i64 0))).alloc (.cells #[.slice none 0 0, .int .i64 0] 25)).alloc (.cells #[.int .i64 4, .int .i64 (-2)] 27)
  have B_1 := ((Two.new1 w1 (.cells #[.int .i64 0, .int .i64 0, .int .i64 0] 50) 25 (.slice none 0 0) (.int .i64 0))).alloc (.cells #[.int .i64 4, .int .i64 (-2)] 27)
  have F_1 := (Two.new2 w1 (.cells #[.int .i64 0, .int .i64 0, .int .i64 0] 50) (.cells #[.slice none 0 0, .int .i64 0] 25) 27 (.int .i64 4) (.int .i64 (-2)))
  clear P_0 P_0_c0 P_0_c1 P_0_c2
  have z1 := Z0.trans (y1.mono Z0.size)
  have Z1 := (((z1).alloc (by have := z1.size; omega) (.cells #[.int .i64 0, .int .i64 0, .int .i64 0] 50)).alloc (by have := z1.size; simp; omega) (.cells #[.slice none 0 0, .int .i64 0] 25)).alloc (by have := z1.size; simp; omega) (.cells #[.int .i64 4, .int .i64 (-2)] 27)
  have P_1_c0 := P_1.c0
  have P_1_c1 := P_1.c1
  have P_1_c2 := P_1.c2
  have X_1_c0 := X_1.c0
  have X_1_c1 := X_1.c1
  have X_1_c2 := X_1.c2
  have B_1_c0 := B_1.c0
  have B_1_c1 := B_1.c1
  have F_1_c0 := F_1.c0
  have F_1_c1 := F_1.c1
  go_wp2_with fail
  refine (HFI.out _).mono ?_
  rintro e w2 ⟨A2, n2, c2, rfl, R2, y2⟩
  have P_2 := ((P_1.on y2).alloc (.cells #[.slice A2 n2 c2, .int .i64 (kf : Nat)] 25)).alloc (.cells #[.int .i64 0, .int .i64 0] 27)
  have X_2 := ((X_1.on y2).alloc (.cells #[.slice A2 n2 c2, .int .i64 (kf : Nat)] 25)).alloc (.cells #[.int .i64 0, .int .i64 0] 27)
  have B_2 := ((B_1.on y2).alloc (.cells #[.slice A2 n2 c2, .int .i64 (kf : Nat)] 25)).alloc (.cells #[.int .i64 0, .int .i64 0] 27)
  have F_2 := ((F_1.on y2).alloc (.cells #[.slice A2 n2 c2, .int .i64 (kf : Nat)] 25)).alloc (.cells #[.int .i64 0, .int .i64 0] 27)
  have E1_2 := ((R2).alloc (.cells #[.slice A2 n2 c2, .int .i64 (kf : Nat)] 25)).alloc (.cells #[.int .i64 0, .int .i64 0] 27)
  have E_2 := ((Two.new w2 25 (.slice A2 n2 c2) (.int .i64 (kf : Nat)))).alloc (.cells #[.int .i64 0, .int .i64 0] 27)
  have G_2 := (Two.new1 w2 (.cells #[.slice A2 n2 c2, .int .i64 (kf : Nat)] 25) 27 (.int .i64 0) (.int .i64 0))
  clear P_1 P_1_c0 P_1_c1 P_1_c2 X_1 X_1_c0 X_1_c1 X_1_c2 B_1 B_1_c0 B_1_c1 F_1 F_1_c0 F_1_c1
  have z2 := Z1.trans (y2.mono Z1.size)
  have Z2 := ((z2).alloc (by have := z2.size; omega) (.cells #[.slice A2 n2 c2, .int .i64 (kf : Nat)] 25)).alloc (by have := z2.size; simp; omega) (.cells #[.int .i64 0, .int .i64 0] 27)
  have P_2_c0 := P_2.c0
  have P_2_c1 := P_2.c1
  have P_2_c2 := P_2.c2
  have X_2_c0 := X_2.c0
  have X_2_c1 := X_2.c1
  have X_2_c2 := X_2.c2
  have B_2_c0 := B_2.c0
  have B_2_c1 := B_2.c1
  have F_2_c0 := F_2.c0
  have F_2_c1 := F_2.c1
  have E_2_c0 := E_2.c0
  have E_2_c1 := E_2.c1
  have G_2_c0 := G_2.c0
  have G_2_c1 := G_2.c1
  go_wp2_with fail
  refine (codes_true _).mono ?_
  rintro e w3 ⟨rfl, y3⟩
  have P_3 := P_2.on y3
  have X_3 := X_2.on y3
  have B_3 := B_2.on y3
  have F_3 := F_2.on y3
  have E1_3 := E1_2.on y3
  have E_3 := E_2.on y3
  have G_3 := G_2.on y3
  clear P_2 P_2_c0 P_2_c1 P_2_c2 X_2 X_2_c0 X_2_c1 X_2_c2 B_2 B_2_c0 B_2_c1 F_2 F_2_c0 F_2_c1 E1_2 E_2 E_2_c0 E_2_c1 G_2 G_2_c0 G_2_c1
  have z3 := Z2.trans (y3.mono Z2.size)
  have Z3 := z3
  have P_3_c0 := P_3.c0
  have P_3_c1 := P_3.c1
  have P_3_c2 := P_3.c2
  have X_3_c0 := X_3.c0
  have X_3_c1 := X_3.c1
  have X_3_c2 := X_3.c2
  have B_3_c0 := B_3.c0
  have B_3_c1 := B_3.c1
  have F_3_c0 := F_3.c0
  have F_3_c1 := F_3.c1
  have E_3_c0 := E_3.c0
  have E_3_c1 := E_3.c1
  have G_3_c0 := G_3.c0
  have G_3_c1 := G_3.c1
  go_wp2_with fail
  refine (start_any _).mono ?_
  rintro e w4 ⟨rfl, y4⟩
  have P_4 := P_3.on y4
  have X_4 := X_3.on y4
  have B_4 := B_3.on y4
  have F_4 := F_3.on y4
  have E1_4 := E1_3.on y4
  have E_4 := E_3.on y4
  have G_4 := G_3.on y4
  clear P_3 P_3_c0 P_3_c1 P_3_c2 X_3 X_3_c0 X_3_c1 X_3_c2 B_3 B_3_c0 B_3_c1 F_3 F_3_c0 F_3_c1 E1_3 E_3 E_3_c0 E_3_c1 G_3 G_3_c0 G_3_c1
  have z4 := Z3.trans (y4.mono Z3.size)
  have Z4 := z4
  have P_4_c0 := P_4.c0
  have P_4_c1 := P_4.c1
  have P_4_c2 := P_4.c2
  have X_4_c0 := X_4.c0
  have X_4_c1 := X_4.c1
  have X_4_c2 := X_4.c2
  have B_4_c0 := B_4.c0
  have B_4_c1 := B_4.c1
  have F_4_c0 := F_4.c0
  have F_4_c1 := F_4.c1
  have E_4_c0 := E_4.c0
  have E_4_c1 := E_4.c1
  have G_4_c0 := G_4.c0
  have G_4_c1 := G_4.c1
  go_wp2_with fail
  refine (HCK.out _).mono ?_
  rintro e w5 ⟨rfl, y5⟩
  have P_5 := P_4.on y5
  have X_5 := X_4.on y5
  have B_5 := B_4.on y5
  have F_5 := F_4.on y5
  have E1_5 := E1_4.on y5
  have E_5 := E_4.on y5
  have G_5 := G_4.on y5
  clear P_4 P_4_c0 P_4_c1 P_4_c2 X_4 X_4_c0 X_4_c1 X_4_c2 B_4 B_4_c0 B_4_c1 F_4 F_4_c0 F_4_c1 E1_4 E_4 E_4_c0 E_4_c1 G_4 G_4_c0 G_4_c1
  have z5 := Z4.trans (y5.mono Z4.size)
  have Z5 := z5
  have P_5_c0 := P_5.c0
  have P_5_c1 := P_5.c1
  have P_5_c2 := P_5.c2
  have X_5_c0 := X_5.c0
  have X_5_c1 := X_5.c1
  have X_5_c2 := X_5.c2
  have B_5_c0 := B_5.c0
  have B_5_c1 := B_5.c1
  have F_5_c0 := F_5.c0
  have F_5_c1 := F_5.c1
  have E_5_c0 := E_5.c0
  have E_5_c1 := E_5.c1
  have G_5_c0 := G_5.c0
  have G_5_c1 := G_5.c1
  have P_6 := P_5.alloc (.cells #[.int .i64 0] 3)
  have X_6 := X_5.alloc (.cells #[.int .i64 0] 3)
  have B_6 := B_5.alloc (.cells #[.int .i64 0] 3)
  have F_6 := F_5.alloc (.cells #[.int .i64 0] 3)
  have E1_6 := E1_5.alloc (.cells #[.int .i64 0] 3)
  have E_6 := E_5.alloc (.cells #[.int .i64 0] 3)
  have G_6 := G_5.alloc (.cells #[.int .i64 0] 3)
  have K_6 := (show Rd (w5.alloc (.cells #[.int .i64 0] 3)) (some ⟨w5.heap.size, 0, none⟩) 1 1 (ncells [0]) from Rd.lit1 w5 rfl 0 3)
  have Z6 := Z5.alloc Z5.size (.cells #[.int .i64 0] 3)
  have P_6_c0 := P_6.c0
  have P_6_c1 := P_6.c1
  have P_6_c2 := P_6.c2
  have X_6_c0 := X_6.c0
  have X_6_c1 := X_6.c1
  have X_6_c2 := X_6.c2
  have B_6_c0 := B_6.c0
  have B_6_c1 := B_6.c1
  have F_6_c0 := F_6.c0
  have F_6_c1 := F_6.c1
  have E_6_c0 := E_6.c0
  have E_6_c1 := E_6.c1
  have G_6_c0 := G_6.c0
  have G_6_c1 := G_6.c1
  go_wp2_with fail
  refine (HSE.out _ _ _ _ K_6).mono ?_
  rintro e w7 ⟨A3, n3, c3, rfl, hn3, o3, y7⟩
  have P_7 := P_6.on y7
  have X_7 := X_6.on y7
  have B_7 := B_6.on y7
  have F_7 := F_6.on y7
  have E1_7 := E1_6.on y7
  have E_7 := E_6.on y7
  have G_7 := G_6.on y7
  have O_7 := o3
  clear P_5 P_5_c0 P_5_c1 P_5_c2 X_5 X_5_c0 X_5_c1 X_5_c2 B_5 B_5_c0 B_5_c1 F_5 F_5_c0 F_5_c1 E1_5 E_5 E_5_c0 E_5_c1 G_5 G_5_c0 G_5_c1 P_6 P_6_c0 P_6_c1 P_6_c2 X_6 X_6_c0 X_6_c1 X_6_c2 B_6 B_6_c0 B_6_c1 F_6 F_6_c0 F_6_c1 E1_6 E_6 E_6_c0 E_6_c1 G_6 G_6_c0 G_6_c1 K_6
  have z7 := Z6.trans (y7.mono Z6.size)
  have Z7 := z7
  have P_7_c0 := P_7.c0
  have P_7_c1 := P_7.c1
  have P_7_c2 := P_7.c2
  have X_7_c0 := X_7.c0
  have X_7_c1 := X_7.c1
  have X_7_c2 := X_7.c2
  have B_7_c0 := B_7.c0
  have B_7_c1 := B_7.c1
  have F_7_c0 := F_7.c0
  have F_7_c1 := F_7.c1
  have E_7_c0 := E_7.c0
  have E_7_c1 := E_7.c1
  have G_7_c0 := G_7.c0
  have G_7_c1 := G_7.c1
  go_wp2_with fail
  go_region_held3 (fun w' => w'.cell? ⟨w2.heap.size + 1, 0, none⟩ = some (.int .i64 0) ∧ w'.cell? ⟨w2.heap.size + 1, 1, none⟩ = some (.int .i64 0) ∧ w'.cell? ⟨w2.heap.size, 0, none⟩ = some (.slice A2 n2 c2) ∧ w'.cell? ⟨w2.heap.size, 1, none⟩ = some (.int .i64 (kf : Nat))) (go_keep) (first | (go_at_call 15; refine (arpacked hn3 (Rd.own (own_drew O_7)) HC01.out (by rw [← HKF.out]; omega)).mono ?_; rintro e w8 ⟨A4, n4, c4, rfl, RP, y8⟩; have Y8 : Below w7.heap.size w7.drew w8 := y8; have G_8_c0 := ((Two.on (w := w7.drew) G_7 Y8)).c0; have G_8_c1 := ((Two.on (w := w7.drew) G_7 Y8)).c1; have E_8_c0 := ((Two.on (w := w7.drew) E_7 Y8)).c0; have E_8_c1 := ((Two.on (w := w7.drew) E_7 Y8)).c1) | (go_at_call 14; refine (api_same (Rd.on (w := w7.drew) E1_7 Y8) RP HC01.out HC01.out true (by simp) _ _ (by rw [← HKF.out]) (by rw [hn3])).mono ?_; rintro e w9 ⟨rfl, y9⟩; have Y9 := Y8.trans (y9.mono Y8.size); have G_9_c0 := ((Two.on (w := w7.drew) G_7 Y9)).c0; have G_9_c1 := ((Two.on (w := w7.drew) G_7 Y9)).c1; have E_9_c0 := ((Two.on (w := w7.drew) E_7 Y9)).c0; have E_9_c1 := ((Two.on (w := w7.drew) E_7 Y9)).c1))
  have P_9 := (Three.on (w := w7.drew) P_7 Y9)
  have X_9 := (Three.on (w := w7.drew) X_7 Y9)
  have B_9 := (Two.on (w := w7.drew) B_7 Y9)
  have F_9 := (Two.on (w := w7.drew) F_7 Y9)
  have E1_9 := (Rd.on (w := w7.drew) E1_7 Y9)
  have E_9 := (Two.on (w := w7.drew) E_7 Y9)
  have G_9 := (Two.on (w := w7.drew) G_7 Y9)
  have O_9 := (own_on (w := w7.drew) O_7 Y9)
  have Z9 := (belowD Z7).trans (Y9.mono (belowD Z7).size)
  clear G_8_c0 G_8_c1 E_8_c0 E_8_c1 G_9_c0 G_9_c1 E_9_c0 E_9_c1
  clear P_7 P_7_c0 P_7_c1 P_7_c2 X_7 X_7_c0 X_7_c1 X_7_c2 B_7 B_7_c0 B_7_c1 F_7 F_7_c0 F_7_c1 E1_7 E_7 E_7_c0 E_7_c1 G_7 G_7_c0 G_7_c1 O_7
  have P_9_c0 := P_9.c0
  have P_9_c1 := P_9.c1
  have P_9_c2 := P_9.c2
  have X_9_c0 := X_9.c0
  have X_9_c1 := X_9.c1
  have X_9_c2 := X_9.c2
  have B_9_c0 := B_9.c0
  have B_9_c1 := B_9.c1
  have F_9_c0 := F_9.c0
  have F_9_c1 := F_9.c1
  have E_9_c0 := E_9.c0
  have E_9_c1 := E_9.c1
  have G_9_c0 := G_9.c0
  have G_9_c1 := G_9.c1
  clear G_9 G_9_c0 G_9_c1 E_9 E_9_c0 E_9_c1 E1_9 O_9
  have z9 := Z9
  have P_b := P_9
  have P_9q := P_9.alloc (.cells #[.int .i64 0, .int .i64 0] 27)
  have X_b := X_9
  have X_9q := X_9.alloc (.cells #[.int .i64 0, .int .i64 0] 27)
  have B_b := B_9
  have B_9q := B_9.alloc (.cells #[.int .i64 0, .int .i64 0] 27)
  have F_b := F_9
  have F_9q := F_9.alloc (.cells #[.int .i64 0, .int .i64 0] 27)
  have M_9q := Two.new w9 27 (.int .i64 0) (.int .i64 0)
  have CM_9q := (Below.refl w9.heap.size w9).alloc (Nat.le_refl _) (.cells #[.int .i64 0, .int .i64 0] 27)
  have Z9q := Z9.alloc Z9.size (.cells #[.int .i64 0, .int .i64 0] 27)
  clear P_9 P_9_c0 P_9_c1 P_9_c2 X_9 X_9_c0 X_9_c1 X_9_c2 B_9 B_9_c0 B_9_c1 F_9 F_9_c0 F_9_c1
  have P_9q_c0 := P_9q.c0
  have P_9q_c1 := P_9q.c1
  have P_9q_c2 := P_9q.c2
  have X_9q_c0 := X_9q.c0
  have X_9q_c1 := X_9q.c1
  have X_9q_c2 := X_9q.c2
  have B_9q_c0 := B_9q.c0
  have B_9q_c1 := B_9q.c1
  have F_9q_c0 := F_9q.c0
  have F_9q_c1 := F_9q.c1
  have M_9q_c0 := M_9q.c0
  have M_9q_c1 := M_9q.c1
  have M_9q_f0 := M_9q.f0
  have M_9q_f1 := M_9q.f1
  go_wp2_with fail
  refine (refat_any _ _ _).mono ?_
  rintro e w10 ⟨rfl, y10⟩
  have P_10 := P_9q.on y10
  have X_10 := X_9q.on y10
  have B_10 := B_9q.on y10
  have F_10 := F_9q.on y10
  have M_10 := M_9q.on y10
  clear P_9q P_9q_c0 P_9q_c1 P_9q_c2 X_9q X_9q_c0 X_9q_c1 X_9q_c2 B_9q B_9q_c0 B_9q_c1 F_9q F_9q_c0 F_9q_c1 M_9q M_9q_c0 M_9q_c1 M_9q_f0 M_9q_f1
  have z10 := Z9q.trans (y10.mono Z9q.size)
  have Z10 := z10
  have cM10 := CM_9q.trans (y10.mono CM_9q.size)
  have CM_10 := cM10
  have P_10_c0 := P_10.c0
  have P_10_c1 := P_10.c1
  have P_10_c2 := P_10.c2
  have X_10_c0 := X_10.c0
  have X_10_c1 := X_10.c1
  have X_10_c2 := X_10.c2
  have B_10_c0 := B_10.c0
  have B_10_c1 := B_10.c1
  have F_10_c0 := F_10.c0
  have F_10_c1 := F_10.c1
  have M_10_c0 := M_10.c0
  have M_10_c1 := M_10.c1
  have M_10_f0 := M_10.f0
  have M_10_f1 := M_10.f1
  have CM_11 := (CM_10.setCell (p := ⟨w9.heap.size, 0, none⟩) (by simp) (.int .i64 4)).setCell (p := ⟨w9.heap.size, 1, none⟩) (by simp) (.int .i64 (-2))
  have Z11 := (Z10.setCell (p := ⟨w9.heap.size, 0, none⟩) (by have := z9.size; simp; omega) (.int .i64 4)).setCell (p := ⟨w9.heap.size, 1, none⟩) (by have := z9.size; simp; omega) (.int .i64 (-2))
  have P_11 := P_b.on CM_11
  have X_11 := X_b.on CM_11
  have B_11 := B_b.on CM_11
  have F_11 := F_b.on CM_11
  have M_11 := (M_10.set0 (.int .i64 4)).set1 (.int .i64 (-2))
  have P_11_c0 := P_11.c0
  have P_11_c1 := P_11.c1
  have P_11_c2 := P_11.c2
  have X_11_c0 := X_11.c0
  have X_11_c1 := X_11.c1
  have X_11_c2 := X_11.c2
  have B_11_c0 := B_11.c0
  have B_11_c1 := B_11.c1
  have F_11_c0 := F_11.c0
  have F_11_c1 := F_11.c1
  have M_11_c0 := M_11.c0
  have M_11_c1 := M_11.c1
  have M_11_f0 := M_11.f0
  have M_11_f1 := M_11.f1
  go_wp2_with fail
  refine (api_same (l := []) (l2 := []) (Rd.none_ _) (Rd.none_ _) Is01.nil Is01.nil true (by simp) _ _ rfl rfl).mono ?_
  rintro e w12 ⟨rfl, y12⟩
  have P_12 := P_11.on y12
  have X_12 := X_11.on y12
  have B_12 := B_11.on y12
  have F_12 := F_11.on y12
  have M_12 := M_11.on y12
  clear P_10 P_10_c0 P_10_c1 P_10_c2 X_10 X_10_c0 X_10_c1 X_10_c2 B_10 B_10_c0 B_10_c1 F_10 F_10_c0 F_10_c1 M_10 M_10_c0 M_10_c1 M_10_f0 M_10_f1 P_11 P_11_c0 P_11_c1 P_11_c2 X_11 X_11_c0 X_11_c1 X_11_c2 B_11 B_11_c0 B_11_c1 F_11 F_11_c0 F_11_c1 M_11 M_11_c0 M_11_c1 M_11_f0 M_11_f1
  have z12 := Z11.trans (y12.mono Z11.size)
  have Z12 := z12
  have cM12 := CM_11.trans (y12.mono CM_11.size)
  have CM_12 := cM12
  have P_12_c0 := P_12.c0
  have P_12_c1 := P_12.c1
  have P_12_c2 := P_12.c2
  have X_12_c0 := X_12.c0
  have X_12_c1 := X_12.c1
  have X_12_c2 := X_12.c2
  have B_12_c0 := B_12.c0
  have B_12_c1 := B_12.c1
  have F_12_c0 := F_12.c0
  have F_12_c1 := F_12.c1
  have M_12_c0 := M_12.c0
  have M_12_c1 := M_12.c1
  have M_12_f0 := M_12.f0
  have M_12_f1 := M_12.f1
  go_wp2
  go_ret
  exact ⟨rfl, Z12⟩
set_option maxRecDepth 100000 in
set_option maxHeartbeats 1600000 in
theorem ap_prob0_l {lo hi p : Int} {q : Nat} (hok : COk lo hi (q : Nat)) (hp : ¬ (1 ≤ p ∧ p ≤ 4095)) (hlast : lo < 16384) (w : World)  :
    Calls Try.prog 8 #[.agg #[.int .i64 lo, .int .i64 hi, .int .i64 (q : Nat)], .int .i64 (0 : Int), .int .i64 p] w fun e w' => e = .returned (.bool true) ∧ Below w.heap.size w w' := by
  have hqq := hok.2.2
  have hb9 : 0 = if lo < 16384 then 0 else 1 := by rw [if_pos hlast]
  have HFI := Lib.hid (fun (W : World) => finish_ok hok 0 hb9 W)
  have HCK := Lib.hid (fun (W : World) => coderok_any lo hi (q : Nat) true ⟨fun _ => hok, fun _ => rfl⟩ W)
  obtain ⟨kf, hkf⟩ : ∃ kf, kf = (crt 0 (q + 1)).length := ⟨_, rfl⟩
  have hkf2 : kf ≤ q + 2 := by rw [hkf]; simp [crt]
  have hc01 : Is01 (crt 0 (q + 1)) := Is01.of_mem fun x hx => by have := crt_le (b := 0) (q := q + 1) (by decide) x hx; omega
  have HC01 := Lib.hid hc01
  have hsl : (sentf [0] (q + 1)) = (crt 0 (q + 1), 0) := by rw [sentf_other (by decide)]; simp [sentf]
  have HSE := Lib.hid (fun (W : World) (A9 : Option Addr) (n9 c9 : Nat) (hW : Rd W A9 n9 c9 (ncells [0])) => sent_any hW (by decide) (by decide) (q := q + 1) (by omega) (crt 0 (q + 1)) 0 (by rw [hsl]) (by rw [hsl]) ((q : Int) + 1) (by omega))
  rw [← hkf] at HFI
  have HKF := Lib.hid hkf
  have hlk : decide (lo < 16384) = true := by simpa using hlast
  have k0 : ((0 : Int) != 0) = false := rfl
  have HPU := Lib.hid (fun (W : World) => put_prob_any hok (b := 0) (.inl rfl) hp W)
  have HPR := Lib.hid (show p < 1 ∨ 4095 < p by omega)
  clear hok hlast hb9 hkf hc01 hsl hp
  have P_0 := (Three.new w 50 (.int .i64 lo) (.int .i64 hi) (.int .i64 (q : Nat)))
  have Z0 := (Below.refl w.heap.size w).alloc (by simp) (.cells #[.int .i64 lo, .int .i64 hi, .int .i64 (q : Nat)] 50)
  have P_0_c0 := P_0.c0
  have P_0_c1 := P_0.c1
  have P_0_c2 := P_0.c2
  go_enter Try.func8, Try.ntmps8
  go_wp2_with fail
  refine (HPU.out _).mono ?_
  rintro e w1 ⟨rfl, y1⟩
  have P_1 := (((P_0.on y1).alloc (.cells #[.int .i64 0, .int .i64 0, .int .i64 0] 50)).alloc (.cells #[.slice none 0 0, .int .i64 0] 25)).alloc (.cells #[.int .i64 4, .int .i64 (-3)] 27)
  have X_1 := (((Three.new w1 50 (.int .i64 0) (.int .i64 0) (.int .i64 0))).alloc (.cells #[.slice none 0 0, .int .i64 0] 25)).alloc (.cells #[.int .i64 4, .int .i64 (-3)] 27)
  have B_1 := ((Two.new1 w1 (.cells #[.int .i64 0, .int .i64 0, .int .i64 0] 50) 25 (.slice none 0 0) (.int .i64 0))).alloc (.cells #[.int .i64 4, .int .i64 (-3)] 27)
  have F_1 := (Two.new2 w1 (.cells #[.int .i64 0, .int .i64 0, .int .i64 0] 50) (.cells #[.slice none 0 0, .int .i64 0] 25) 27 (.int .i64 4) (.int .i64 (-3)))
  clear P_0 P_0_c0 P_0_c1 P_0_c2
  have z1 := Z0.trans (y1.mono Z0.size)
  have Z1 := (((z1).alloc (by have := z1.size; omega) (.cells #[.int .i64 0, .int .i64 0, .int .i64 0] 50)).alloc (by have := z1.size; simp; omega) (.cells #[.slice none 0 0, .int .i64 0] 25)).alloc (by have := z1.size; simp; omega) (.cells #[.int .i64 4, .int .i64 (-3)] 27)
  have P_1_c0 := P_1.c0
  have P_1_c1 := P_1.c1
  have P_1_c2 := P_1.c2
  have X_1_c0 := X_1.c0
  have X_1_c1 := X_1.c1
  have X_1_c2 := X_1.c2
  have B_1_c0 := B_1.c0
  have B_1_c1 := B_1.c1
  have F_1_c0 := F_1.c0
  have F_1_c1 := F_1.c1
  go_wp2_with fail
  refine (HFI.out _).mono ?_
  rintro e w2 ⟨A2, n2, c2, rfl, R2, y2⟩
  have P_2 := ((P_1.on y2).alloc (.cells #[.slice A2 n2 c2, .int .i64 (kf : Nat)] 25)).alloc (.cells #[.int .i64 0, .int .i64 0] 27)
  have X_2 := ((X_1.on y2).alloc (.cells #[.slice A2 n2 c2, .int .i64 (kf : Nat)] 25)).alloc (.cells #[.int .i64 0, .int .i64 0] 27)
  have B_2 := ((B_1.on y2).alloc (.cells #[.slice A2 n2 c2, .int .i64 (kf : Nat)] 25)).alloc (.cells #[.int .i64 0, .int .i64 0] 27)
  have F_2 := ((F_1.on y2).alloc (.cells #[.slice A2 n2 c2, .int .i64 (kf : Nat)] 25)).alloc (.cells #[.int .i64 0, .int .i64 0] 27)
  have E1_2 := ((R2).alloc (.cells #[.slice A2 n2 c2, .int .i64 (kf : Nat)] 25)).alloc (.cells #[.int .i64 0, .int .i64 0] 27)
  have E_2 := ((Two.new w2 25 (.slice A2 n2 c2) (.int .i64 (kf : Nat)))).alloc (.cells #[.int .i64 0, .int .i64 0] 27)
  have G_2 := (Two.new1 w2 (.cells #[.slice A2 n2 c2, .int .i64 (kf : Nat)] 25) 27 (.int .i64 0) (.int .i64 0))
  clear P_1 P_1_c0 P_1_c1 P_1_c2 X_1 X_1_c0 X_1_c1 X_1_c2 B_1 B_1_c0 B_1_c1 F_1 F_1_c0 F_1_c1
  have z2 := Z1.trans (y2.mono Z1.size)
  have Z2 := ((z2).alloc (by have := z2.size; omega) (.cells #[.slice A2 n2 c2, .int .i64 (kf : Nat)] 25)).alloc (by have := z2.size; simp; omega) (.cells #[.int .i64 0, .int .i64 0] 27)
  have P_2_c0 := P_2.c0
  have P_2_c1 := P_2.c1
  have P_2_c2 := P_2.c2
  have X_2_c0 := X_2.c0
  have X_2_c1 := X_2.c1
  have X_2_c2 := X_2.c2
  have B_2_c0 := B_2.c0
  have B_2_c1 := B_2.c1
  have F_2_c0 := F_2.c0
  have F_2_c1 := F_2.c1
  have E_2_c0 := E_2.c0
  have E_2_c1 := E_2.c1
  have G_2_c0 := G_2.c0
  have G_2_c1 := G_2.c1
  go_wp2_with fail
  refine (codes_true _).mono ?_
  rintro e w3 ⟨rfl, y3⟩
  have P_3 := P_2.on y3
  have X_3 := X_2.on y3
  have B_3 := B_2.on y3
  have F_3 := F_2.on y3
  have E1_3 := E1_2.on y3
  have E_3 := E_2.on y3
  have G_3 := G_2.on y3
  clear P_2 P_2_c0 P_2_c1 P_2_c2 X_2 X_2_c0 X_2_c1 X_2_c2 B_2 B_2_c0 B_2_c1 F_2 F_2_c0 F_2_c1 E1_2 E_2 E_2_c0 E_2_c1 G_2 G_2_c0 G_2_c1
  have z3 := Z2.trans (y3.mono Z2.size)
  have Z3 := z3
  have P_3_c0 := P_3.c0
  have P_3_c1 := P_3.c1
  have P_3_c2 := P_3.c2
  have X_3_c0 := X_3.c0
  have X_3_c1 := X_3.c1
  have X_3_c2 := X_3.c2
  have B_3_c0 := B_3.c0
  have B_3_c1 := B_3.c1
  have F_3_c0 := F_3.c0
  have F_3_c1 := F_3.c1
  have E_3_c0 := E_3.c0
  have E_3_c1 := E_3.c1
  have G_3_c0 := G_3.c0
  have G_3_c1 := G_3.c1
  go_wp2_with fail
  refine (start_any _).mono ?_
  rintro e w4 ⟨rfl, y4⟩
  have P_4 := P_3.on y4
  have X_4 := X_3.on y4
  have B_4 := B_3.on y4
  have F_4 := F_3.on y4
  have E1_4 := E1_3.on y4
  have E_4 := E_3.on y4
  have G_4 := G_3.on y4
  clear P_3 P_3_c0 P_3_c1 P_3_c2 X_3 X_3_c0 X_3_c1 X_3_c2 B_3 B_3_c0 B_3_c1 F_3 F_3_c0 F_3_c1 E1_3 E_3 E_3_c0 E_3_c1 G_3 G_3_c0 G_3_c1
  have z4 := Z3.trans (y4.mono Z3.size)
  have Z4 := z4
  have P_4_c0 := P_4.c0
  have P_4_c1 := P_4.c1
  have P_4_c2 := P_4.c2
  have X_4_c0 := X_4.c0
  have X_4_c1 := X_4.c1
  have X_4_c2 := X_4.c2
  have B_4_c0 := B_4.c0
  have B_4_c1 := B_4.c1
  have F_4_c0 := F_4.c0
  have F_4_c1 := F_4.c1
  have E_4_c0 := E_4.c0
  have E_4_c1 := E_4.c1
  have G_4_c0 := G_4.c0
  have G_4_c1 := G_4.c1
  go_wp2_with fail
  refine (HCK.out _).mono ?_
  rintro e w5 ⟨rfl, y5⟩
  have P_5 := P_4.on y5
  have X_5 := X_4.on y5
  have B_5 := B_4.on y5
  have F_5 := F_4.on y5
  have E1_5 := E1_4.on y5
  have E_5 := E_4.on y5
  have G_5 := G_4.on y5
  clear P_4 P_4_c0 P_4_c1 P_4_c2 X_4 X_4_c0 X_4_c1 X_4_c2 B_4 B_4_c0 B_4_c1 F_4 F_4_c0 F_4_c1 E1_4 E_4 E_4_c0 E_4_c1 G_4 G_4_c0 G_4_c1
  have z5 := Z4.trans (y5.mono Z4.size)
  have Z5 := z5
  have P_5_c0 := P_5.c0
  have P_5_c1 := P_5.c1
  have P_5_c2 := P_5.c2
  have X_5_c0 := X_5.c0
  have X_5_c1 := X_5.c1
  have X_5_c2 := X_5.c2
  have B_5_c0 := B_5.c0
  have B_5_c1 := B_5.c1
  have F_5_c0 := F_5.c0
  have F_5_c1 := F_5.c1
  have E_5_c0 := E_5.c0
  have E_5_c1 := E_5.c1
  have G_5_c0 := G_5.c0
  have G_5_c1 := G_5.c1
  have P_6 := P_5.alloc (.cells #[.int .i64 0] 3)
  have X_6 := X_5.alloc (.cells #[.int .i64 0] 3)
  have B_6 := B_5.alloc (.cells #[.int .i64 0] 3)
  have F_6 := F_5.alloc (.cells #[.int .i64 0] 3)
  have E1_6 := E1_5.alloc (.cells #[.int .i64 0] 3)
  have E_6 := E_5.alloc (.cells #[.int .i64 0] 3)
  have G_6 := G_5.alloc (.cells #[.int .i64 0] 3)
  have K_6 := (show Rd (w5.alloc (.cells #[.int .i64 0] 3)) (some ⟨w5.heap.size, 0, none⟩) 1 1 (ncells [0]) from Rd.lit1 w5 rfl 0 3)
  have Z6 := Z5.alloc Z5.size (.cells #[.int .i64 0] 3)
  have P_6_c0 := P_6.c0
  have P_6_c1 := P_6.c1
  have P_6_c2 := P_6.c2
  have X_6_c0 := X_6.c0
  have X_6_c1 := X_6.c1
  have X_6_c2 := X_6.c2
  have B_6_c0 := B_6.c0
  have B_6_c1 := B_6.c1
  have F_6_c0 := F_6.c0
  have F_6_c1 := F_6.c1
  have E_6_c0 := E_6.c0
  have E_6_c1 := E_6.c1
  have G_6_c0 := G_6.c0
  have G_6_c1 := G_6.c1
  go_wp2_with fail
  refine (HSE.out _ _ _ _ K_6).mono ?_
  rintro e w7 ⟨A3, n3, c3, rfl, hn3, o3, y7⟩
  have P_7 := P_6.on y7
  have X_7 := X_6.on y7
  have B_7 := B_6.on y7
  have F_7 := F_6.on y7
  have E1_7 := E1_6.on y7
  have E_7 := E_6.on y7
  have G_7 := G_6.on y7
  have O_7 := o3
  clear P_5 P_5_c0 P_5_c1 P_5_c2 X_5 X_5_c0 X_5_c1 X_5_c2 B_5 B_5_c0 B_5_c1 F_5 F_5_c0 F_5_c1 E1_5 E_5 E_5_c0 E_5_c1 G_5 G_5_c0 G_5_c1 P_6 P_6_c0 P_6_c1 P_6_c2 X_6 X_6_c0 X_6_c1 X_6_c2 B_6 B_6_c0 B_6_c1 F_6 F_6_c0 F_6_c1 E1_6 E_6 E_6_c0 E_6_c1 G_6 G_6_c0 G_6_c1 K_6
  have z7 := Z6.trans (y7.mono Z6.size)
  have Z7 := z7
  have P_7_c0 := P_7.c0
  have P_7_c1 := P_7.c1
  have P_7_c2 := P_7.c2
  have X_7_c0 := X_7.c0
  have X_7_c1 := X_7.c1
  have X_7_c2 := X_7.c2
  have B_7_c0 := B_7.c0
  have B_7_c1 := B_7.c1
  have F_7_c0 := F_7.c0
  have F_7_c1 := F_7.c1
  have E_7_c0 := E_7.c0
  have E_7_c1 := E_7.c1
  have G_7_c0 := G_7.c0
  have G_7_c1 := G_7.c1
  go_wp2_with fail
  go_region_held3 (fun w' => w'.cell? ⟨w2.heap.size + 1, 0, none⟩ = some (.int .i64 0) ∧ w'.cell? ⟨w2.heap.size + 1, 1, none⟩ = some (.int .i64 0) ∧ w'.cell? ⟨w2.heap.size, 0, none⟩ = some (.slice A2 n2 c2) ∧ w'.cell? ⟨w2.heap.size, 1, none⟩ = some (.int .i64 (kf : Nat))) (go_keep) (first | (go_at_call 15; refine (arpacked hn3 (Rd.own (own_drew O_7)) HC01.out (by rw [← HKF.out]; omega)).mono ?_; rintro e w8 ⟨A4, n4, c4, rfl, RP, y8⟩; have Y8 : Below w7.heap.size w7.drew w8 := y8; have G_8_c0 := ((Two.on (w := w7.drew) G_7 Y8)).c0; have G_8_c1 := ((Two.on (w := w7.drew) G_7 Y8)).c1; have E_8_c0 := ((Two.on (w := w7.drew) E_7 Y8)).c0; have E_8_c1 := ((Two.on (w := w7.drew) E_7 Y8)).c1) | (go_at_call 14; refine (api_same (Rd.on (w := w7.drew) E1_7 Y8) RP HC01.out HC01.out true (by simp) _ _ (by rw [← HKF.out]) (by rw [hn3])).mono ?_; rintro e w9 ⟨rfl, y9⟩; have Y9 := Y8.trans (y9.mono Y8.size); have G_9_c0 := ((Two.on (w := w7.drew) G_7 Y9)).c0; have G_9_c1 := ((Two.on (w := w7.drew) G_7 Y9)).c1; have E_9_c0 := ((Two.on (w := w7.drew) E_7 Y9)).c0; have E_9_c1 := ((Two.on (w := w7.drew) E_7 Y9)).c1))
  have P_9 := (Three.on (w := w7.drew) P_7 Y9)
  have X_9 := (Three.on (w := w7.drew) X_7 Y9)
  have B_9 := (Two.on (w := w7.drew) B_7 Y9)
  have F_9 := (Two.on (w := w7.drew) F_7 Y9)
  have E1_9 := (Rd.on (w := w7.drew) E1_7 Y9)
  have E_9 := (Two.on (w := w7.drew) E_7 Y9)
  have G_9 := (Two.on (w := w7.drew) G_7 Y9)
  have O_9 := (own_on (w := w7.drew) O_7 Y9)
  have Z9 := (belowD Z7).trans (Y9.mono (belowD Z7).size)
  clear G_8_c0 G_8_c1 E_8_c0 E_8_c1 G_9_c0 G_9_c1 E_9_c0 E_9_c1
  clear P_7 P_7_c0 P_7_c1 P_7_c2 X_7 X_7_c0 X_7_c1 X_7_c2 B_7 B_7_c0 B_7_c1 F_7 F_7_c0 F_7_c1 E1_7 E_7 E_7_c0 E_7_c1 G_7 G_7_c0 G_7_c1 O_7
  have P_9_c0 := P_9.c0
  have P_9_c1 := P_9.c1
  have P_9_c2 := P_9.c2
  have X_9_c0 := X_9.c0
  have X_9_c1 := X_9.c1
  have X_9_c2 := X_9.c2
  have B_9_c0 := B_9.c0
  have B_9_c1 := B_9.c1
  have F_9_c0 := F_9.c0
  have F_9_c1 := F_9.c1
  have E_9_c0 := E_9.c0
  have E_9_c1 := E_9.c1
  have G_9_c0 := G_9.c0
  have G_9_c1 := G_9.c1
  clear G_9 G_9_c0 G_9_c1 E_9 E_9_c0 E_9_c1 E1_9 O_9
  have z9 := Z9
  have P_b := P_9
  have P_9q := P_9.alloc (.cells #[.int .i64 0, .int .i64 0] 27)
  have X_b := X_9
  have X_9q := X_9.alloc (.cells #[.int .i64 0, .int .i64 0] 27)
  have B_b := B_9
  have B_9q := B_9.alloc (.cells #[.int .i64 0, .int .i64 0] 27)
  have F_b := F_9
  have F_9q := F_9.alloc (.cells #[.int .i64 0, .int .i64 0] 27)
  have M_9q := Two.new w9 27 (.int .i64 0) (.int .i64 0)
  have CM_9q := (Below.refl w9.heap.size w9).alloc (Nat.le_refl _) (.cells #[.int .i64 0, .int .i64 0] 27)
  have Z9q := Z9.alloc Z9.size (.cells #[.int .i64 0, .int .i64 0] 27)
  clear P_9 P_9_c0 P_9_c1 P_9_c2 X_9 X_9_c0 X_9_c1 X_9_c2 B_9 B_9_c0 B_9_c1 F_9 F_9_c0 F_9_c1
  have P_9q_c0 := P_9q.c0
  have P_9q_c1 := P_9q.c1
  have P_9q_c2 := P_9q.c2
  have X_9q_c0 := X_9q.c0
  have X_9q_c1 := X_9q.c1
  have X_9q_c2 := X_9q.c2
  have B_9q_c0 := B_9q.c0
  have B_9q_c1 := B_9q.c1
  have F_9q_c0 := F_9q.c0
  have F_9q_c1 := F_9q.c1
  have M_9q_c0 := M_9q.c0
  have M_9q_c1 := M_9q.c1
  have M_9q_f0 := M_9q.f0
  have M_9q_f1 := M_9q.f1
  go_wp2_with fail
  refine (in_no _ _ _ _ HPR.out).mono ?_
  rintro e w9_1 ⟨rfl, rfl⟩
  go_wp2_with fail
  refine (refat_any _ _ _).mono ?_
  rintro e w10 ⟨rfl, y10⟩
  have P_10 := P_9q.on y10
  have X_10 := X_9q.on y10
  have B_10 := B_9q.on y10
  have F_10 := F_9q.on y10
  have M_10 := M_9q.on y10
  clear P_9q P_9q_c0 P_9q_c1 P_9q_c2 X_9q X_9q_c0 X_9q_c1 X_9q_c2 B_9q B_9q_c0 B_9q_c1 F_9q F_9q_c0 F_9q_c1 M_9q M_9q_c0 M_9q_c1 M_9q_f0 M_9q_f1
  have z10 := Z9q.trans (y10.mono Z9q.size)
  have Z10 := z10
  have cM10 := CM_9q.trans (y10.mono CM_9q.size)
  have CM_10 := cM10
  have P_10_c0 := P_10.c0
  have P_10_c1 := P_10.c1
  have P_10_c2 := P_10.c2
  have X_10_c0 := X_10.c0
  have X_10_c1 := X_10.c1
  have X_10_c2 := X_10.c2
  have B_10_c0 := B_10.c0
  have B_10_c1 := B_10.c1
  have F_10_c0 := F_10.c0
  have F_10_c1 := F_10.c1
  have M_10_c0 := M_10.c0
  have M_10_c1 := M_10.c1
  have M_10_f0 := M_10.f0
  have M_10_f1 := M_10.f1
  have CM_11 := (CM_10.setCell (p := ⟨w9.heap.size, 0, none⟩) (by simp) (.int .i64 4)).setCell (p := ⟨w9.heap.size, 1, none⟩) (by simp) (.int .i64 (-3))
  have Z11 := (Z10.setCell (p := ⟨w9.heap.size, 0, none⟩) (by have := z9.size; simp; omega) (.int .i64 4)).setCell (p := ⟨w9.heap.size, 1, none⟩) (by have := z9.size; simp; omega) (.int .i64 (-3))
  have P_11 := P_b.on CM_11
  have X_11 := X_b.on CM_11
  have B_11 := B_b.on CM_11
  have F_11 := F_b.on CM_11
  have M_11 := (M_10.set0 (.int .i64 4)).set1 (.int .i64 (-3))
  have P_11_c0 := P_11.c0
  have P_11_c1 := P_11.c1
  have P_11_c2 := P_11.c2
  have X_11_c0 := X_11.c0
  have X_11_c1 := X_11.c1
  have X_11_c2 := X_11.c2
  have B_11_c0 := B_11.c0
  have B_11_c1 := B_11.c1
  have F_11_c0 := F_11.c0
  have F_11_c1 := F_11.c1
  have M_11_c0 := M_11.c0
  have M_11_c1 := M_11.c1
  have M_11_f0 := M_11.f0
  have M_11_f1 := M_11.f1
  go_wp2_with fail
  refine (api_same (l := []) (l2 := []) (Rd.none_ _) (Rd.none_ _) Is01.nil Is01.nil true (by simp) _ _ rfl rfl).mono ?_
  rintro e w12 ⟨rfl, y12⟩
  have P_12 := P_11.on y12
  have X_12 := X_11.on y12
  have B_12 := B_11.on y12
  have F_12 := F_11.on y12
  have M_12 := M_11.on y12
  clear P_10 P_10_c0 P_10_c1 P_10_c2 X_10 X_10_c0 X_10_c1 X_10_c2 B_10 B_10_c0 B_10_c1 F_10 F_10_c0 F_10_c1 M_10 M_10_c0 M_10_c1 M_10_f0 M_10_f1 P_11 P_11_c0 P_11_c1 P_11_c2 X_11 X_11_c0 X_11_c1 X_11_c2 B_11 B_11_c0 B_11_c1 F_11 F_11_c0 F_11_c1 M_11 M_11_c0 M_11_c1 M_11_f0 M_11_f1
  have z12 := Z11.trans (y12.mono Z11.size)
  have Z12 := z12
  have cM12 := CM_11.trans (y12.mono CM_11.size)
  have CM_12 := cM12
  have P_12_c0 := P_12.c0
  have P_12_c1 := P_12.c1
  have P_12_c2 := P_12.c2
  have X_12_c0 := X_12.c0
  have X_12_c1 := X_12.c1
  have X_12_c2 := X_12.c2
  have B_12_c0 := B_12.c0
  have B_12_c1 := B_12.c1
  have F_12_c0 := F_12.c0
  have F_12_c1 := F_12.c1
  have M_12_c0 := M_12.c0
  have M_12_c1 := M_12.c1
  have M_12_f0 := M_12.f0
  have M_12_f1 := M_12.f1
  go_wp2
  go_ret
  exact ⟨rfl, Z12⟩
set_option maxRecDepth 100000 in
set_option maxHeartbeats 1600000 in
theorem ap_big0_l {lo hi p : Int} {q : Nat} (hok : COk lo hi (q : Nat)) (hp1 : 1 ≤ p) (hp2 : p ≤ 4095) (hbig : 131056 < (sentf (stp lo hi 0 p).2.2 q).2) (hlast : lo < 16384) (w : World)  :
    Calls Try.prog 8 #[.agg #[.int .i64 lo, .int .i64 hi, .int .i64 (q : Nat)], .int .i64 ((0 : Nat) : Int), .int .i64 p] w fun e w' => e = .returned (.bool true) ∧ Below w.heap.size w w' := by
  have hqq := hok.2.2
  have hb9 : 0 = if lo < 16384 then 0 else 1 := by rw [if_pos hlast]
  have HFI := Lib.hid (fun (W : World) => finish_ok hok 0 hb9 W)
  have HCK := Lib.hid (fun (W : World) => coderok_any lo hi (q : Nat) true ⟨fun _ => hok, fun _ => rfl⟩ W)
  obtain ⟨kf, hkf⟩ : ∃ kf, kf = (crt 0 (q + 1)).length := ⟨_, rfl⟩
  have hkf2 : kf ≤ q + 2 := by rw [hkf]; simp [crt]
  have hc01 : Is01 (crt 0 (q + 1)) := Is01.of_mem fun x hx => by have := crt_le (b := 0) (q := q + 1) (by decide) x hx; omega
  have HC01 := Lib.hid hc01
  have hsl : (sentf [0] (q + 1)) = (crt 0 (q + 1), 0) := by rw [sentf_other (by decide)]; simp [sentf]
  have HSE := Lib.hid (fun (W : World) (A9 : Option Addr) (n9 c9 : Nat) (hW : Rd W A9 n9 c9 (ncells [0])) => sent_any hW (by decide) (by decide) (q := q + 1) (by omega) (crt 0 (q + 1)) 0 (by rw [hsl]) (by rw [hsl]) ((q : Int) + 1) (by omega))
  rw [← hkf] at HFI
  have HKF := Lib.hid hkf
  have hlk : decide (lo < 16384) = true := by simpa using hlast
  obtain ⟨LO, hLO⟩ : ∃ LO, LO = (stp lo hi 0 p).1 := ⟨_, rfl⟩
  obtain ⟨HI, hHI⟩ : ∃ HI, HI = (stp lo hi 0 p).2.1 := ⟨_, rfl⟩
  obtain ⟨R, hR⟩ : ∃ R, R = (stp lo hi 0 p).2.2 := ⟨_, rfl⟩
  obtain ⟨S, hS⟩ : ∃ S, S = (sentf (stp lo hi 0 p).2.2 q).1 := ⟨_, rfl⟩
  obtain ⟨Q, hQ⟩ : ∃ Q, Q = (sentf (stp lo hi 0 p).2.2 q).2 := ⟨_, rfl⟩
  obtain ⟨f1, f2, f3, f4⟩ := stp_facts 0 hok.1 hp1 hp2
  have hcnt : S.length + Q = (stp lo hi 0 p).2.2.length + q := by rw [hS, hQ]; exact sentf_count _ _
  have HS01 := Lib.hid (show Is01 S from Is01.of_mem fun x hx => by have := sentf_le _ f3 q x (by rw [← hS]; exact hx); omega)
  rw [← hQ] at hbig
  have HST := Lib.hid (fun (W : World) => steps_any hok.1 hp1 hp2 (b := 0) (by decide) LO HI R hLO hHI hR (0 : Int) rfl W)
  have HPU := Lib.hid (fun (W : World) => put_big hok hp1 hp2 (b := 0) (by decide) LO HI S Q hLO hHI hS hQ hbig W)
  rw [← hR] at hS hQ f2 f3 hcnt
  have hSl : S.length ≤ 140000 := by omega
  have HS2 := Lib.hid (fun (W : World) (A9 : Option Addr) (n9 c9 : Nat) (hW : Rd W A9 n9 c9 (ncells R)) => sent_any hW f3 (by omega) (q := q) (by omega) S Q hS hQ (q : Nat) rfl)
  obtain ⟨ks, hks⟩ : ∃ ks, ks = S.length := ⟨_, rfl⟩
  have HKS := Lib.hid hks
  rw [← hks] at hSl
  have kbig : decide ((131056 : Int) < (Q : Int)) = true := by simp; omega
  have HP1 := Lib.hid hp1
  have HP2 := Lib.hid hp2
  have k0 : (((0 : Nat) : Int) != 0) = false := rfl
  clear hok hlast hb9 hkf hc01 hsl hLO hHI hS hQ hR f1 f3 f4 hcnt hp1 hp2 hks
  have P_0 := (Three.new w 50 (.int .i64 lo) (.int .i64 hi) (.int .i64 (q : Nat)))
  have Z0 := (Below.refl w.heap.size w).alloc (by simp) (.cells #[.int .i64 lo, .int .i64 hi, .int .i64 (q : Nat)] 50)
  have P_0_c0 := P_0.c0
  have P_0_c1 := P_0.c1
  have P_0_c2 := P_0.c2
  go_enter Try.func8, Try.ntmps8
  go_wp2_with fail
  refine (HPU.out _).mono ?_
  rintro e w1 ⟨rfl, y1⟩
  have P_1 := (((P_0.on y1).alloc (.cells #[.int .i64 0, .int .i64 0, .int .i64 0] 50)).alloc (.cells #[.slice none 0 0, .int .i64 0] 25)).alloc (.cells #[.int .i64 14, .int .i64 (-1)] 27)
  have X_1 := (((Three.new w1 50 (.int .i64 0) (.int .i64 0) (.int .i64 0))).alloc (.cells #[.slice none 0 0, .int .i64 0] 25)).alloc (.cells #[.int .i64 14, .int .i64 (-1)] 27)
  have B_1 := ((Two.new1 w1 (.cells #[.int .i64 0, .int .i64 0, .int .i64 0] 50) 25 (.slice none 0 0) (.int .i64 0))).alloc (.cells #[.int .i64 14, .int .i64 (-1)] 27)
  have F_1 := (Two.new2 w1 (.cells #[.int .i64 0, .int .i64 0, .int .i64 0] 50) (.cells #[.slice none 0 0, .int .i64 0] 25) 27 (.int .i64 14) (.int .i64 (-1)))
  clear P_0 P_0_c0 P_0_c1 P_0_c2
  have z1 := Z0.trans (y1.mono Z0.size)
  have Z1 := (((z1).alloc (by have := z1.size; omega) (.cells #[.int .i64 0, .int .i64 0, .int .i64 0] 50)).alloc (by have := z1.size; simp; omega) (.cells #[.slice none 0 0, .int .i64 0] 25)).alloc (by have := z1.size; simp; omega) (.cells #[.int .i64 14, .int .i64 (-1)] 27)
  have P_1_c0 := P_1.c0
  have P_1_c1 := P_1.c1
  have P_1_c2 := P_1.c2
  have X_1_c0 := X_1.c0
  have X_1_c1 := X_1.c1
  have X_1_c2 := X_1.c2
  have B_1_c0 := B_1.c0
  have B_1_c1 := B_1.c1
  have F_1_c0 := F_1.c0
  have F_1_c1 := F_1.c1
  go_wp2_with fail
  refine (HFI.out _).mono ?_
  rintro e w2 ⟨A2, n2, c2, rfl, R2, y2⟩
  have P_2 := ((P_1.on y2).alloc (.cells #[.slice A2 n2 c2, .int .i64 (kf : Nat)] 25)).alloc (.cells #[.int .i64 0, .int .i64 0] 27)
  have X_2 := ((X_1.on y2).alloc (.cells #[.slice A2 n2 c2, .int .i64 (kf : Nat)] 25)).alloc (.cells #[.int .i64 0, .int .i64 0] 27)
  have B_2 := ((B_1.on y2).alloc (.cells #[.slice A2 n2 c2, .int .i64 (kf : Nat)] 25)).alloc (.cells #[.int .i64 0, .int .i64 0] 27)
  have F_2 := ((F_1.on y2).alloc (.cells #[.slice A2 n2 c2, .int .i64 (kf : Nat)] 25)).alloc (.cells #[.int .i64 0, .int .i64 0] 27)
  have E1_2 := ((R2).alloc (.cells #[.slice A2 n2 c2, .int .i64 (kf : Nat)] 25)).alloc (.cells #[.int .i64 0, .int .i64 0] 27)
  have E_2 := ((Two.new w2 25 (.slice A2 n2 c2) (.int .i64 (kf : Nat)))).alloc (.cells #[.int .i64 0, .int .i64 0] 27)
  have G_2 := (Two.new1 w2 (.cells #[.slice A2 n2 c2, .int .i64 (kf : Nat)] 25) 27 (.int .i64 0) (.int .i64 0))
  clear P_1 P_1_c0 P_1_c1 P_1_c2 X_1 X_1_c0 X_1_c1 X_1_c2 B_1 B_1_c0 B_1_c1 F_1 F_1_c0 F_1_c1
  have z2 := Z1.trans (y2.mono Z1.size)
  have Z2 := ((z2).alloc (by have := z2.size; omega) (.cells #[.slice A2 n2 c2, .int .i64 (kf : Nat)] 25)).alloc (by have := z2.size; simp; omega) (.cells #[.int .i64 0, .int .i64 0] 27)
  have P_2_c0 := P_2.c0
  have P_2_c1 := P_2.c1
  have P_2_c2 := P_2.c2
  have X_2_c0 := X_2.c0
  have X_2_c1 := X_2.c1
  have X_2_c2 := X_2.c2
  have B_2_c0 := B_2.c0
  have B_2_c1 := B_2.c1
  have F_2_c0 := F_2.c0
  have F_2_c1 := F_2.c1
  have E_2_c0 := E_2.c0
  have E_2_c1 := E_2.c1
  have G_2_c0 := G_2.c0
  have G_2_c1 := G_2.c1
  go_wp2_with fail
  refine (codes_true _).mono ?_
  rintro e w3 ⟨rfl, y3⟩
  have P_3 := P_2.on y3
  have X_3 := X_2.on y3
  have B_3 := B_2.on y3
  have F_3 := F_2.on y3
  have E1_3 := E1_2.on y3
  have E_3 := E_2.on y3
  have G_3 := G_2.on y3
  clear P_2 P_2_c0 P_2_c1 P_2_c2 X_2 X_2_c0 X_2_c1 X_2_c2 B_2 B_2_c0 B_2_c1 F_2 F_2_c0 F_2_c1 E1_2 E_2 E_2_c0 E_2_c1 G_2 G_2_c0 G_2_c1
  have z3 := Z2.trans (y3.mono Z2.size)
  have Z3 := z3
  have P_3_c0 := P_3.c0
  have P_3_c1 := P_3.c1
  have P_3_c2 := P_3.c2
  have X_3_c0 := X_3.c0
  have X_3_c1 := X_3.c1
  have X_3_c2 := X_3.c2
  have B_3_c0 := B_3.c0
  have B_3_c1 := B_3.c1
  have F_3_c0 := F_3.c0
  have F_3_c1 := F_3.c1
  have E_3_c0 := E_3.c0
  have E_3_c1 := E_3.c1
  have G_3_c0 := G_3.c0
  have G_3_c1 := G_3.c1
  go_wp2_with fail
  refine (start_any _).mono ?_
  rintro e w4 ⟨rfl, y4⟩
  have P_4 := P_3.on y4
  have X_4 := X_3.on y4
  have B_4 := B_3.on y4
  have F_4 := F_3.on y4
  have E1_4 := E1_3.on y4
  have E_4 := E_3.on y4
  have G_4 := G_3.on y4
  clear P_3 P_3_c0 P_3_c1 P_3_c2 X_3 X_3_c0 X_3_c1 X_3_c2 B_3 B_3_c0 B_3_c1 F_3 F_3_c0 F_3_c1 E1_3 E_3 E_3_c0 E_3_c1 G_3 G_3_c0 G_3_c1
  have z4 := Z3.trans (y4.mono Z3.size)
  have Z4 := z4
  have P_4_c0 := P_4.c0
  have P_4_c1 := P_4.c1
  have P_4_c2 := P_4.c2
  have X_4_c0 := X_4.c0
  have X_4_c1 := X_4.c1
  have X_4_c2 := X_4.c2
  have B_4_c0 := B_4.c0
  have B_4_c1 := B_4.c1
  have F_4_c0 := F_4.c0
  have F_4_c1 := F_4.c1
  have E_4_c0 := E_4.c0
  have E_4_c1 := E_4.c1
  have G_4_c0 := G_4.c0
  have G_4_c1 := G_4.c1
  go_wp2_with fail
  refine (HCK.out _).mono ?_
  rintro e w5 ⟨rfl, y5⟩
  have P_5 := P_4.on y5
  have X_5 := X_4.on y5
  have B_5 := B_4.on y5
  have F_5 := F_4.on y5
  have E1_5 := E1_4.on y5
  have E_5 := E_4.on y5
  have G_5 := G_4.on y5
  clear P_4 P_4_c0 P_4_c1 P_4_c2 X_4 X_4_c0 X_4_c1 X_4_c2 B_4 B_4_c0 B_4_c1 F_4 F_4_c0 F_4_c1 E1_4 E_4 E_4_c0 E_4_c1 G_4 G_4_c0 G_4_c1
  have z5 := Z4.trans (y5.mono Z4.size)
  have Z5 := z5
  have P_5_c0 := P_5.c0
  have P_5_c1 := P_5.c1
  have P_5_c2 := P_5.c2
  have X_5_c0 := X_5.c0
  have X_5_c1 := X_5.c1
  have X_5_c2 := X_5.c2
  have B_5_c0 := B_5.c0
  have B_5_c1 := B_5.c1
  have F_5_c0 := F_5.c0
  have F_5_c1 := F_5.c1
  have E_5_c0 := E_5.c0
  have E_5_c1 := E_5.c1
  have G_5_c0 := G_5.c0
  have G_5_c1 := G_5.c1
  have P_6 := P_5.alloc (.cells #[.int .i64 0] 3)
  have X_6 := X_5.alloc (.cells #[.int .i64 0] 3)
  have B_6 := B_5.alloc (.cells #[.int .i64 0] 3)
  have F_6 := F_5.alloc (.cells #[.int .i64 0] 3)
  have E1_6 := E1_5.alloc (.cells #[.int .i64 0] 3)
  have E_6 := E_5.alloc (.cells #[.int .i64 0] 3)
  have G_6 := G_5.alloc (.cells #[.int .i64 0] 3)
  have K_6 := (show Rd (w5.alloc (.cells #[.int .i64 0] 3)) (some ⟨w5.heap.size, 0, none⟩) 1 1 (ncells [0]) from Rd.lit1 w5 rfl 0 3)
  have Z6 := Z5.alloc Z5.size (.cells #[.int .i64 0] 3)
  have P_6_c0 := P_6.c0
  have P_6_c1 := P_6.c1
  have P_6_c2 := P_6.c2
  have X_6_c0 := X_6.c0
  have X_6_c1 := X_6.c1
  have X_6_c2 := X_6.c2
  have B_6_c0 := B_6.c0
  have B_6_c1 := B_6.c1
  have F_6_c0 := F_6.c0
  have F_6_c1 := F_6.c1
  have E_6_c0 := E_6.c0
  have E_6_c1 := E_6.c1
  have G_6_c0 := G_6.c0
  have G_6_c1 := G_6.c1
  go_wp2_with fail
  refine (HSE.out _ _ _ _ K_6).mono ?_
  rintro e w7 ⟨A3, n3, c3, rfl, hn3, o3, y7⟩
  have P_7 := P_6.on y7
  have X_7 := X_6.on y7
  have B_7 := B_6.on y7
  have F_7 := F_6.on y7
  have E1_7 := E1_6.on y7
  have E_7 := E_6.on y7
  have G_7 := G_6.on y7
  have O_7 := o3
  clear P_5 P_5_c0 P_5_c1 P_5_c2 X_5 X_5_c0 X_5_c1 X_5_c2 B_5 B_5_c0 B_5_c1 F_5 F_5_c0 F_5_c1 E1_5 E_5 E_5_c0 E_5_c1 G_5 G_5_c0 G_5_c1 P_6 P_6_c0 P_6_c1 P_6_c2 X_6 X_6_c0 X_6_c1 X_6_c2 B_6 B_6_c0 B_6_c1 F_6 F_6_c0 F_6_c1 E1_6 E_6 E_6_c0 E_6_c1 G_6 G_6_c0 G_6_c1 K_6
  have z7 := Z6.trans (y7.mono Z6.size)
  have Z7 := z7
  have P_7_c0 := P_7.c0
  have P_7_c1 := P_7.c1
  have P_7_c2 := P_7.c2
  have X_7_c0 := X_7.c0
  have X_7_c1 := X_7.c1
  have X_7_c2 := X_7.c2
  have B_7_c0 := B_7.c0
  have B_7_c1 := B_7.c1
  have F_7_c0 := F_7.c0
  have F_7_c1 := F_7.c1
  have E_7_c0 := E_7.c0
  have E_7_c1 := E_7.c1
  have G_7_c0 := G_7.c0
  have G_7_c1 := G_7.c1
  go_wp2_with fail
  go_region_held3 (fun w' => w'.cell? ⟨w2.heap.size + 1, 0, none⟩ = some (.int .i64 0) ∧ w'.cell? ⟨w2.heap.size + 1, 1, none⟩ = some (.int .i64 0) ∧ w'.cell? ⟨w2.heap.size, 0, none⟩ = some (.slice A2 n2 c2) ∧ w'.cell? ⟨w2.heap.size, 1, none⟩ = some (.int .i64 (kf : Nat))) (go_keep) (first | (go_at_call 15; refine (arpacked hn3 (Rd.own (own_drew O_7)) HC01.out (by rw [← HKF.out]; omega)).mono ?_; rintro e w8 ⟨A4, n4, c4, rfl, RP, y8⟩; have Y8 : Below w7.heap.size w7.drew w8 := y8; have G_8_c0 := ((Two.on (w := w7.drew) G_7 Y8)).c0; have G_8_c1 := ((Two.on (w := w7.drew) G_7 Y8)).c1; have E_8_c0 := ((Two.on (w := w7.drew) E_7 Y8)).c0; have E_8_c1 := ((Two.on (w := w7.drew) E_7 Y8)).c1) | (go_at_call 14; refine (api_same (Rd.on (w := w7.drew) E1_7 Y8) RP HC01.out HC01.out true (by simp) _ _ (by rw [← HKF.out]) (by rw [hn3])).mono ?_; rintro e w9 ⟨rfl, y9⟩; have Y9 := Y8.trans (y9.mono Y8.size); have G_9_c0 := ((Two.on (w := w7.drew) G_7 Y9)).c0; have G_9_c1 := ((Two.on (w := w7.drew) G_7 Y9)).c1; have E_9_c0 := ((Two.on (w := w7.drew) E_7 Y9)).c0; have E_9_c1 := ((Two.on (w := w7.drew) E_7 Y9)).c1))
  have P_9 := (Three.on (w := w7.drew) P_7 Y9)
  have X_9 := (Three.on (w := w7.drew) X_7 Y9)
  have B_9 := (Two.on (w := w7.drew) B_7 Y9)
  have F_9 := (Two.on (w := w7.drew) F_7 Y9)
  have E1_9 := (Rd.on (w := w7.drew) E1_7 Y9)
  have E_9 := (Two.on (w := w7.drew) E_7 Y9)
  have G_9 := (Two.on (w := w7.drew) G_7 Y9)
  have O_9 := (own_on (w := w7.drew) O_7 Y9)
  have Z9 := (belowD Z7).trans (Y9.mono (belowD Z7).size)
  clear G_8_c0 G_8_c1 E_8_c0 E_8_c1 G_9_c0 G_9_c1 E_9_c0 E_9_c1
  clear P_7 P_7_c0 P_7_c1 P_7_c2 X_7 X_7_c0 X_7_c1 X_7_c2 B_7 B_7_c0 B_7_c1 F_7 F_7_c0 F_7_c1 E1_7 E_7 E_7_c0 E_7_c1 G_7 G_7_c0 G_7_c1 O_7
  have P_9_c0 := P_9.c0
  have P_9_c1 := P_9.c1
  have P_9_c2 := P_9.c2
  have X_9_c0 := X_9.c0
  have X_9_c1 := X_9.c1
  have X_9_c2 := X_9.c2
  have B_9_c0 := B_9.c0
  have B_9_c1 := B_9.c1
  have F_9_c0 := F_9.c0
  have F_9_c1 := F_9.c1
  have E_9_c0 := E_9.c0
  have E_9_c1 := E_9.c1
  have G_9_c0 := G_9.c0
  have G_9_c1 := G_9.c1
  clear G_9 G_9_c0 G_9_c1 E_9 E_9_c0 E_9_c1 E1_9 O_9
  have z9 := Z9
  have P_b := P_9
  have P_9q := P_9.alloc (.cells #[.int .i64 0, .int .i64 0] 27)
  have X_b := X_9
  have X_9q := X_9.alloc (.cells #[.int .i64 0, .int .i64 0] 27)
  have B_b := B_9
  have B_9q := B_9.alloc (.cells #[.int .i64 0, .int .i64 0] 27)
  have F_b := F_9
  have F_9q := F_9.alloc (.cells #[.int .i64 0, .int .i64 0] 27)
  have M_9q := Two.new w9 27 (.int .i64 0) (.int .i64 0)
  have CM_9q := (Below.refl w9.heap.size w9).alloc (Nat.le_refl _) (.cells #[.int .i64 0, .int .i64 0] 27)
  have Z9q := Z9.alloc Z9.size (.cells #[.int .i64 0, .int .i64 0] 27)
  clear P_9 P_9_c0 P_9_c1 P_9_c2 X_9 X_9_c0 X_9_c1 X_9_c2 B_9 B_9_c0 B_9_c1 F_9 F_9_c0 F_9_c1
  have P_9q_c0 := P_9q.c0
  have P_9q_c1 := P_9q.c1
  have P_9q_c2 := P_9q.c2
  have X_9q_c0 := X_9q.c0
  have X_9q_c1 := X_9q.c1
  have X_9q_c2 := X_9q.c2
  have B_9q_c0 := B_9q.c0
  have B_9q_c1 := B_9q.c1
  have F_9q_c0 := F_9q.c0
  have F_9q_c1 := F_9q.c1
  have M_9q_c0 := M_9q.c0
  have M_9q_c1 := M_9q.c1
  have M_9q_f0 := M_9q.f0
  have M_9q_f1 := M_9q.f1
  go_wp2_with fail
  refine (in_yes _ _ _ _ HP1.out HP2.out).mono ?_
  rintro e w9_1 ⟨rfl, rfl⟩
  go_wp2_with fail
  refine (HST.out _).mono ?_
  rintro e w10 ⟨A5, n5, c5, rfl, hn5, o5, y10⟩
  have P_10 := P_9q.on y10
  have X_10 := X_9q.on y10
  have B_10 := B_9q.on y10
  have F_10 := F_9q.on y10
  have M_10 := M_9q.on y10
  have T_10 := o5
  clear P_9q P_9q_c0 P_9q_c1 P_9q_c2 X_9q X_9q_c0 X_9q_c1 X_9q_c2 B_9q B_9q_c0 B_9q_c1 F_9q F_9q_c0 F_9q_c1 M_9q M_9q_c0 M_9q_c1 M_9q_f0 M_9q_f1
  have z10 := Z9q.trans (y10.mono Z9q.size)
  have Z10 := z10
  have cM10 := CM_9q.trans (y10.mono CM_9q.size)
  have CM_10 := cM10
  have P_10_c0 := P_10.c0
  have P_10_c1 := P_10.c1
  have P_10_c2 := P_10.c2
  have X_10_c0 := X_10.c0
  have X_10_c1 := X_10.c1
  have X_10_c2 := X_10.c2
  have B_10_c0 := B_10.c0
  have B_10_c1 := B_10.c1
  have F_10_c0 := F_10.c0
  have F_10_c1 := F_10.c1
  have M_10_c0 := M_10.c0
  have M_10_c1 := M_10.c1
  have M_10_f0 := M_10.f0
  have M_10_f1 := M_10.f1
  go_wp2_with fail
  refine (HS2.out _ _ _ _ (Rd.own T_10)).mono ?_
  rintro e w11 ⟨A6, n6, c6, rfl, hn6, o6, y11⟩
  have P_11 := P_10.on y11
  have X_11 := X_10.on y11
  have B_11 := B_10.on y11
  have F_11 := F_10.on y11
  have M_11 := M_10.on y11
  have U_11 := o6
  clear P_10 P_10_c0 P_10_c1 P_10_c2 X_10 X_10_c0 X_10_c1 X_10_c2 B_10 B_10_c0 B_10_c1 F_10 F_10_c0 F_10_c1 M_10 M_10_c0 M_10_c1 M_10_f0 M_10_f1 T_10
  have z11 := Z10.trans (y11.mono Z10.size)
  have Z11 := z11
  have cM11 := CM_10.trans (y11.mono CM_10.size)
  have CM_11 := cM11
  have P_11_c0 := P_11.c0
  have P_11_c1 := P_11.c1
  have P_11_c2 := P_11.c2
  have X_11_c0 := X_11.c0
  have X_11_c1 := X_11.c1
  have X_11_c2 := X_11.c2
  have B_11_c0 := B_11.c0
  have B_11_c1 := B_11.c1
  have F_11_c0 := F_11.c0
  have F_11_c1 := F_11.c1
  have M_11_c0 := M_11.c0
  have M_11_c1 := M_11.c1
  have M_11_f0 := M_11.f0
  have M_11_f1 := M_11.f1
  go_wp2_with fail
  refine (refat_any _ _ _).mono ?_
  rintro e w12 ⟨rfl, y12⟩
  have P_12 := P_11.on y12
  have X_12 := X_11.on y12
  have B_12 := B_11.on y12
  have F_12 := F_11.on y12
  have M_12 := M_11.on y12
  have U_12 := own_on U_11 y12
  clear P_11 P_11_c0 P_11_c1 P_11_c2 X_11 X_11_c0 X_11_c1 X_11_c2 B_11 B_11_c0 B_11_c1 F_11 F_11_c0 F_11_c1 M_11 M_11_c0 M_11_c1 M_11_f0 M_11_f1 U_11
  have z12 := Z11.trans (y12.mono Z11.size)
  have Z12 := z12
  have cM12 := CM_11.trans (y12.mono CM_11.size)
  have CM_12 := cM12
  have P_12_c0 := P_12.c0
  have P_12_c1 := P_12.c1
  have P_12_c2 := P_12.c2
  have X_12_c0 := X_12.c0
  have X_12_c1 := X_12.c1
  have X_12_c2 := X_12.c2
  have B_12_c0 := B_12.c0
  have B_12_c1 := B_12.c1
  have F_12_c0 := F_12.c0
  have F_12_c1 := F_12.c1
  have M_12_c0 := M_12.c0
  have M_12_c1 := M_12.c1
  have M_12_f0 := M_12.f0
  have M_12_f1 := M_12.f1
  have CM_13 := (CM_12.setCell (p := ⟨w9.heap.size, 0, none⟩) (by simp) (.int .i64 14)).setCell (p := ⟨w9.heap.size, 1, none⟩) (by simp) (.int .i64 (-1))
  have Z13 := (Z12.setCell (p := ⟨w9.heap.size, 0, none⟩) (by have := z9.size; simp; omega) (.int .i64 14)).setCell (p := ⟨w9.heap.size, 1, none⟩) (by have := z9.size; simp; omega) (.int .i64 (-1))
  have P_13 := P_b.on CM_13
  have X_13 := X_b.on CM_13
  have B_13 := B_b.on CM_13
  have F_13 := F_b.on CM_13
  have M_13 := (M_12.set0 (.int .i64 14)).set1 (.int .i64 (-1))
  have U_13 := own_far_any (own_far_any U_12 (p := ⟨w9.heap.size, 0, none⟩) (own_two_ne U_12 M_12 (by decide)) (.int .i64 14)) (p := ⟨w9.heap.size, 1, none⟩) (own_two_ne U_12 M_12 (by decide)) (.int .i64 (-1))
  have P_13_c0 := P_13.c0
  have P_13_c1 := P_13.c1
  have P_13_c2 := P_13.c2
  have X_13_c0 := X_13.c0
  have X_13_c1 := X_13.c1
  have X_13_c2 := X_13.c2
  have B_13_c0 := B_13.c0
  have B_13_c1 := B_13.c1
  have F_13_c0 := F_13.c0
  have F_13_c1 := F_13.c1
  have M_13_c0 := M_13.c0
  have M_13_c1 := M_13.c1
  have M_13_f0 := M_13.f0
  have M_13_f1 := M_13.f1
  go_wp2_with fail
  refine (api_same (l := []) (l2 := []) (Rd.none_ _) (Rd.none_ _) Is01.nil Is01.nil true (by simp) _ _ rfl rfl).mono ?_
  rintro e w14 ⟨rfl, y14⟩
  have P_14 := P_13.on y14
  have X_14 := X_13.on y14
  have B_14 := B_13.on y14
  have F_14 := F_13.on y14
  have M_14 := M_13.on y14
  have U_14 := own_on U_13 y14
  clear P_12 P_12_c0 P_12_c1 P_12_c2 X_12 X_12_c0 X_12_c1 X_12_c2 B_12 B_12_c0 B_12_c1 F_12 F_12_c0 F_12_c1 M_12 M_12_c0 M_12_c1 M_12_f0 M_12_f1 U_12 P_13 P_13_c0 P_13_c1 P_13_c2 X_13 X_13_c0 X_13_c1 X_13_c2 B_13 B_13_c0 B_13_c1 F_13 F_13_c0 F_13_c1 M_13 M_13_c0 M_13_c1 M_13_f0 M_13_f1 U_13
  have z14 := Z13.trans (y14.mono Z13.size)
  have Z14 := z14
  have cM14 := CM_13.trans (y14.mono CM_13.size)
  have CM_14 := cM14
  have P_14_c0 := P_14.c0
  have P_14_c1 := P_14.c1
  have P_14_c2 := P_14.c2
  have X_14_c0 := X_14.c0
  have X_14_c1 := X_14.c1
  have X_14_c2 := X_14.c2
  have B_14_c0 := B_14.c0
  have B_14_c1 := B_14.c1
  have F_14_c0 := F_14.c0
  have F_14_c1 := F_14.c1
  have M_14_c0 := M_14.c0
  have M_14_c1 := M_14.c1
  have M_14_f0 := M_14.f0
  have M_14_f1 := M_14.f1
  go_wp2
  go_ret
  exact ⟨rfl, Z14⟩
set_option maxRecDepth 100000 in
set_option maxHeartbeats 1600000 in
theorem ap_ok0_l {lo hi p : Int} {q : Nat} (hok : COk lo hi (q : Nat)) (hp1 : 1 ≤ p) (hp2 : p ≤ 4095) (hbig : (sentf (stp lo hi 0 p).2.2 q).2 ≤ 131056) (hlast : lo < 16384) (w : World)  :
    Calls Try.prog 8 #[.agg #[.int .i64 lo, .int .i64 hi, .int .i64 (q : Nat)], .int .i64 ((0 : Nat) : Int), .int .i64 p] w fun e w' => e = .returned (.bool true) ∧ Below w.heap.size w w' := by
  have hqq := hok.2.2
  have hb9 : 0 = if lo < 16384 then 0 else 1 := by rw [if_pos hlast]
  have HFI := Lib.hid (fun (W : World) => finish_ok hok 0 hb9 W)
  have HCK := Lib.hid (fun (W : World) => coderok_any lo hi (q : Nat) true ⟨fun _ => hok, fun _ => rfl⟩ W)
  obtain ⟨kf, hkf⟩ : ∃ kf, kf = (crt 0 (q + 1)).length := ⟨_, rfl⟩
  have hkf2 : kf ≤ q + 2 := by rw [hkf]; simp [crt]
  have hc01 : Is01 (crt 0 (q + 1)) := Is01.of_mem fun x hx => by have := crt_le (b := 0) (q := q + 1) (by decide) x hx; omega
  have HC01 := Lib.hid hc01
  have hsl : (sentf [0] (q + 1)) = (crt 0 (q + 1), 0) := by rw [sentf_other (by decide)]; simp [sentf]
  have HSE := Lib.hid (fun (W : World) (A9 : Option Addr) (n9 c9 : Nat) (hW : Rd W A9 n9 c9 (ncells [0])) => sent_any hW (by decide) (by decide) (q := q + 1) (by omega) (crt 0 (q + 1)) 0 (by rw [hsl]) (by rw [hsl]) ((q : Int) + 1) (by omega))
  rw [← hkf] at HFI
  have HKF := Lib.hid hkf
  have hlk : decide (lo < 16384) = true := by simpa using hlast
  obtain ⟨LO, hLO⟩ : ∃ LO, LO = (stp lo hi 0 p).1 := ⟨_, rfl⟩
  obtain ⟨HI, hHI⟩ : ∃ HI, HI = (stp lo hi 0 p).2.1 := ⟨_, rfl⟩
  obtain ⟨R, hR⟩ : ∃ R, R = (stp lo hi 0 p).2.2 := ⟨_, rfl⟩
  obtain ⟨S, hS⟩ : ∃ S, S = (sentf (stp lo hi 0 p).2.2 q).1 := ⟨_, rfl⟩
  obtain ⟨Q, hQ⟩ : ∃ Q, Q = (sentf (stp lo hi 0 p).2.2 q).2 := ⟨_, rfl⟩
  obtain ⟨f1, f2, f3, f4⟩ := stp_facts 0 hok.1 hp1 hp2
  have hcnt : S.length + Q = (stp lo hi 0 p).2.2.length + q := by rw [hS, hQ]; exact sentf_count _ _
  have HS01 := Lib.hid (show Is01 S from Is01.of_mem fun x hx => by have := sentf_le _ f3 q x (by rw [← hS]; exact hx); omega)
  rw [← hQ] at hbig
  have HST := Lib.hid (fun (W : World) => steps_any hok.1 hp1 hp2 (b := 0) (by decide) LO HI R hLO hHI hR (0 : Int) rfl W)
  have HPU := Lib.hid (fun (W : World) => put_ok hok hp1 hp2 (b := 0) (by decide) LO HI S Q hLO hHI hS hQ hbig W)
  rw [← hR] at hS hQ f2 f3 hcnt
  have hSl : S.length ≤ 140000 := by omega
  have HS2 := Lib.hid (fun (W : World) (A9 : Option Addr) (n9 c9 : Nat) (hW : Rd W A9 n9 c9 (ncells R)) => sent_any hW f3 (by omega) (q := q) (by omega) S Q hS hQ (q : Nat) rfl)
  obtain ⟨ks, hks⟩ : ∃ ks, ks = S.length := ⟨_, rfl⟩
  have HKS := Lib.hid hks
  rw [← hks] at hSl
  rw [← hks] at HPU
  have kbig : decide ((131056 : Int) < (Q : Int)) = false := by simp; omega
  have HP1 := Lib.hid hp1
  have HP2 := Lib.hid hp2
  have k0 : (((0 : Nat) : Int) != 0) = false := rfl
  clear hok hlast hb9 hkf hc01 hsl hLO hHI hS hQ hR f1 f3 f4 hcnt hp1 hp2 hks
  have P_0 := (Three.new w 50 (.int .i64 lo) (.int .i64 hi) (.int .i64 (q : Nat)))
  have Z0 := (Below.refl w.heap.size w).alloc (by simp) (.cells #[.int .i64 lo, .int .i64 hi, .int .i64 (q : Nat)] 50)
  have P_0_c0 := P_0.c0
  have P_0_c1 := P_0.c1
  have P_0_c2 := P_0.c2
  go_enter Try.func8, Try.ntmps8
  go_wp2_with fail
  refine (HPU.out _).mono ?_
  rintro e w1 ⟨A1, n1, c1, rfl, R1, y1⟩
  have P_1 := (((P_0.on y1).alloc (.cells #[.int .i64 LO, .int .i64 HI, .int .i64 (Q : Nat)] 50)).alloc (.cells #[.slice A1 n1 c1, .int .i64 (ks : Nat)] 25)).alloc (.cells #[.int .i64 0, .int .i64 0] 27)
  have R_1 := (((R1).alloc (.cells #[.int .i64 LO, .int .i64 HI, .int .i64 (Q : Nat)] 50)).alloc (.cells #[.slice A1 n1 c1, .int .i64 (ks : Nat)] 25)).alloc (.cells #[.int .i64 0, .int .i64 0] 27)
  have X_1 := (((Three.new w1 50 (.int .i64 LO) (.int .i64 HI) (.int .i64 (Q : Nat)))).alloc (.cells #[.slice A1 n1 c1, .int .i64 (ks : Nat)] 25)).alloc (.cells #[.int .i64 0, .int .i64 0] 27)
  have B_1 := ((Two.new1 w1 (.cells #[.int .i64 LO, .int .i64 HI, .int .i64 (Q : Nat)] 50) 25 (.slice A1 n1 c1) (.int .i64 (ks : Nat)))).alloc (.cells #[.int .i64 0, .int .i64 0] 27)
  have F_1 := (Two.new2 w1 (.cells #[.int .i64 LO, .int .i64 HI, .int .i64 (Q : Nat)] 50) (.cells #[.slice A1 n1 c1, .int .i64 (ks : Nat)] 25) 27 (.int .i64 0) (.int .i64 0))
  clear P_0 P_0_c0 P_0_c1 P_0_c2
  have z1 := Z0.trans (y1.mono Z0.size)
  have Z1 := (((z1).alloc (by have := z1.size; omega) (.cells #[.int .i64 LO, .int .i64 HI, .int .i64 (Q : Nat)] 50)).alloc (by have := z1.size; simp; omega) (.cells #[.slice A1 n1 c1, .int .i64 (ks : Nat)] 25)).alloc (by have := z1.size; simp; omega) (.cells #[.int .i64 0, .int .i64 0] 27)
  have P_1_c0 := P_1.c0
  have P_1_c1 := P_1.c1
  have P_1_c2 := P_1.c2
  have X_1_c0 := X_1.c0
  have X_1_c1 := X_1.c1
  have X_1_c2 := X_1.c2
  have B_1_c0 := B_1.c0
  have B_1_c1 := B_1.c1
  have F_1_c0 := F_1.c0
  have F_1_c1 := F_1.c1
  go_wp2_with fail
  refine (HFI.out _).mono ?_
  rintro e w2 ⟨A2, n2, c2, rfl, R2, y2⟩
  have P_2 := ((P_1.on y2).alloc (.cells #[.slice A2 n2 c2, .int .i64 (kf : Nat)] 25)).alloc (.cells #[.int .i64 0, .int .i64 0] 27)
  have R_2 := ((R_1.on y2).alloc (.cells #[.slice A2 n2 c2, .int .i64 (kf : Nat)] 25)).alloc (.cells #[.int .i64 0, .int .i64 0] 27)
  have X_2 := ((X_1.on y2).alloc (.cells #[.slice A2 n2 c2, .int .i64 (kf : Nat)] 25)).alloc (.cells #[.int .i64 0, .int .i64 0] 27)
  have B_2 := ((B_1.on y2).alloc (.cells #[.slice A2 n2 c2, .int .i64 (kf : Nat)] 25)).alloc (.cells #[.int .i64 0, .int .i64 0] 27)
  have F_2 := ((F_1.on y2).alloc (.cells #[.slice A2 n2 c2, .int .i64 (kf : Nat)] 25)).alloc (.cells #[.int .i64 0, .int .i64 0] 27)
  have E1_2 := ((R2).alloc (.cells #[.slice A2 n2 c2, .int .i64 (kf : Nat)] 25)).alloc (.cells #[.int .i64 0, .int .i64 0] 27)
  have E_2 := ((Two.new w2 25 (.slice A2 n2 c2) (.int .i64 (kf : Nat)))).alloc (.cells #[.int .i64 0, .int .i64 0] 27)
  have G_2 := (Two.new1 w2 (.cells #[.slice A2 n2 c2, .int .i64 (kf : Nat)] 25) 27 (.int .i64 0) (.int .i64 0))
  clear P_1 P_1_c0 P_1_c1 P_1_c2 R_1 X_1 X_1_c0 X_1_c1 X_1_c2 B_1 B_1_c0 B_1_c1 F_1 F_1_c0 F_1_c1
  have z2 := Z1.trans (y2.mono Z1.size)
  have Z2 := ((z2).alloc (by have := z2.size; omega) (.cells #[.slice A2 n2 c2, .int .i64 (kf : Nat)] 25)).alloc (by have := z2.size; simp; omega) (.cells #[.int .i64 0, .int .i64 0] 27)
  have P_2_c0 := P_2.c0
  have P_2_c1 := P_2.c1
  have P_2_c2 := P_2.c2
  have X_2_c0 := X_2.c0
  have X_2_c1 := X_2.c1
  have X_2_c2 := X_2.c2
  have B_2_c0 := B_2.c0
  have B_2_c1 := B_2.c1
  have F_2_c0 := F_2.c0
  have F_2_c1 := F_2.c1
  have E_2_c0 := E_2.c0
  have E_2_c1 := E_2.c1
  have G_2_c0 := G_2.c0
  have G_2_c1 := G_2.c1
  go_wp2_with fail
  refine (codes_true _).mono ?_
  rintro e w3 ⟨rfl, y3⟩
  have P_3 := P_2.on y3
  have R_3 := R_2.on y3
  have X_3 := X_2.on y3
  have B_3 := B_2.on y3
  have F_3 := F_2.on y3
  have E1_3 := E1_2.on y3
  have E_3 := E_2.on y3
  have G_3 := G_2.on y3
  clear P_2 P_2_c0 P_2_c1 P_2_c2 R_2 X_2 X_2_c0 X_2_c1 X_2_c2 B_2 B_2_c0 B_2_c1 F_2 F_2_c0 F_2_c1 E1_2 E_2 E_2_c0 E_2_c1 G_2 G_2_c0 G_2_c1
  have z3 := Z2.trans (y3.mono Z2.size)
  have Z3 := z3
  have P_3_c0 := P_3.c0
  have P_3_c1 := P_3.c1
  have P_3_c2 := P_3.c2
  have X_3_c0 := X_3.c0
  have X_3_c1 := X_3.c1
  have X_3_c2 := X_3.c2
  have B_3_c0 := B_3.c0
  have B_3_c1 := B_3.c1
  have F_3_c0 := F_3.c0
  have F_3_c1 := F_3.c1
  have E_3_c0 := E_3.c0
  have E_3_c1 := E_3.c1
  have G_3_c0 := G_3.c0
  have G_3_c1 := G_3.c1
  go_wp2_with fail
  refine (start_any _).mono ?_
  rintro e w4 ⟨rfl, y4⟩
  have P_4 := P_3.on y4
  have R_4 := R_3.on y4
  have X_4 := X_3.on y4
  have B_4 := B_3.on y4
  have F_4 := F_3.on y4
  have E1_4 := E1_3.on y4
  have E_4 := E_3.on y4
  have G_4 := G_3.on y4
  clear P_3 P_3_c0 P_3_c1 P_3_c2 R_3 X_3 X_3_c0 X_3_c1 X_3_c2 B_3 B_3_c0 B_3_c1 F_3 F_3_c0 F_3_c1 E1_3 E_3 E_3_c0 E_3_c1 G_3 G_3_c0 G_3_c1
  have z4 := Z3.trans (y4.mono Z3.size)
  have Z4 := z4
  have P_4_c0 := P_4.c0
  have P_4_c1 := P_4.c1
  have P_4_c2 := P_4.c2
  have X_4_c0 := X_4.c0
  have X_4_c1 := X_4.c1
  have X_4_c2 := X_4.c2
  have B_4_c0 := B_4.c0
  have B_4_c1 := B_4.c1
  have F_4_c0 := F_4.c0
  have F_4_c1 := F_4.c1
  have E_4_c0 := E_4.c0
  have E_4_c1 := E_4.c1
  have G_4_c0 := G_4.c0
  have G_4_c1 := G_4.c1
  go_wp2_with fail
  refine (HCK.out _).mono ?_
  rintro e w5 ⟨rfl, y5⟩
  have P_5 := P_4.on y5
  have R_5 := R_4.on y5
  have X_5 := X_4.on y5
  have B_5 := B_4.on y5
  have F_5 := F_4.on y5
  have E1_5 := E1_4.on y5
  have E_5 := E_4.on y5
  have G_5 := G_4.on y5
  clear P_4 P_4_c0 P_4_c1 P_4_c2 R_4 X_4 X_4_c0 X_4_c1 X_4_c2 B_4 B_4_c0 B_4_c1 F_4 F_4_c0 F_4_c1 E1_4 E_4 E_4_c0 E_4_c1 G_4 G_4_c0 G_4_c1
  have z5 := Z4.trans (y5.mono Z4.size)
  have Z5 := z5
  have P_5_c0 := P_5.c0
  have P_5_c1 := P_5.c1
  have P_5_c2 := P_5.c2
  have X_5_c0 := X_5.c0
  have X_5_c1 := X_5.c1
  have X_5_c2 := X_5.c2
  have B_5_c0 := B_5.c0
  have B_5_c1 := B_5.c1
  have F_5_c0 := F_5.c0
  have F_5_c1 := F_5.c1
  have E_5_c0 := E_5.c0
  have E_5_c1 := E_5.c1
  have G_5_c0 := G_5.c0
  have G_5_c1 := G_5.c1
  have P_6 := P_5.alloc (.cells #[.int .i64 0] 3)
  have R_6 := R_5.alloc (.cells #[.int .i64 0] 3)
  have X_6 := X_5.alloc (.cells #[.int .i64 0] 3)
  have B_6 := B_5.alloc (.cells #[.int .i64 0] 3)
  have F_6 := F_5.alloc (.cells #[.int .i64 0] 3)
  have E1_6 := E1_5.alloc (.cells #[.int .i64 0] 3)
  have E_6 := E_5.alloc (.cells #[.int .i64 0] 3)
  have G_6 := G_5.alloc (.cells #[.int .i64 0] 3)
  have K_6 := (show Rd (w5.alloc (.cells #[.int .i64 0] 3)) (some ⟨w5.heap.size, 0, none⟩) 1 1 (ncells [0]) from Rd.lit1 w5 rfl 0 3)
  have Z6 := Z5.alloc Z5.size (.cells #[.int .i64 0] 3)
  have P_6_c0 := P_6.c0
  have P_6_c1 := P_6.c1
  have P_6_c2 := P_6.c2
  have X_6_c0 := X_6.c0
  have X_6_c1 := X_6.c1
  have X_6_c2 := X_6.c2
  have B_6_c0 := B_6.c0
  have B_6_c1 := B_6.c1
  have F_6_c0 := F_6.c0
  have F_6_c1 := F_6.c1
  have E_6_c0 := E_6.c0
  have E_6_c1 := E_6.c1
  have G_6_c0 := G_6.c0
  have G_6_c1 := G_6.c1
  go_wp2_with fail
  refine (HSE.out _ _ _ _ K_6).mono ?_
  rintro e w7 ⟨A3, n3, c3, rfl, hn3, o3, y7⟩
  have P_7 := P_6.on y7
  have R_7 := R_6.on y7
  have X_7 := X_6.on y7
  have B_7 := B_6.on y7
  have F_7 := F_6.on y7
  have E1_7 := E1_6.on y7
  have E_7 := E_6.on y7
  have G_7 := G_6.on y7
  have O_7 := o3
  clear P_5 P_5_c0 P_5_c1 P_5_c2 R_5 X_5 X_5_c0 X_5_c1 X_5_c2 B_5 B_5_c0 B_5_c1 F_5 F_5_c0 F_5_c1 E1_5 E_5 E_5_c0 E_5_c1 G_5 G_5_c0 G_5_c1 P_6 P_6_c0 P_6_c1 P_6_c2 R_6 X_6 X_6_c0 X_6_c1 X_6_c2 B_6 B_6_c0 B_6_c1 F_6 F_6_c0 F_6_c1 E1_6 E_6 E_6_c0 E_6_c1 G_6 G_6_c0 G_6_c1 K_6
  have z7 := Z6.trans (y7.mono Z6.size)
  have Z7 := z7
  have P_7_c0 := P_7.c0
  have P_7_c1 := P_7.c1
  have P_7_c2 := P_7.c2
  have X_7_c0 := X_7.c0
  have X_7_c1 := X_7.c1
  have X_7_c2 := X_7.c2
  have B_7_c0 := B_7.c0
  have B_7_c1 := B_7.c1
  have F_7_c0 := F_7.c0
  have F_7_c1 := F_7.c1
  have E_7_c0 := E_7.c0
  have E_7_c1 := E_7.c1
  have G_7_c0 := G_7.c0
  have G_7_c1 := G_7.c1
  go_wp2_with fail
  go_region_held3 (fun w' => w'.cell? ⟨w2.heap.size + 1, 0, none⟩ = some (.int .i64 0) ∧ w'.cell? ⟨w2.heap.size + 1, 1, none⟩ = some (.int .i64 0) ∧ w'.cell? ⟨w2.heap.size, 0, none⟩ = some (.slice A2 n2 c2) ∧ w'.cell? ⟨w2.heap.size, 1, none⟩ = some (.int .i64 (kf : Nat))) (go_keep) (first | (go_at_call 15; refine (arpacked hn3 (Rd.own (own_drew O_7)) HC01.out (by rw [← HKF.out]; omega)).mono ?_; rintro e w8 ⟨A4, n4, c4, rfl, RP, y8⟩; have Y8 : Below w7.heap.size w7.drew w8 := y8; have G_8_c0 := ((Two.on (w := w7.drew) G_7 Y8)).c0; have G_8_c1 := ((Two.on (w := w7.drew) G_7 Y8)).c1; have E_8_c0 := ((Two.on (w := w7.drew) E_7 Y8)).c0; have E_8_c1 := ((Two.on (w := w7.drew) E_7 Y8)).c1) | (go_at_call 14; refine (api_same (Rd.on (w := w7.drew) E1_7 Y8) RP HC01.out HC01.out true (by simp) _ _ (by rw [← HKF.out]) (by rw [hn3])).mono ?_; rintro e w9 ⟨rfl, y9⟩; have Y9 := Y8.trans (y9.mono Y8.size); have G_9_c0 := ((Two.on (w := w7.drew) G_7 Y9)).c0; have G_9_c1 := ((Two.on (w := w7.drew) G_7 Y9)).c1; have E_9_c0 := ((Two.on (w := w7.drew) E_7 Y9)).c0; have E_9_c1 := ((Two.on (w := w7.drew) E_7 Y9)).c1))
  have P_9 := (Three.on (w := w7.drew) P_7 Y9)
  have R_9 := (Rd.on (w := w7.drew) R_7 Y9)
  have X_9 := (Three.on (w := w7.drew) X_7 Y9)
  have B_9 := (Two.on (w := w7.drew) B_7 Y9)
  have F_9 := (Two.on (w := w7.drew) F_7 Y9)
  have E1_9 := (Rd.on (w := w7.drew) E1_7 Y9)
  have E_9 := (Two.on (w := w7.drew) E_7 Y9)
  have G_9 := (Two.on (w := w7.drew) G_7 Y9)
  have O_9 := (own_on (w := w7.drew) O_7 Y9)
  have Z9 := (belowD Z7).trans (Y9.mono (belowD Z7).size)
  clear G_8_c0 G_8_c1 E_8_c0 E_8_c1 G_9_c0 G_9_c1 E_9_c0 E_9_c1
  clear P_7 P_7_c0 P_7_c1 P_7_c2 R_7 X_7 X_7_c0 X_7_c1 X_7_c2 B_7 B_7_c0 B_7_c1 F_7 F_7_c0 F_7_c1 E1_7 E_7 E_7_c0 E_7_c1 G_7 G_7_c0 G_7_c1 O_7
  have P_9_c0 := P_9.c0
  have P_9_c1 := P_9.c1
  have P_9_c2 := P_9.c2
  have X_9_c0 := X_9.c0
  have X_9_c1 := X_9.c1
  have X_9_c2 := X_9.c2
  have B_9_c0 := B_9.c0
  have B_9_c1 := B_9.c1
  have F_9_c0 := F_9.c0
  have F_9_c1 := F_9.c1
  have E_9_c0 := E_9.c0
  have E_9_c1 := E_9.c1
  have G_9_c0 := G_9.c0
  have G_9_c1 := G_9.c1
  clear G_9 G_9_c0 G_9_c1 E_9 E_9_c0 E_9_c1 E1_9 O_9
  have z9 := Z9
  have P_b := P_9
  have P_9q := P_9.alloc (.cells #[.int .i64 0, .int .i64 0] 27)
  have R_b := R_9
  have R_9q := R_9.alloc (.cells #[.int .i64 0, .int .i64 0] 27)
  have X_b := X_9
  have X_9q := X_9.alloc (.cells #[.int .i64 0, .int .i64 0] 27)
  have B_b := B_9
  have B_9q := B_9.alloc (.cells #[.int .i64 0, .int .i64 0] 27)
  have F_b := F_9
  have F_9q := F_9.alloc (.cells #[.int .i64 0, .int .i64 0] 27)
  have M_9q := Two.new w9 27 (.int .i64 0) (.int .i64 0)
  have CM_9q := (Below.refl w9.heap.size w9).alloc (Nat.le_refl _) (.cells #[.int .i64 0, .int .i64 0] 27)
  have Z9q := Z9.alloc Z9.size (.cells #[.int .i64 0, .int .i64 0] 27)
  clear P_9 P_9_c0 P_9_c1 P_9_c2 R_9 X_9 X_9_c0 X_9_c1 X_9_c2 B_9 B_9_c0 B_9_c1 F_9 F_9_c0 F_9_c1
  have P_9q_c0 := P_9q.c0
  have P_9q_c1 := P_9q.c1
  have P_9q_c2 := P_9q.c2
  have X_9q_c0 := X_9q.c0
  have X_9q_c1 := X_9q.c1
  have X_9q_c2 := X_9q.c2
  have B_9q_c0 := B_9q.c0
  have B_9q_c1 := B_9q.c1
  have F_9q_c0 := F_9q.c0
  have F_9q_c1 := F_9q.c1
  have M_9q_c0 := M_9q.c0
  have M_9q_c1 := M_9q.c1
  have M_9q_f0 := M_9q.f0
  have M_9q_f1 := M_9q.f1
  go_wp2_with fail
  refine (in_yes _ _ _ _ HP1.out HP2.out).mono ?_
  rintro e w9_1 ⟨rfl, rfl⟩
  go_wp2_with fail
  refine (HST.out _).mono ?_
  rintro e w10 ⟨A5, n5, c5, rfl, hn5, o5, y10⟩
  have P_10 := P_9q.on y10
  have R_10 := R_9q.on y10
  have X_10 := X_9q.on y10
  have B_10 := B_9q.on y10
  have F_10 := F_9q.on y10
  have M_10 := M_9q.on y10
  have T_10 := o5
  clear P_9q P_9q_c0 P_9q_c1 P_9q_c2 R_9q X_9q X_9q_c0 X_9q_c1 X_9q_c2 B_9q B_9q_c0 B_9q_c1 F_9q F_9q_c0 F_9q_c1 M_9q M_9q_c0 M_9q_c1 M_9q_f0 M_9q_f1
  have z10 := Z9q.trans (y10.mono Z9q.size)
  have Z10 := z10
  have cM10 := CM_9q.trans (y10.mono CM_9q.size)
  have CM_10 := cM10
  have P_10_c0 := P_10.c0
  have P_10_c1 := P_10.c1
  have P_10_c2 := P_10.c2
  have X_10_c0 := X_10.c0
  have X_10_c1 := X_10.c1
  have X_10_c2 := X_10.c2
  have B_10_c0 := B_10.c0
  have B_10_c1 := B_10.c1
  have F_10_c0 := F_10.c0
  have F_10_c1 := F_10.c1
  have M_10_c0 := M_10.c0
  have M_10_c1 := M_10.c1
  have M_10_f0 := M_10.f0
  have M_10_f1 := M_10.f1
  go_wp2_with fail
  refine (HS2.out _ _ _ _ (Rd.own T_10)).mono ?_
  rintro e w11 ⟨A6, n6, c6, rfl, hn6, o6, y11⟩
  have P_11 := P_10.on y11
  have R_11 := R_10.on y11
  have X_11 := X_10.on y11
  have B_11 := B_10.on y11
  have F_11 := F_10.on y11
  have M_11 := M_10.on y11
  have U_11 := o6
  clear P_10 P_10_c0 P_10_c1 P_10_c2 R_10 X_10 X_10_c0 X_10_c1 X_10_c2 B_10 B_10_c0 B_10_c1 F_10 F_10_c0 F_10_c1 M_10 M_10_c0 M_10_c1 M_10_f0 M_10_f1 T_10
  have z11 := Z10.trans (y11.mono Z10.size)
  have Z11 := z11
  have cM11 := CM_10.trans (y11.mono CM_10.size)
  have CM_11 := cM11
  have P_11_c0 := P_11.c0
  have P_11_c1 := P_11.c1
  have P_11_c2 := P_11.c2
  have X_11_c0 := X_11.c0
  have X_11_c1 := X_11.c1
  have X_11_c2 := X_11.c2
  have B_11_c0 := B_11.c0
  have B_11_c1 := B_11.c1
  have F_11_c0 := F_11.c0
  have F_11_c1 := F_11.c1
  have M_11_c0 := M_11.c0
  have M_11_c1 := M_11.c1
  have M_11_f0 := M_11.f0
  have M_11_f1 := M_11.f1
  go_wp2_with fail
  go_region_held3 (fun w' => w'.cell? ⟨w1.heap.size + 2, 0, none⟩ = some (.int .i64 0) ∧ w'.cell? ⟨w1.heap.size + 2, 1, none⟩ = some (.int .i64 0) ∧ w'.cell? ⟨w1.heap.size, 0, none⟩ = some (.int .i64 LO) ∧ w'.cell? ⟨w1.heap.size, 1, none⟩ = some (.int .i64 HI) ∧ w'.cell? ⟨w1.heap.size, 2, none⟩ = some (.int .i64 (Q : Nat)) ∧ w'.cell? ⟨w1.heap.size + 1, 0, none⟩ = some (.slice A1 n1 c1) ∧ w'.cell? ⟨w1.heap.size + 1, 1, none⟩ = some (.int .i64 (ks : Nat))) (go_keep) (first | (go_at_call 15; refine (arpacked (hn6) (Rd.own (own_drew U_11)) HS01.out (by rw [← HKS.out]; omega)).mono ?_; rintro e w12 ⟨A7, n7, c7, rfl, RQ, y12⟩; have Y12 : Below w11.heap.size w11.drew w12 := y12; have F_12_c0 := ((Two.on (w := w11.drew) F_11 Y12)).c0; have F_12_c1 := ((Two.on (w := w11.drew) F_11 Y12)).c1; have X_12_c0 := ((Three.on (w := w11.drew) X_11 Y12)).c0; have X_12_c1 := ((Three.on (w := w11.drew) X_11 Y12)).c1; have X_12_c2 := ((Three.on (w := w11.drew) X_11 Y12)).c2; have B_12_c0 := ((Two.on (w := w11.drew) B_11 Y12)).c0; have B_12_c1 := ((Two.on (w := w11.drew) B_11 Y12)).c1) | (go_at_call 14; refine (api_same (Rd.on (w := w11.drew) R_11 Y12) RQ HS01.out HS01.out true (by simp) _ _ (by rw [← HKS.out]) (by rw [hn6])).mono ?_; rintro e w13 ⟨rfl, y13⟩; have Y13 := Y12.trans (y13.mono Y12.size); have F_13_c0 := ((Two.on (w := w11.drew) F_11 Y13)).c0; have F_13_c1 := ((Two.on (w := w11.drew) F_11 Y13)).c1; have X_13_c0 := ((Three.on (w := w11.drew) X_11 Y13)).c0; have X_13_c1 := ((Three.on (w := w11.drew) X_11 Y13)).c1; have X_13_c2 := ((Three.on (w := w11.drew) X_11 Y13)).c2; have B_13_c0 := ((Two.on (w := w11.drew) B_11 Y13)).c0; have B_13_c1 := ((Two.on (w := w11.drew) B_11 Y13)).c1))
  have P_13 := (Three.on (w := w11.drew) P_11 Y13)
  have R_13 := (Rd.on (w := w11.drew) R_11 Y13)
  have X_13 := (Three.on (w := w11.drew) X_11 Y13)
  have B_13 := (Two.on (w := w11.drew) B_11 Y13)
  have F_13 := (Two.on (w := w11.drew) F_11 Y13)
  have M_13 := (Two.on (w := w11.drew) M_11 Y13)
  have U_13 := (own_on (w := w11.drew) U_11 Y13)
  have Z13 := (belowD Z11).trans (Y13.mono (belowD Z11).size)
  have CM_13 := (belowD CM_11).trans (Y13.mono (belowD CM_11).size)
  clear F_12_c0 F_12_c1 X_12_c0 X_12_c1 X_12_c2 B_12_c0 B_12_c1 F_13_c0 F_13_c1 X_13_c0 X_13_c1 X_13_c2 B_13_c0 B_13_c1
  clear P_11 P_11_c0 P_11_c1 P_11_c2 R_11 X_11 X_11_c0 X_11_c1 X_11_c2 B_11 B_11_c0 B_11_c1 F_11 F_11_c0 F_11_c1 M_11 M_11_c0 M_11_c1 M_11_f0 M_11_f1 U_11
  have P_13_c0 := P_13.c0
  have P_13_c1 := P_13.c1
  have P_13_c2 := P_13.c2
  have X_13_c0 := X_13.c0
  have X_13_c1 := X_13.c1
  have X_13_c2 := X_13.c2
  have B_13_c0 := B_13.c0
  have B_13_c1 := B_13.c1
  have F_13_c0 := F_13.c0
  have F_13_c1 := F_13.c1
  have M_13_c0 := M_13.c0
  have M_13_c1 := M_13.c1
  have M_13_f0 := M_13.f0
  have M_13_f1 := M_13.f1
  go_wp2
  go_ret
  exact ⟨rfl, Z13⟩
set_option maxRecDepth 100000 in
set_option maxHeartbeats 1600000 in
theorem ap_prob1_l {lo hi p : Int} {q : Nat} (hok : COk lo hi (q : Nat)) (hp : ¬ (1 ≤ p ∧ p ≤ 4095)) (hlast : lo < 16384) (w : World)  :
    Calls Try.prog 8 #[.agg #[.int .i64 lo, .int .i64 hi, .int .i64 (q : Nat)], .int .i64 (1 : Int), .int .i64 p] w fun e w' => e = .returned (.bool true) ∧ Below w.heap.size w w' := by
  have hqq := hok.2.2
  have hb9 : 0 = if lo < 16384 then 0 else 1 := by rw [if_pos hlast]
  have HFI := Lib.hid (fun (W : World) => finish_ok hok 0 hb9 W)
  have HCK := Lib.hid (fun (W : World) => coderok_any lo hi (q : Nat) true ⟨fun _ => hok, fun _ => rfl⟩ W)
  obtain ⟨kf, hkf⟩ : ∃ kf, kf = (crt 0 (q + 1)).length := ⟨_, rfl⟩
  have hkf2 : kf ≤ q + 2 := by rw [hkf]; simp [crt]
  have hc01 : Is01 (crt 0 (q + 1)) := Is01.of_mem fun x hx => by have := crt_le (b := 0) (q := q + 1) (by decide) x hx; omega
  have HC01 := Lib.hid hc01
  have hsl : (sentf [0] (q + 1)) = (crt 0 (q + 1), 0) := by rw [sentf_other (by decide)]; simp [sentf]
  have HSE := Lib.hid (fun (W : World) (A9 : Option Addr) (n9 c9 : Nat) (hW : Rd W A9 n9 c9 (ncells [0])) => sent_any hW (by decide) (by decide) (q := q + 1) (by omega) (crt 0 (q + 1)) 0 (by rw [hsl]) (by rw [hsl]) ((q : Int) + 1) (by omega))
  rw [← hkf] at HFI
  have HKF := Lib.hid hkf
  have hlk : decide (lo < 16384) = true := by simpa using hlast
  have k0 : ((1 : Int) != 0) = true := rfl
  have k1 : ((1 : Int) != 1) = false := rfl
  have HPU := Lib.hid (fun (W : World) => put_prob_any hok (b := 1) (.inr rfl) hp W)
  have HPR := Lib.hid (show p < 1 ∨ 4095 < p by omega)
  clear hok hlast hb9 hkf hc01 hsl hp
  have P_0 := (Three.new w 50 (.int .i64 lo) (.int .i64 hi) (.int .i64 (q : Nat)))
  have Z0 := (Below.refl w.heap.size w).alloc (by simp) (.cells #[.int .i64 lo, .int .i64 hi, .int .i64 (q : Nat)] 50)
  have P_0_c0 := P_0.c0
  have P_0_c1 := P_0.c1
  have P_0_c2 := P_0.c2
  go_enter Try.func8, Try.ntmps8
  go_wp2_with fail
  refine (HPU.out _).mono ?_
  rintro e w1 ⟨rfl, y1⟩
  have P_1 := (((P_0.on y1).alloc (.cells #[.int .i64 0, .int .i64 0, .int .i64 0] 50)).alloc (.cells #[.slice none 0 0, .int .i64 0] 25)).alloc (.cells #[.int .i64 4, .int .i64 (-3)] 27)
  have X_1 := (((Three.new w1 50 (.int .i64 0) (.int .i64 0) (.int .i64 0))).alloc (.cells #[.slice none 0 0, .int .i64 0] 25)).alloc (.cells #[.int .i64 4, .int .i64 (-3)] 27)
  have B_1 := ((Two.new1 w1 (.cells #[.int .i64 0, .int .i64 0, .int .i64 0] 50) 25 (.slice none 0 0) (.int .i64 0))).alloc (.cells #[.int .i64 4, .int .i64 (-3)] 27)
  have F_1 := (Two.new2 w1 (.cells #[.int .i64 0, .int .i64 0, .int .i64 0] 50) (.cells #[.slice none 0 0, .int .i64 0] 25) 27 (.int .i64 4) (.int .i64 (-3)))
  clear P_0 P_0_c0 P_0_c1 P_0_c2
  have z1 := Z0.trans (y1.mono Z0.size)
  have Z1 := (((z1).alloc (by have := z1.size; omega) (.cells #[.int .i64 0, .int .i64 0, .int .i64 0] 50)).alloc (by have := z1.size; simp; omega) (.cells #[.slice none 0 0, .int .i64 0] 25)).alloc (by have := z1.size; simp; omega) (.cells #[.int .i64 4, .int .i64 (-3)] 27)
  have P_1_c0 := P_1.c0
  have P_1_c1 := P_1.c1
  have P_1_c2 := P_1.c2
  have X_1_c0 := X_1.c0
  have X_1_c1 := X_1.c1
  have X_1_c2 := X_1.c2
  have B_1_c0 := B_1.c0
  have B_1_c1 := B_1.c1
  have F_1_c0 := F_1.c0
  have F_1_c1 := F_1.c1
  go_wp2_with fail
  refine (HFI.out _).mono ?_
  rintro e w2 ⟨A2, n2, c2, rfl, R2, y2⟩
  have P_2 := ((P_1.on y2).alloc (.cells #[.slice A2 n2 c2, .int .i64 (kf : Nat)] 25)).alloc (.cells #[.int .i64 0, .int .i64 0] 27)
  have X_2 := ((X_1.on y2).alloc (.cells #[.slice A2 n2 c2, .int .i64 (kf : Nat)] 25)).alloc (.cells #[.int .i64 0, .int .i64 0] 27)
  have B_2 := ((B_1.on y2).alloc (.cells #[.slice A2 n2 c2, .int .i64 (kf : Nat)] 25)).alloc (.cells #[.int .i64 0, .int .i64 0] 27)
  have F_2 := ((F_1.on y2).alloc (.cells #[.slice A2 n2 c2, .int .i64 (kf : Nat)] 25)).alloc (.cells #[.int .i64 0, .int .i64 0] 27)
  have E1_2 := ((R2).alloc (.cells #[.slice A2 n2 c2, .int .i64 (kf : Nat)] 25)).alloc (.cells #[.int .i64 0, .int .i64 0] 27)
  have E_2 := ((Two.new w2 25 (.slice A2 n2 c2) (.int .i64 (kf : Nat)))).alloc (.cells #[.int .i64 0, .int .i64 0] 27)
  have G_2 := (Two.new1 w2 (.cells #[.slice A2 n2 c2, .int .i64 (kf : Nat)] 25) 27 (.int .i64 0) (.int .i64 0))
  clear P_1 P_1_c0 P_1_c1 P_1_c2 X_1 X_1_c0 X_1_c1 X_1_c2 B_1 B_1_c0 B_1_c1 F_1 F_1_c0 F_1_c1
  have z2 := Z1.trans (y2.mono Z1.size)
  have Z2 := ((z2).alloc (by have := z2.size; omega) (.cells #[.slice A2 n2 c2, .int .i64 (kf : Nat)] 25)).alloc (by have := z2.size; simp; omega) (.cells #[.int .i64 0, .int .i64 0] 27)
  have P_2_c0 := P_2.c0
  have P_2_c1 := P_2.c1
  have P_2_c2 := P_2.c2
  have X_2_c0 := X_2.c0
  have X_2_c1 := X_2.c1
  have X_2_c2 := X_2.c2
  have B_2_c0 := B_2.c0
  have B_2_c1 := B_2.c1
  have F_2_c0 := F_2.c0
  have F_2_c1 := F_2.c1
  have E_2_c0 := E_2.c0
  have E_2_c1 := E_2.c1
  have G_2_c0 := G_2.c0
  have G_2_c1 := G_2.c1
  go_wp2_with fail
  refine (codes_true _).mono ?_
  rintro e w3 ⟨rfl, y3⟩
  have P_3 := P_2.on y3
  have X_3 := X_2.on y3
  have B_3 := B_2.on y3
  have F_3 := F_2.on y3
  have E1_3 := E1_2.on y3
  have E_3 := E_2.on y3
  have G_3 := G_2.on y3
  clear P_2 P_2_c0 P_2_c1 P_2_c2 X_2 X_2_c0 X_2_c1 X_2_c2 B_2 B_2_c0 B_2_c1 F_2 F_2_c0 F_2_c1 E1_2 E_2 E_2_c0 E_2_c1 G_2 G_2_c0 G_2_c1
  have z3 := Z2.trans (y3.mono Z2.size)
  have Z3 := z3
  have P_3_c0 := P_3.c0
  have P_3_c1 := P_3.c1
  have P_3_c2 := P_3.c2
  have X_3_c0 := X_3.c0
  have X_3_c1 := X_3.c1
  have X_3_c2 := X_3.c2
  have B_3_c0 := B_3.c0
  have B_3_c1 := B_3.c1
  have F_3_c0 := F_3.c0
  have F_3_c1 := F_3.c1
  have E_3_c0 := E_3.c0
  have E_3_c1 := E_3.c1
  have G_3_c0 := G_3.c0
  have G_3_c1 := G_3.c1
  go_wp2_with fail
  refine (start_any _).mono ?_
  rintro e w4 ⟨rfl, y4⟩
  have P_4 := P_3.on y4
  have X_4 := X_3.on y4
  have B_4 := B_3.on y4
  have F_4 := F_3.on y4
  have E1_4 := E1_3.on y4
  have E_4 := E_3.on y4
  have G_4 := G_3.on y4
  clear P_3 P_3_c0 P_3_c1 P_3_c2 X_3 X_3_c0 X_3_c1 X_3_c2 B_3 B_3_c0 B_3_c1 F_3 F_3_c0 F_3_c1 E1_3 E_3 E_3_c0 E_3_c1 G_3 G_3_c0 G_3_c1
  have z4 := Z3.trans (y4.mono Z3.size)
  have Z4 := z4
  have P_4_c0 := P_4.c0
  have P_4_c1 := P_4.c1
  have P_4_c2 := P_4.c2
  have X_4_c0 := X_4.c0
  have X_4_c1 := X_4.c1
  have X_4_c2 := X_4.c2
  have B_4_c0 := B_4.c0
  have B_4_c1 := B_4.c1
  have F_4_c0 := F_4.c0
  have F_4_c1 := F_4.c1
  have E_4_c0 := E_4.c0
  have E_4_c1 := E_4.c1
  have G_4_c0 := G_4.c0
  have G_4_c1 := G_4.c1
  go_wp2_with fail
  refine (HCK.out _).mono ?_
  rintro e w5 ⟨rfl, y5⟩
  have P_5 := P_4.on y5
  have X_5 := X_4.on y5
  have B_5 := B_4.on y5
  have F_5 := F_4.on y5
  have E1_5 := E1_4.on y5
  have E_5 := E_4.on y5
  have G_5 := G_4.on y5
  clear P_4 P_4_c0 P_4_c1 P_4_c2 X_4 X_4_c0 X_4_c1 X_4_c2 B_4 B_4_c0 B_4_c1 F_4 F_4_c0 F_4_c1 E1_4 E_4 E_4_c0 E_4_c1 G_4 G_4_c0 G_4_c1
  have z5 := Z4.trans (y5.mono Z4.size)
  have Z5 := z5
  have P_5_c0 := P_5.c0
  have P_5_c1 := P_5.c1
  have P_5_c2 := P_5.c2
  have X_5_c0 := X_5.c0
  have X_5_c1 := X_5.c1
  have X_5_c2 := X_5.c2
  have B_5_c0 := B_5.c0
  have B_5_c1 := B_5.c1
  have F_5_c0 := F_5.c0
  have F_5_c1 := F_5.c1
  have E_5_c0 := E_5.c0
  have E_5_c1 := E_5.c1
  have G_5_c0 := G_5.c0
  have G_5_c1 := G_5.c1
  have P_6 := P_5.alloc (.cells #[.int .i64 0] 3)
  have X_6 := X_5.alloc (.cells #[.int .i64 0] 3)
  have B_6 := B_5.alloc (.cells #[.int .i64 0] 3)
  have F_6 := F_5.alloc (.cells #[.int .i64 0] 3)
  have E1_6 := E1_5.alloc (.cells #[.int .i64 0] 3)
  have E_6 := E_5.alloc (.cells #[.int .i64 0] 3)
  have G_6 := G_5.alloc (.cells #[.int .i64 0] 3)
  have K_6 := (show Rd (w5.alloc (.cells #[.int .i64 0] 3)) (some ⟨w5.heap.size, 0, none⟩) 1 1 (ncells [0]) from Rd.lit1 w5 rfl 0 3)
  have Z6 := Z5.alloc Z5.size (.cells #[.int .i64 0] 3)
  have P_6_c0 := P_6.c0
  have P_6_c1 := P_6.c1
  have P_6_c2 := P_6.c2
  have X_6_c0 := X_6.c0
  have X_6_c1 := X_6.c1
  have X_6_c2 := X_6.c2
  have B_6_c0 := B_6.c0
  have B_6_c1 := B_6.c1
  have F_6_c0 := F_6.c0
  have F_6_c1 := F_6.c1
  have E_6_c0 := E_6.c0
  have E_6_c1 := E_6.c1
  have G_6_c0 := G_6.c0
  have G_6_c1 := G_6.c1
  go_wp2_with fail
  refine (HSE.out _ _ _ _ K_6).mono ?_
  rintro e w7 ⟨A3, n3, c3, rfl, hn3, o3, y7⟩
  have P_7 := P_6.on y7
  have X_7 := X_6.on y7
  have B_7 := B_6.on y7
  have F_7 := F_6.on y7
  have E1_7 := E1_6.on y7
  have E_7 := E_6.on y7
  have G_7 := G_6.on y7
  have O_7 := o3
  clear P_5 P_5_c0 P_5_c1 P_5_c2 X_5 X_5_c0 X_5_c1 X_5_c2 B_5 B_5_c0 B_5_c1 F_5 F_5_c0 F_5_c1 E1_5 E_5 E_5_c0 E_5_c1 G_5 G_5_c0 G_5_c1 P_6 P_6_c0 P_6_c1 P_6_c2 X_6 X_6_c0 X_6_c1 X_6_c2 B_6 B_6_c0 B_6_c1 F_6 F_6_c0 F_6_c1 E1_6 E_6 E_6_c0 E_6_c1 G_6 G_6_c0 G_6_c1 K_6
  have z7 := Z6.trans (y7.mono Z6.size)
  have Z7 := z7
  have P_7_c0 := P_7.c0
  have P_7_c1 := P_7.c1
  have P_7_c2 := P_7.c2
  have X_7_c0 := X_7.c0
  have X_7_c1 := X_7.c1
  have X_7_c2 := X_7.c2
  have B_7_c0 := B_7.c0
  have B_7_c1 := B_7.c1
  have F_7_c0 := F_7.c0
  have F_7_c1 := F_7.c1
  have E_7_c0 := E_7.c0
  have E_7_c1 := E_7.c1
  have G_7_c0 := G_7.c0
  have G_7_c1 := G_7.c1
  go_wp2_with fail
  go_region_held3 (fun w' => w'.cell? ⟨w2.heap.size + 1, 0, none⟩ = some (.int .i64 0) ∧ w'.cell? ⟨w2.heap.size + 1, 1, none⟩ = some (.int .i64 0) ∧ w'.cell? ⟨w2.heap.size, 0, none⟩ = some (.slice A2 n2 c2) ∧ w'.cell? ⟨w2.heap.size, 1, none⟩ = some (.int .i64 (kf : Nat))) (go_keep) (first | (go_at_call 15; refine (arpacked hn3 (Rd.own (own_drew O_7)) HC01.out (by rw [← HKF.out]; omega)).mono ?_; rintro e w8 ⟨A4, n4, c4, rfl, RP, y8⟩; have Y8 : Below w7.heap.size w7.drew w8 := y8; have G_8_c0 := ((Two.on (w := w7.drew) G_7 Y8)).c0; have G_8_c1 := ((Two.on (w := w7.drew) G_7 Y8)).c1; have E_8_c0 := ((Two.on (w := w7.drew) E_7 Y8)).c0; have E_8_c1 := ((Two.on (w := w7.drew) E_7 Y8)).c1) | (go_at_call 14; refine (api_same (Rd.on (w := w7.drew) E1_7 Y8) RP HC01.out HC01.out true (by simp) _ _ (by rw [← HKF.out]) (by rw [hn3])).mono ?_; rintro e w9 ⟨rfl, y9⟩; have Y9 := Y8.trans (y9.mono Y8.size); have G_9_c0 := ((Two.on (w := w7.drew) G_7 Y9)).c0; have G_9_c1 := ((Two.on (w := w7.drew) G_7 Y9)).c1; have E_9_c0 := ((Two.on (w := w7.drew) E_7 Y9)).c0; have E_9_c1 := ((Two.on (w := w7.drew) E_7 Y9)).c1))
  have P_9 := (Three.on (w := w7.drew) P_7 Y9)
  have X_9 := (Three.on (w := w7.drew) X_7 Y9)
  have B_9 := (Two.on (w := w7.drew) B_7 Y9)
  have F_9 := (Two.on (w := w7.drew) F_7 Y9)
  have E1_9 := (Rd.on (w := w7.drew) E1_7 Y9)
  have E_9 := (Two.on (w := w7.drew) E_7 Y9)
  have G_9 := (Two.on (w := w7.drew) G_7 Y9)
  have O_9 := (own_on (w := w7.drew) O_7 Y9)
  have Z9 := (belowD Z7).trans (Y9.mono (belowD Z7).size)
  clear G_8_c0 G_8_c1 E_8_c0 E_8_c1 G_9_c0 G_9_c1 E_9_c0 E_9_c1
  clear P_7 P_7_c0 P_7_c1 P_7_c2 X_7 X_7_c0 X_7_c1 X_7_c2 B_7 B_7_c0 B_7_c1 F_7 F_7_c0 F_7_c1 E1_7 E_7 E_7_c0 E_7_c1 G_7 G_7_c0 G_7_c1 O_7
  have P_9_c0 := P_9.c0
  have P_9_c1 := P_9.c1
  have P_9_c2 := P_9.c2
  have X_9_c0 := X_9.c0
  have X_9_c1 := X_9.c1
  have X_9_c2 := X_9.c2
  have B_9_c0 := B_9.c0
  have B_9_c1 := B_9.c1
  have F_9_c0 := F_9.c0
  have F_9_c1 := F_9.c1
  have E_9_c0 := E_9.c0
  have E_9_c1 := E_9.c1
  have G_9_c0 := G_9.c0
  have G_9_c1 := G_9.c1
  clear G_9 G_9_c0 G_9_c1 E_9 E_9_c0 E_9_c1 E1_9 O_9
  have z9 := Z9
  have P_b := P_9
  have P_9q := P_9.alloc (.cells #[.int .i64 0, .int .i64 0] 27)
  have X_b := X_9
  have X_9q := X_9.alloc (.cells #[.int .i64 0, .int .i64 0] 27)
  have B_b := B_9
  have B_9q := B_9.alloc (.cells #[.int .i64 0, .int .i64 0] 27)
  have F_b := F_9
  have F_9q := F_9.alloc (.cells #[.int .i64 0, .int .i64 0] 27)
  have M_9q := Two.new w9 27 (.int .i64 0) (.int .i64 0)
  have CM_9q := (Below.refl w9.heap.size w9).alloc (Nat.le_refl _) (.cells #[.int .i64 0, .int .i64 0] 27)
  have Z9q := Z9.alloc Z9.size (.cells #[.int .i64 0, .int .i64 0] 27)
  clear P_9 P_9_c0 P_9_c1 P_9_c2 X_9 X_9_c0 X_9_c1 X_9_c2 B_9 B_9_c0 B_9_c1 F_9 F_9_c0 F_9_c1
  have P_9q_c0 := P_9q.c0
  have P_9q_c1 := P_9q.c1
  have P_9q_c2 := P_9q.c2
  have X_9q_c0 := X_9q.c0
  have X_9q_c1 := X_9q.c1
  have X_9q_c2 := X_9q.c2
  have B_9q_c0 := B_9q.c0
  have B_9q_c1 := B_9q.c1
  have F_9q_c0 := F_9q.c0
  have F_9q_c1 := F_9q.c1
  have M_9q_c0 := M_9q.c0
  have M_9q_c1 := M_9q.c1
  have M_9q_f0 := M_9q.f0
  have M_9q_f1 := M_9q.f1
  go_wp2_with fail
  refine (in_no _ _ _ _ HPR.out).mono ?_
  rintro e w9_1 ⟨rfl, rfl⟩
  go_wp2_with fail
  refine (refat_any _ _ _).mono ?_
  rintro e w10 ⟨rfl, y10⟩
  have P_10 := P_9q.on y10
  have X_10 := X_9q.on y10
  have B_10 := B_9q.on y10
  have F_10 := F_9q.on y10
  have M_10 := M_9q.on y10
  clear P_9q P_9q_c0 P_9q_c1 P_9q_c2 X_9q X_9q_c0 X_9q_c1 X_9q_c2 B_9q B_9q_c0 B_9q_c1 F_9q F_9q_c0 F_9q_c1 M_9q M_9q_c0 M_9q_c1 M_9q_f0 M_9q_f1
  have z10 := Z9q.trans (y10.mono Z9q.size)
  have Z10 := z10
  have cM10 := CM_9q.trans (y10.mono CM_9q.size)
  have CM_10 := cM10
  have P_10_c0 := P_10.c0
  have P_10_c1 := P_10.c1
  have P_10_c2 := P_10.c2
  have X_10_c0 := X_10.c0
  have X_10_c1 := X_10.c1
  have X_10_c2 := X_10.c2
  have B_10_c0 := B_10.c0
  have B_10_c1 := B_10.c1
  have F_10_c0 := F_10.c0
  have F_10_c1 := F_10.c1
  have M_10_c0 := M_10.c0
  have M_10_c1 := M_10.c1
  have M_10_f0 := M_10.f0
  have M_10_f1 := M_10.f1
  have CM_11 := (CM_10.setCell (p := ⟨w9.heap.size, 0, none⟩) (by simp) (.int .i64 4)).setCell (p := ⟨w9.heap.size, 1, none⟩) (by simp) (.int .i64 (-3))
  have Z11 := (Z10.setCell (p := ⟨w9.heap.size, 0, none⟩) (by have := z9.size; simp; omega) (.int .i64 4)).setCell (p := ⟨w9.heap.size, 1, none⟩) (by have := z9.size; simp; omega) (.int .i64 (-3))
  have P_11 := P_b.on CM_11
  have X_11 := X_b.on CM_11
  have B_11 := B_b.on CM_11
  have F_11 := F_b.on CM_11
  have M_11 := (M_10.set0 (.int .i64 4)).set1 (.int .i64 (-3))
  have P_11_c0 := P_11.c0
  have P_11_c1 := P_11.c1
  have P_11_c2 := P_11.c2
  have X_11_c0 := X_11.c0
  have X_11_c1 := X_11.c1
  have X_11_c2 := X_11.c2
  have B_11_c0 := B_11.c0
  have B_11_c1 := B_11.c1
  have F_11_c0 := F_11.c0
  have F_11_c1 := F_11.c1
  have M_11_c0 := M_11.c0
  have M_11_c1 := M_11.c1
  have M_11_f0 := M_11.f0
  have M_11_f1 := M_11.f1
  go_wp2_with fail
  refine (api_same (l := []) (l2 := []) (Rd.none_ _) (Rd.none_ _) Is01.nil Is01.nil true (by simp) _ _ rfl rfl).mono ?_
  rintro e w12 ⟨rfl, y12⟩
  have P_12 := P_11.on y12
  have X_12 := X_11.on y12
  have B_12 := B_11.on y12
  have F_12 := F_11.on y12
  have M_12 := M_11.on y12
  clear P_10 P_10_c0 P_10_c1 P_10_c2 X_10 X_10_c0 X_10_c1 X_10_c2 B_10 B_10_c0 B_10_c1 F_10 F_10_c0 F_10_c1 M_10 M_10_c0 M_10_c1 M_10_f0 M_10_f1 P_11 P_11_c0 P_11_c1 P_11_c2 X_11 X_11_c0 X_11_c1 X_11_c2 B_11 B_11_c0 B_11_c1 F_11 F_11_c0 F_11_c1 M_11 M_11_c0 M_11_c1 M_11_f0 M_11_f1
  have z12 := Z11.trans (y12.mono Z11.size)
  have Z12 := z12
  have cM12 := CM_11.trans (y12.mono CM_11.size)
  have CM_12 := cM12
  have P_12_c0 := P_12.c0
  have P_12_c1 := P_12.c1
  have P_12_c2 := P_12.c2
  have X_12_c0 := X_12.c0
  have X_12_c1 := X_12.c1
  have X_12_c2 := X_12.c2
  have B_12_c0 := B_12.c0
  have B_12_c1 := B_12.c1
  have F_12_c0 := F_12.c0
  have F_12_c1 := F_12.c1
  have M_12_c0 := M_12.c0
  have M_12_c1 := M_12.c1
  have M_12_f0 := M_12.f0
  have M_12_f1 := M_12.f1
  go_wp2
  go_ret
  exact ⟨rfl, Z12⟩
set_option maxRecDepth 100000 in
set_option maxHeartbeats 1600000 in
theorem ap_big1_l {lo hi p : Int} {q : Nat} (hok : COk lo hi (q : Nat)) (hp1 : 1 ≤ p) (hp2 : p ≤ 4095) (hbig : 131056 < (sentf (stp lo hi 1 p).2.2 q).2) (hlast : lo < 16384) (w : World)  :
    Calls Try.prog 8 #[.agg #[.int .i64 lo, .int .i64 hi, .int .i64 (q : Nat)], .int .i64 ((1 : Nat) : Int), .int .i64 p] w fun e w' => e = .returned (.bool true) ∧ Below w.heap.size w w' := by
  have hqq := hok.2.2
  have hb9 : 0 = if lo < 16384 then 0 else 1 := by rw [if_pos hlast]
  have HFI := Lib.hid (fun (W : World) => finish_ok hok 0 hb9 W)
  have HCK := Lib.hid (fun (W : World) => coderok_any lo hi (q : Nat) true ⟨fun _ => hok, fun _ => rfl⟩ W)
  obtain ⟨kf, hkf⟩ : ∃ kf, kf = (crt 0 (q + 1)).length := ⟨_, rfl⟩
  have hkf2 : kf ≤ q + 2 := by rw [hkf]; simp [crt]
  have hc01 : Is01 (crt 0 (q + 1)) := Is01.of_mem fun x hx => by have := crt_le (b := 0) (q := q + 1) (by decide) x hx; omega
  have HC01 := Lib.hid hc01
  have hsl : (sentf [0] (q + 1)) = (crt 0 (q + 1), 0) := by rw [sentf_other (by decide)]; simp [sentf]
  have HSE := Lib.hid (fun (W : World) (A9 : Option Addr) (n9 c9 : Nat) (hW : Rd W A9 n9 c9 (ncells [0])) => sent_any hW (by decide) (by decide) (q := q + 1) (by omega) (crt 0 (q + 1)) 0 (by rw [hsl]) (by rw [hsl]) ((q : Int) + 1) (by omega))
  rw [← hkf] at HFI
  have HKF := Lib.hid hkf
  have hlk : decide (lo < 16384) = true := by simpa using hlast
  obtain ⟨LO, hLO⟩ : ∃ LO, LO = (stp lo hi 1 p).1 := ⟨_, rfl⟩
  obtain ⟨HI, hHI⟩ : ∃ HI, HI = (stp lo hi 1 p).2.1 := ⟨_, rfl⟩
  obtain ⟨R, hR⟩ : ∃ R, R = (stp lo hi 1 p).2.2 := ⟨_, rfl⟩
  obtain ⟨S, hS⟩ : ∃ S, S = (sentf (stp lo hi 1 p).2.2 q).1 := ⟨_, rfl⟩
  obtain ⟨Q, hQ⟩ : ∃ Q, Q = (sentf (stp lo hi 1 p).2.2 q).2 := ⟨_, rfl⟩
  obtain ⟨f1, f2, f3, f4⟩ := stp_facts 1 hok.1 hp1 hp2
  have hcnt : S.length + Q = (stp lo hi 1 p).2.2.length + q := by rw [hS, hQ]; exact sentf_count _ _
  have HS01 := Lib.hid (show Is01 S from Is01.of_mem fun x hx => by have := sentf_le _ f3 q x (by rw [← hS]; exact hx); omega)
  rw [← hQ] at hbig
  have HST := Lib.hid (fun (W : World) => steps_any hok.1 hp1 hp2 (b := 1) (by decide) LO HI R hLO hHI hR (1 : Int) rfl W)
  have HPU := Lib.hid (fun (W : World) => put_big hok hp1 hp2 (b := 1) (by decide) LO HI S Q hLO hHI hS hQ hbig W)
  rw [← hR] at hS hQ f2 f3 hcnt
  have hSl : S.length ≤ 140000 := by omega
  have HS2 := Lib.hid (fun (W : World) (A9 : Option Addr) (n9 c9 : Nat) (hW : Rd W A9 n9 c9 (ncells R)) => sent_any hW f3 (by omega) (q := q) (by omega) S Q hS hQ (q : Nat) rfl)
  obtain ⟨ks, hks⟩ : ∃ ks, ks = S.length := ⟨_, rfl⟩
  have HKS := Lib.hid hks
  rw [← hks] at hSl
  have kbig : decide ((131056 : Int) < (Q : Int)) = true := by simp; omega
  have HP1 := Lib.hid hp1
  have HP2 := Lib.hid hp2
  have k0 : (((1 : Nat) : Int) != 0) = true := rfl
  have k1 : (((1 : Nat) : Int) != 1) = false := rfl
  clear hok hlast hb9 hkf hc01 hsl hLO hHI hS hQ hR f1 f3 f4 hcnt hp1 hp2 hks
  have P_0 := (Three.new w 50 (.int .i64 lo) (.int .i64 hi) (.int .i64 (q : Nat)))
  have Z0 := (Below.refl w.heap.size w).alloc (by simp) (.cells #[.int .i64 lo, .int .i64 hi, .int .i64 (q : Nat)] 50)
  have P_0_c0 := P_0.c0
  have P_0_c1 := P_0.c1
  have P_0_c2 := P_0.c2
  go_enter Try.func8, Try.ntmps8
  go_wp2_with fail
  refine (HPU.out _).mono ?_
  rintro e w1 ⟨rfl, y1⟩
  have P_1 := (((P_0.on y1).alloc (.cells #[.int .i64 0, .int .i64 0, .int .i64 0] 50)).alloc (.cells #[.slice none 0 0, .int .i64 0] 25)).alloc (.cells #[.int .i64 14, .int .i64 (-1)] 27)
  have X_1 := (((Three.new w1 50 (.int .i64 0) (.int .i64 0) (.int .i64 0))).alloc (.cells #[.slice none 0 0, .int .i64 0] 25)).alloc (.cells #[.int .i64 14, .int .i64 (-1)] 27)
  have B_1 := ((Two.new1 w1 (.cells #[.int .i64 0, .int .i64 0, .int .i64 0] 50) 25 (.slice none 0 0) (.int .i64 0))).alloc (.cells #[.int .i64 14, .int .i64 (-1)] 27)
  have F_1 := (Two.new2 w1 (.cells #[.int .i64 0, .int .i64 0, .int .i64 0] 50) (.cells #[.slice none 0 0, .int .i64 0] 25) 27 (.int .i64 14) (.int .i64 (-1)))
  clear P_0 P_0_c0 P_0_c1 P_0_c2
  have z1 := Z0.trans (y1.mono Z0.size)
  have Z1 := (((z1).alloc (by have := z1.size; omega) (.cells #[.int .i64 0, .int .i64 0, .int .i64 0] 50)).alloc (by have := z1.size; simp; omega) (.cells #[.slice none 0 0, .int .i64 0] 25)).alloc (by have := z1.size; simp; omega) (.cells #[.int .i64 14, .int .i64 (-1)] 27)
  have P_1_c0 := P_1.c0
  have P_1_c1 := P_1.c1
  have P_1_c2 := P_1.c2
  have X_1_c0 := X_1.c0
  have X_1_c1 := X_1.c1
  have X_1_c2 := X_1.c2
  have B_1_c0 := B_1.c0
  have B_1_c1 := B_1.c1
  have F_1_c0 := F_1.c0
  have F_1_c1 := F_1.c1
  go_wp2_with fail
  refine (HFI.out _).mono ?_
  rintro e w2 ⟨A2, n2, c2, rfl, R2, y2⟩
  have P_2 := ((P_1.on y2).alloc (.cells #[.slice A2 n2 c2, .int .i64 (kf : Nat)] 25)).alloc (.cells #[.int .i64 0, .int .i64 0] 27)
  have X_2 := ((X_1.on y2).alloc (.cells #[.slice A2 n2 c2, .int .i64 (kf : Nat)] 25)).alloc (.cells #[.int .i64 0, .int .i64 0] 27)
  have B_2 := ((B_1.on y2).alloc (.cells #[.slice A2 n2 c2, .int .i64 (kf : Nat)] 25)).alloc (.cells #[.int .i64 0, .int .i64 0] 27)
  have F_2 := ((F_1.on y2).alloc (.cells #[.slice A2 n2 c2, .int .i64 (kf : Nat)] 25)).alloc (.cells #[.int .i64 0, .int .i64 0] 27)
  have E1_2 := ((R2).alloc (.cells #[.slice A2 n2 c2, .int .i64 (kf : Nat)] 25)).alloc (.cells #[.int .i64 0, .int .i64 0] 27)
  have E_2 := ((Two.new w2 25 (.slice A2 n2 c2) (.int .i64 (kf : Nat)))).alloc (.cells #[.int .i64 0, .int .i64 0] 27)
  have G_2 := (Two.new1 w2 (.cells #[.slice A2 n2 c2, .int .i64 (kf : Nat)] 25) 27 (.int .i64 0) (.int .i64 0))
  clear P_1 P_1_c0 P_1_c1 P_1_c2 X_1 X_1_c0 X_1_c1 X_1_c2 B_1 B_1_c0 B_1_c1 F_1 F_1_c0 F_1_c1
  have z2 := Z1.trans (y2.mono Z1.size)
  have Z2 := ((z2).alloc (by have := z2.size; omega) (.cells #[.slice A2 n2 c2, .int .i64 (kf : Nat)] 25)).alloc (by have := z2.size; simp; omega) (.cells #[.int .i64 0, .int .i64 0] 27)
  have P_2_c0 := P_2.c0
  have P_2_c1 := P_2.c1
  have P_2_c2 := P_2.c2
  have X_2_c0 := X_2.c0
  have X_2_c1 := X_2.c1
  have X_2_c2 := X_2.c2
  have B_2_c0 := B_2.c0
  have B_2_c1 := B_2.c1
  have F_2_c0 := F_2.c0
  have F_2_c1 := F_2.c1
  have E_2_c0 := E_2.c0
  have E_2_c1 := E_2.c1
  have G_2_c0 := G_2.c0
  have G_2_c1 := G_2.c1
  go_wp2_with fail
  refine (codes_true _).mono ?_
  rintro e w3 ⟨rfl, y3⟩
  have P_3 := P_2.on y3
  have X_3 := X_2.on y3
  have B_3 := B_2.on y3
  have F_3 := F_2.on y3
  have E1_3 := E1_2.on y3
  have E_3 := E_2.on y3
  have G_3 := G_2.on y3
  clear P_2 P_2_c0 P_2_c1 P_2_c2 X_2 X_2_c0 X_2_c1 X_2_c2 B_2 B_2_c0 B_2_c1 F_2 F_2_c0 F_2_c1 E1_2 E_2 E_2_c0 E_2_c1 G_2 G_2_c0 G_2_c1
  have z3 := Z2.trans (y3.mono Z2.size)
  have Z3 := z3
  have P_3_c0 := P_3.c0
  have P_3_c1 := P_3.c1
  have P_3_c2 := P_3.c2
  have X_3_c0 := X_3.c0
  have X_3_c1 := X_3.c1
  have X_3_c2 := X_3.c2
  have B_3_c0 := B_3.c0
  have B_3_c1 := B_3.c1
  have F_3_c0 := F_3.c0
  have F_3_c1 := F_3.c1
  have E_3_c0 := E_3.c0
  have E_3_c1 := E_3.c1
  have G_3_c0 := G_3.c0
  have G_3_c1 := G_3.c1
  go_wp2_with fail
  refine (start_any _).mono ?_
  rintro e w4 ⟨rfl, y4⟩
  have P_4 := P_3.on y4
  have X_4 := X_3.on y4
  have B_4 := B_3.on y4
  have F_4 := F_3.on y4
  have E1_4 := E1_3.on y4
  have E_4 := E_3.on y4
  have G_4 := G_3.on y4
  clear P_3 P_3_c0 P_3_c1 P_3_c2 X_3 X_3_c0 X_3_c1 X_3_c2 B_3 B_3_c0 B_3_c1 F_3 F_3_c0 F_3_c1 E1_3 E_3 E_3_c0 E_3_c1 G_3 G_3_c0 G_3_c1
  have z4 := Z3.trans (y4.mono Z3.size)
  have Z4 := z4
  have P_4_c0 := P_4.c0
  have P_4_c1 := P_4.c1
  have P_4_c2 := P_4.c2
  have X_4_c0 := X_4.c0
  have X_4_c1 := X_4.c1
  have X_4_c2 := X_4.c2
  have B_4_c0 := B_4.c0
  have B_4_c1 := B_4.c1
  have F_4_c0 := F_4.c0
  have F_4_c1 := F_4.c1
  have E_4_c0 := E_4.c0
  have E_4_c1 := E_4.c1
  have G_4_c0 := G_4.c0
  have G_4_c1 := G_4.c1
  go_wp2_with fail
  refine (HCK.out _).mono ?_
  rintro e w5 ⟨rfl, y5⟩
  have P_5 := P_4.on y5
  have X_5 := X_4.on y5
  have B_5 := B_4.on y5
  have F_5 := F_4.on y5
  have E1_5 := E1_4.on y5
  have E_5 := E_4.on y5
  have G_5 := G_4.on y5
  clear P_4 P_4_c0 P_4_c1 P_4_c2 X_4 X_4_c0 X_4_c1 X_4_c2 B_4 B_4_c0 B_4_c1 F_4 F_4_c0 F_4_c1 E1_4 E_4 E_4_c0 E_4_c1 G_4 G_4_c0 G_4_c1
  have z5 := Z4.trans (y5.mono Z4.size)
  have Z5 := z5
  have P_5_c0 := P_5.c0
  have P_5_c1 := P_5.c1
  have P_5_c2 := P_5.c2
  have X_5_c0 := X_5.c0
  have X_5_c1 := X_5.c1
  have X_5_c2 := X_5.c2
  have B_5_c0 := B_5.c0
  have B_5_c1 := B_5.c1
  have F_5_c0 := F_5.c0
  have F_5_c1 := F_5.c1
  have E_5_c0 := E_5.c0
  have E_5_c1 := E_5.c1
  have G_5_c0 := G_5.c0
  have G_5_c1 := G_5.c1
  have P_6 := P_5.alloc (.cells #[.int .i64 0] 3)
  have X_6 := X_5.alloc (.cells #[.int .i64 0] 3)
  have B_6 := B_5.alloc (.cells #[.int .i64 0] 3)
  have F_6 := F_5.alloc (.cells #[.int .i64 0] 3)
  have E1_6 := E1_5.alloc (.cells #[.int .i64 0] 3)
  have E_6 := E_5.alloc (.cells #[.int .i64 0] 3)
  have G_6 := G_5.alloc (.cells #[.int .i64 0] 3)
  have K_6 := (show Rd (w5.alloc (.cells #[.int .i64 0] 3)) (some ⟨w5.heap.size, 0, none⟩) 1 1 (ncells [0]) from Rd.lit1 w5 rfl 0 3)
  have Z6 := Z5.alloc Z5.size (.cells #[.int .i64 0] 3)
  have P_6_c0 := P_6.c0
  have P_6_c1 := P_6.c1
  have P_6_c2 := P_6.c2
  have X_6_c0 := X_6.c0
  have X_6_c1 := X_6.c1
  have X_6_c2 := X_6.c2
  have B_6_c0 := B_6.c0
  have B_6_c1 := B_6.c1
  have F_6_c0 := F_6.c0
  have F_6_c1 := F_6.c1
  have E_6_c0 := E_6.c0
  have E_6_c1 := E_6.c1
  have G_6_c0 := G_6.c0
  have G_6_c1 := G_6.c1
  go_wp2_with fail
  refine (HSE.out _ _ _ _ K_6).mono ?_
  rintro e w7 ⟨A3, n3, c3, rfl, hn3, o3, y7⟩
  have P_7 := P_6.on y7
  have X_7 := X_6.on y7
  have B_7 := B_6.on y7
  have F_7 := F_6.on y7
  have E1_7 := E1_6.on y7
  have E_7 := E_6.on y7
  have G_7 := G_6.on y7
  have O_7 := o3
  clear P_5 P_5_c0 P_5_c1 P_5_c2 X_5 X_5_c0 X_5_c1 X_5_c2 B_5 B_5_c0 B_5_c1 F_5 F_5_c0 F_5_c1 E1_5 E_5 E_5_c0 E_5_c1 G_5 G_5_c0 G_5_c1 P_6 P_6_c0 P_6_c1 P_6_c2 X_6 X_6_c0 X_6_c1 X_6_c2 B_6 B_6_c0 B_6_c1 F_6 F_6_c0 F_6_c1 E1_6 E_6 E_6_c0 E_6_c1 G_6 G_6_c0 G_6_c1 K_6
  have z7 := Z6.trans (y7.mono Z6.size)
  have Z7 := z7
  have P_7_c0 := P_7.c0
  have P_7_c1 := P_7.c1
  have P_7_c2 := P_7.c2
  have X_7_c0 := X_7.c0
  have X_7_c1 := X_7.c1
  have X_7_c2 := X_7.c2
  have B_7_c0 := B_7.c0
  have B_7_c1 := B_7.c1
  have F_7_c0 := F_7.c0
  have F_7_c1 := F_7.c1
  have E_7_c0 := E_7.c0
  have E_7_c1 := E_7.c1
  have G_7_c0 := G_7.c0
  have G_7_c1 := G_7.c1
  go_wp2_with fail
  go_region_held3 (fun w' => w'.cell? ⟨w2.heap.size + 1, 0, none⟩ = some (.int .i64 0) ∧ w'.cell? ⟨w2.heap.size + 1, 1, none⟩ = some (.int .i64 0) ∧ w'.cell? ⟨w2.heap.size, 0, none⟩ = some (.slice A2 n2 c2) ∧ w'.cell? ⟨w2.heap.size, 1, none⟩ = some (.int .i64 (kf : Nat))) (go_keep) (first | (go_at_call 15; refine (arpacked hn3 (Rd.own (own_drew O_7)) HC01.out (by rw [← HKF.out]; omega)).mono ?_; rintro e w8 ⟨A4, n4, c4, rfl, RP, y8⟩; have Y8 : Below w7.heap.size w7.drew w8 := y8; have G_8_c0 := ((Two.on (w := w7.drew) G_7 Y8)).c0; have G_8_c1 := ((Two.on (w := w7.drew) G_7 Y8)).c1; have E_8_c0 := ((Two.on (w := w7.drew) E_7 Y8)).c0; have E_8_c1 := ((Two.on (w := w7.drew) E_7 Y8)).c1) | (go_at_call 14; refine (api_same (Rd.on (w := w7.drew) E1_7 Y8) RP HC01.out HC01.out true (by simp) _ _ (by rw [← HKF.out]) (by rw [hn3])).mono ?_; rintro e w9 ⟨rfl, y9⟩; have Y9 := Y8.trans (y9.mono Y8.size); have G_9_c0 := ((Two.on (w := w7.drew) G_7 Y9)).c0; have G_9_c1 := ((Two.on (w := w7.drew) G_7 Y9)).c1; have E_9_c0 := ((Two.on (w := w7.drew) E_7 Y9)).c0; have E_9_c1 := ((Two.on (w := w7.drew) E_7 Y9)).c1))
  have P_9 := (Three.on (w := w7.drew) P_7 Y9)
  have X_9 := (Three.on (w := w7.drew) X_7 Y9)
  have B_9 := (Two.on (w := w7.drew) B_7 Y9)
  have F_9 := (Two.on (w := w7.drew) F_7 Y9)
  have E1_9 := (Rd.on (w := w7.drew) E1_7 Y9)
  have E_9 := (Two.on (w := w7.drew) E_7 Y9)
  have G_9 := (Two.on (w := w7.drew) G_7 Y9)
  have O_9 := (own_on (w := w7.drew) O_7 Y9)
  have Z9 := (belowD Z7).trans (Y9.mono (belowD Z7).size)
  clear G_8_c0 G_8_c1 E_8_c0 E_8_c1 G_9_c0 G_9_c1 E_9_c0 E_9_c1
  clear P_7 P_7_c0 P_7_c1 P_7_c2 X_7 X_7_c0 X_7_c1 X_7_c2 B_7 B_7_c0 B_7_c1 F_7 F_7_c0 F_7_c1 E1_7 E_7 E_7_c0 E_7_c1 G_7 G_7_c0 G_7_c1 O_7
  have P_9_c0 := P_9.c0
  have P_9_c1 := P_9.c1
  have P_9_c2 := P_9.c2
  have X_9_c0 := X_9.c0
  have X_9_c1 := X_9.c1
  have X_9_c2 := X_9.c2
  have B_9_c0 := B_9.c0
  have B_9_c1 := B_9.c1
  have F_9_c0 := F_9.c0
  have F_9_c1 := F_9.c1
  have E_9_c0 := E_9.c0
  have E_9_c1 := E_9.c1
  have G_9_c0 := G_9.c0
  have G_9_c1 := G_9.c1
  clear G_9 G_9_c0 G_9_c1 E_9 E_9_c0 E_9_c1 E1_9 O_9
  have z9 := Z9
  have P_b := P_9
  have P_9q := P_9.alloc (.cells #[.int .i64 0, .int .i64 0] 27)
  have X_b := X_9
  have X_9q := X_9.alloc (.cells #[.int .i64 0, .int .i64 0] 27)
  have B_b := B_9
  have B_9q := B_9.alloc (.cells #[.int .i64 0, .int .i64 0] 27)
  have F_b := F_9
  have F_9q := F_9.alloc (.cells #[.int .i64 0, .int .i64 0] 27)
  have M_9q := Two.new w9 27 (.int .i64 0) (.int .i64 0)
  have CM_9q := (Below.refl w9.heap.size w9).alloc (Nat.le_refl _) (.cells #[.int .i64 0, .int .i64 0] 27)
  have Z9q := Z9.alloc Z9.size (.cells #[.int .i64 0, .int .i64 0] 27)
  clear P_9 P_9_c0 P_9_c1 P_9_c2 X_9 X_9_c0 X_9_c1 X_9_c2 B_9 B_9_c0 B_9_c1 F_9 F_9_c0 F_9_c1
  have P_9q_c0 := P_9q.c0
  have P_9q_c1 := P_9q.c1
  have P_9q_c2 := P_9q.c2
  have X_9q_c0 := X_9q.c0
  have X_9q_c1 := X_9q.c1
  have X_9q_c2 := X_9q.c2
  have B_9q_c0 := B_9q.c0
  have B_9q_c1 := B_9q.c1
  have F_9q_c0 := F_9q.c0
  have F_9q_c1 := F_9q.c1
  have M_9q_c0 := M_9q.c0
  have M_9q_c1 := M_9q.c1
  have M_9q_f0 := M_9q.f0
  have M_9q_f1 := M_9q.f1
  go_wp2_with fail
  refine (in_yes _ _ _ _ HP1.out HP2.out).mono ?_
  rintro e w9_1 ⟨rfl, rfl⟩
  go_wp2_with fail
  refine (HST.out _).mono ?_
  rintro e w10 ⟨A5, n5, c5, rfl, hn5, o5, y10⟩
  have P_10 := P_9q.on y10
  have X_10 := X_9q.on y10
  have B_10 := B_9q.on y10
  have F_10 := F_9q.on y10
  have M_10 := M_9q.on y10
  have T_10 := o5
  clear P_9q P_9q_c0 P_9q_c1 P_9q_c2 X_9q X_9q_c0 X_9q_c1 X_9q_c2 B_9q B_9q_c0 B_9q_c1 F_9q F_9q_c0 F_9q_c1 M_9q M_9q_c0 M_9q_c1 M_9q_f0 M_9q_f1
  have z10 := Z9q.trans (y10.mono Z9q.size)
  have Z10 := z10
  have cM10 := CM_9q.trans (y10.mono CM_9q.size)
  have CM_10 := cM10
  have P_10_c0 := P_10.c0
  have P_10_c1 := P_10.c1
  have P_10_c2 := P_10.c2
  have X_10_c0 := X_10.c0
  have X_10_c1 := X_10.c1
  have X_10_c2 := X_10.c2
  have B_10_c0 := B_10.c0
  have B_10_c1 := B_10.c1
  have F_10_c0 := F_10.c0
  have F_10_c1 := F_10.c1
  have M_10_c0 := M_10.c0
  have M_10_c1 := M_10.c1
  have M_10_f0 := M_10.f0
  have M_10_f1 := M_10.f1
  go_wp2_with fail
  refine (HS2.out _ _ _ _ (Rd.own T_10)).mono ?_
  rintro e w11 ⟨A6, n6, c6, rfl, hn6, o6, y11⟩
  have P_11 := P_10.on y11
  have X_11 := X_10.on y11
  have B_11 := B_10.on y11
  have F_11 := F_10.on y11
  have M_11 := M_10.on y11
  have U_11 := o6
  clear P_10 P_10_c0 P_10_c1 P_10_c2 X_10 X_10_c0 X_10_c1 X_10_c2 B_10 B_10_c0 B_10_c1 F_10 F_10_c0 F_10_c1 M_10 M_10_c0 M_10_c1 M_10_f0 M_10_f1 T_10
  have z11 := Z10.trans (y11.mono Z10.size)
  have Z11 := z11
  have cM11 := CM_10.trans (y11.mono CM_10.size)
  have CM_11 := cM11
  have P_11_c0 := P_11.c0
  have P_11_c1 := P_11.c1
  have P_11_c2 := P_11.c2
  have X_11_c0 := X_11.c0
  have X_11_c1 := X_11.c1
  have X_11_c2 := X_11.c2
  have B_11_c0 := B_11.c0
  have B_11_c1 := B_11.c1
  have F_11_c0 := F_11.c0
  have F_11_c1 := F_11.c1
  have M_11_c0 := M_11.c0
  have M_11_c1 := M_11.c1
  have M_11_f0 := M_11.f0
  have M_11_f1 := M_11.f1
  go_wp2_with fail
  refine (refat_any _ _ _).mono ?_
  rintro e w12 ⟨rfl, y12⟩
  have P_12 := P_11.on y12
  have X_12 := X_11.on y12
  have B_12 := B_11.on y12
  have F_12 := F_11.on y12
  have M_12 := M_11.on y12
  have U_12 := own_on U_11 y12
  clear P_11 P_11_c0 P_11_c1 P_11_c2 X_11 X_11_c0 X_11_c1 X_11_c2 B_11 B_11_c0 B_11_c1 F_11 F_11_c0 F_11_c1 M_11 M_11_c0 M_11_c1 M_11_f0 M_11_f1 U_11
  have z12 := Z11.trans (y12.mono Z11.size)
  have Z12 := z12
  have cM12 := CM_11.trans (y12.mono CM_11.size)
  have CM_12 := cM12
  have P_12_c0 := P_12.c0
  have P_12_c1 := P_12.c1
  have P_12_c2 := P_12.c2
  have X_12_c0 := X_12.c0
  have X_12_c1 := X_12.c1
  have X_12_c2 := X_12.c2
  have B_12_c0 := B_12.c0
  have B_12_c1 := B_12.c1
  have F_12_c0 := F_12.c0
  have F_12_c1 := F_12.c1
  have M_12_c0 := M_12.c0
  have M_12_c1 := M_12.c1
  have M_12_f0 := M_12.f0
  have M_12_f1 := M_12.f1
  have CM_13 := (CM_12.setCell (p := ⟨w9.heap.size, 0, none⟩) (by simp) (.int .i64 14)).setCell (p := ⟨w9.heap.size, 1, none⟩) (by simp) (.int .i64 (-1))
  have Z13 := (Z12.setCell (p := ⟨w9.heap.size, 0, none⟩) (by have := z9.size; simp; omega) (.int .i64 14)).setCell (p := ⟨w9.heap.size, 1, none⟩) (by have := z9.size; simp; omega) (.int .i64 (-1))
  have P_13 := P_b.on CM_13
  have X_13 := X_b.on CM_13
  have B_13 := B_b.on CM_13
  have F_13 := F_b.on CM_13
  have M_13 := (M_12.set0 (.int .i64 14)).set1 (.int .i64 (-1))
  have U_13 := own_far_any (own_far_any U_12 (p := ⟨w9.heap.size, 0, none⟩) (own_two_ne U_12 M_12 (by decide)) (.int .i64 14)) (p := ⟨w9.heap.size, 1, none⟩) (own_two_ne U_12 M_12 (by decide)) (.int .i64 (-1))
  have P_13_c0 := P_13.c0
  have P_13_c1 := P_13.c1
  have P_13_c2 := P_13.c2
  have X_13_c0 := X_13.c0
  have X_13_c1 := X_13.c1
  have X_13_c2 := X_13.c2
  have B_13_c0 := B_13.c0
  have B_13_c1 := B_13.c1
  have F_13_c0 := F_13.c0
  have F_13_c1 := F_13.c1
  have M_13_c0 := M_13.c0
  have M_13_c1 := M_13.c1
  have M_13_f0 := M_13.f0
  have M_13_f1 := M_13.f1
  go_wp2_with fail
  refine (api_same (l := []) (l2 := []) (Rd.none_ _) (Rd.none_ _) Is01.nil Is01.nil true (by simp) _ _ rfl rfl).mono ?_
  rintro e w14 ⟨rfl, y14⟩
  have P_14 := P_13.on y14
  have X_14 := X_13.on y14
  have B_14 := B_13.on y14
  have F_14 := F_13.on y14
  have M_14 := M_13.on y14
  have U_14 := own_on U_13 y14
  clear P_12 P_12_c0 P_12_c1 P_12_c2 X_12 X_12_c0 X_12_c1 X_12_c2 B_12 B_12_c0 B_12_c1 F_12 F_12_c0 F_12_c1 M_12 M_12_c0 M_12_c1 M_12_f0 M_12_f1 U_12 P_13 P_13_c0 P_13_c1 P_13_c2 X_13 X_13_c0 X_13_c1 X_13_c2 B_13 B_13_c0 B_13_c1 F_13 F_13_c0 F_13_c1 M_13 M_13_c0 M_13_c1 M_13_f0 M_13_f1 U_13
  have z14 := Z13.trans (y14.mono Z13.size)
  have Z14 := z14
  have cM14 := CM_13.trans (y14.mono CM_13.size)
  have CM_14 := cM14
  have P_14_c0 := P_14.c0
  have P_14_c1 := P_14.c1
  have P_14_c2 := P_14.c2
  have X_14_c0 := X_14.c0
  have X_14_c1 := X_14.c1
  have X_14_c2 := X_14.c2
  have B_14_c0 := B_14.c0
  have B_14_c1 := B_14.c1
  have F_14_c0 := F_14.c0
  have F_14_c1 := F_14.c1
  have M_14_c0 := M_14.c0
  have M_14_c1 := M_14.c1
  have M_14_f0 := M_14.f0
  have M_14_f1 := M_14.f1
  go_wp2
  go_ret
  exact ⟨rfl, Z14⟩
set_option maxRecDepth 100000 in
set_option maxHeartbeats 1600000 in
theorem ap_ok1_l {lo hi p : Int} {q : Nat} (hok : COk lo hi (q : Nat)) (hp1 : 1 ≤ p) (hp2 : p ≤ 4095) (hbig : (sentf (stp lo hi 1 p).2.2 q).2 ≤ 131056) (hlast : lo < 16384) (w : World)  :
    Calls Try.prog 8 #[.agg #[.int .i64 lo, .int .i64 hi, .int .i64 (q : Nat)], .int .i64 ((1 : Nat) : Int), .int .i64 p] w fun e w' => e = .returned (.bool true) ∧ Below w.heap.size w w' := by
  have hqq := hok.2.2
  have hb9 : 0 = if lo < 16384 then 0 else 1 := by rw [if_pos hlast]
  have HFI := Lib.hid (fun (W : World) => finish_ok hok 0 hb9 W)
  have HCK := Lib.hid (fun (W : World) => coderok_any lo hi (q : Nat) true ⟨fun _ => hok, fun _ => rfl⟩ W)
  obtain ⟨kf, hkf⟩ : ∃ kf, kf = (crt 0 (q + 1)).length := ⟨_, rfl⟩
  have hkf2 : kf ≤ q + 2 := by rw [hkf]; simp [crt]
  have hc01 : Is01 (crt 0 (q + 1)) := Is01.of_mem fun x hx => by have := crt_le (b := 0) (q := q + 1) (by decide) x hx; omega
  have HC01 := Lib.hid hc01
  have hsl : (sentf [0] (q + 1)) = (crt 0 (q + 1), 0) := by rw [sentf_other (by decide)]; simp [sentf]
  have HSE := Lib.hid (fun (W : World) (A9 : Option Addr) (n9 c9 : Nat) (hW : Rd W A9 n9 c9 (ncells [0])) => sent_any hW (by decide) (by decide) (q := q + 1) (by omega) (crt 0 (q + 1)) 0 (by rw [hsl]) (by rw [hsl]) ((q : Int) + 1) (by omega))
  rw [← hkf] at HFI
  have HKF := Lib.hid hkf
  have hlk : decide (lo < 16384) = true := by simpa using hlast
  obtain ⟨LO, hLO⟩ : ∃ LO, LO = (stp lo hi 1 p).1 := ⟨_, rfl⟩
  obtain ⟨HI, hHI⟩ : ∃ HI, HI = (stp lo hi 1 p).2.1 := ⟨_, rfl⟩
  obtain ⟨R, hR⟩ : ∃ R, R = (stp lo hi 1 p).2.2 := ⟨_, rfl⟩
  obtain ⟨S, hS⟩ : ∃ S, S = (sentf (stp lo hi 1 p).2.2 q).1 := ⟨_, rfl⟩
  obtain ⟨Q, hQ⟩ : ∃ Q, Q = (sentf (stp lo hi 1 p).2.2 q).2 := ⟨_, rfl⟩
  obtain ⟨f1, f2, f3, f4⟩ := stp_facts 1 hok.1 hp1 hp2
  have hcnt : S.length + Q = (stp lo hi 1 p).2.2.length + q := by rw [hS, hQ]; exact sentf_count _ _
  have HS01 := Lib.hid (show Is01 S from Is01.of_mem fun x hx => by have := sentf_le _ f3 q x (by rw [← hS]; exact hx); omega)
  rw [← hQ] at hbig
  have HST := Lib.hid (fun (W : World) => steps_any hok.1 hp1 hp2 (b := 1) (by decide) LO HI R hLO hHI hR (1 : Int) rfl W)
  have HPU := Lib.hid (fun (W : World) => put_ok hok hp1 hp2 (b := 1) (by decide) LO HI S Q hLO hHI hS hQ hbig W)
  rw [← hR] at hS hQ f2 f3 hcnt
  have hSl : S.length ≤ 140000 := by omega
  have HS2 := Lib.hid (fun (W : World) (A9 : Option Addr) (n9 c9 : Nat) (hW : Rd W A9 n9 c9 (ncells R)) => sent_any hW f3 (by omega) (q := q) (by omega) S Q hS hQ (q : Nat) rfl)
  obtain ⟨ks, hks⟩ : ∃ ks, ks = S.length := ⟨_, rfl⟩
  have HKS := Lib.hid hks
  rw [← hks] at hSl
  rw [← hks] at HPU
  have kbig : decide ((131056 : Int) < (Q : Int)) = false := by simp; omega
  have HP1 := Lib.hid hp1
  have HP2 := Lib.hid hp2
  have k0 : (((1 : Nat) : Int) != 0) = true := rfl
  have k1 : (((1 : Nat) : Int) != 1) = false := rfl
  clear hok hlast hb9 hkf hc01 hsl hLO hHI hS hQ hR f1 f3 f4 hcnt hp1 hp2 hks
  have P_0 := (Three.new w 50 (.int .i64 lo) (.int .i64 hi) (.int .i64 (q : Nat)))
  have Z0 := (Below.refl w.heap.size w).alloc (by simp) (.cells #[.int .i64 lo, .int .i64 hi, .int .i64 (q : Nat)] 50)
  have P_0_c0 := P_0.c0
  have P_0_c1 := P_0.c1
  have P_0_c2 := P_0.c2
  go_enter Try.func8, Try.ntmps8
  go_wp2_with fail
  refine (HPU.out _).mono ?_
  rintro e w1 ⟨A1, n1, c1, rfl, R1, y1⟩
  have P_1 := (((P_0.on y1).alloc (.cells #[.int .i64 LO, .int .i64 HI, .int .i64 (Q : Nat)] 50)).alloc (.cells #[.slice A1 n1 c1, .int .i64 (ks : Nat)] 25)).alloc (.cells #[.int .i64 0, .int .i64 0] 27)
  have R_1 := (((R1).alloc (.cells #[.int .i64 LO, .int .i64 HI, .int .i64 (Q : Nat)] 50)).alloc (.cells #[.slice A1 n1 c1, .int .i64 (ks : Nat)] 25)).alloc (.cells #[.int .i64 0, .int .i64 0] 27)
  have X_1 := (((Three.new w1 50 (.int .i64 LO) (.int .i64 HI) (.int .i64 (Q : Nat)))).alloc (.cells #[.slice A1 n1 c1, .int .i64 (ks : Nat)] 25)).alloc (.cells #[.int .i64 0, .int .i64 0] 27)
  have B_1 := ((Two.new1 w1 (.cells #[.int .i64 LO, .int .i64 HI, .int .i64 (Q : Nat)] 50) 25 (.slice A1 n1 c1) (.int .i64 (ks : Nat)))).alloc (.cells #[.int .i64 0, .int .i64 0] 27)
  have F_1 := (Two.new2 w1 (.cells #[.int .i64 LO, .int .i64 HI, .int .i64 (Q : Nat)] 50) (.cells #[.slice A1 n1 c1, .int .i64 (ks : Nat)] 25) 27 (.int .i64 0) (.int .i64 0))
  clear P_0 P_0_c0 P_0_c1 P_0_c2
  have z1 := Z0.trans (y1.mono Z0.size)
  have Z1 := (((z1).alloc (by have := z1.size; omega) (.cells #[.int .i64 LO, .int .i64 HI, .int .i64 (Q : Nat)] 50)).alloc (by have := z1.size; simp; omega) (.cells #[.slice A1 n1 c1, .int .i64 (ks : Nat)] 25)).alloc (by have := z1.size; simp; omega) (.cells #[.int .i64 0, .int .i64 0] 27)
  have P_1_c0 := P_1.c0
  have P_1_c1 := P_1.c1
  have P_1_c2 := P_1.c2
  have X_1_c0 := X_1.c0
  have X_1_c1 := X_1.c1
  have X_1_c2 := X_1.c2
  have B_1_c0 := B_1.c0
  have B_1_c1 := B_1.c1
  have F_1_c0 := F_1.c0
  have F_1_c1 := F_1.c1
  go_wp2_with fail
  refine (HFI.out _).mono ?_
  rintro e w2 ⟨A2, n2, c2, rfl, R2, y2⟩
  have P_2 := ((P_1.on y2).alloc (.cells #[.slice A2 n2 c2, .int .i64 (kf : Nat)] 25)).alloc (.cells #[.int .i64 0, .int .i64 0] 27)
  have R_2 := ((R_1.on y2).alloc (.cells #[.slice A2 n2 c2, .int .i64 (kf : Nat)] 25)).alloc (.cells #[.int .i64 0, .int .i64 0] 27)
  have X_2 := ((X_1.on y2).alloc (.cells #[.slice A2 n2 c2, .int .i64 (kf : Nat)] 25)).alloc (.cells #[.int .i64 0, .int .i64 0] 27)
  have B_2 := ((B_1.on y2).alloc (.cells #[.slice A2 n2 c2, .int .i64 (kf : Nat)] 25)).alloc (.cells #[.int .i64 0, .int .i64 0] 27)
  have F_2 := ((F_1.on y2).alloc (.cells #[.slice A2 n2 c2, .int .i64 (kf : Nat)] 25)).alloc (.cells #[.int .i64 0, .int .i64 0] 27)
  have E1_2 := ((R2).alloc (.cells #[.slice A2 n2 c2, .int .i64 (kf : Nat)] 25)).alloc (.cells #[.int .i64 0, .int .i64 0] 27)
  have E_2 := ((Two.new w2 25 (.slice A2 n2 c2) (.int .i64 (kf : Nat)))).alloc (.cells #[.int .i64 0, .int .i64 0] 27)
  have G_2 := (Two.new1 w2 (.cells #[.slice A2 n2 c2, .int .i64 (kf : Nat)] 25) 27 (.int .i64 0) (.int .i64 0))
  clear P_1 P_1_c0 P_1_c1 P_1_c2 R_1 X_1 X_1_c0 X_1_c1 X_1_c2 B_1 B_1_c0 B_1_c1 F_1 F_1_c0 F_1_c1
  have z2 := Z1.trans (y2.mono Z1.size)
  have Z2 := ((z2).alloc (by have := z2.size; omega) (.cells #[.slice A2 n2 c2, .int .i64 (kf : Nat)] 25)).alloc (by have := z2.size; simp; omega) (.cells #[.int .i64 0, .int .i64 0] 27)
  have P_2_c0 := P_2.c0
  have P_2_c1 := P_2.c1
  have P_2_c2 := P_2.c2
  have X_2_c0 := X_2.c0
  have X_2_c1 := X_2.c1
  have X_2_c2 := X_2.c2
  have B_2_c0 := B_2.c0
  have B_2_c1 := B_2.c1
  have F_2_c0 := F_2.c0
  have F_2_c1 := F_2.c1
  have E_2_c0 := E_2.c0
  have E_2_c1 := E_2.c1
  have G_2_c0 := G_2.c0
  have G_2_c1 := G_2.c1
  go_wp2_with fail
  refine (codes_true _).mono ?_
  rintro e w3 ⟨rfl, y3⟩
  have P_3 := P_2.on y3
  have R_3 := R_2.on y3
  have X_3 := X_2.on y3
  have B_3 := B_2.on y3
  have F_3 := F_2.on y3
  have E1_3 := E1_2.on y3
  have E_3 := E_2.on y3
  have G_3 := G_2.on y3
  clear P_2 P_2_c0 P_2_c1 P_2_c2 R_2 X_2 X_2_c0 X_2_c1 X_2_c2 B_2 B_2_c0 B_2_c1 F_2 F_2_c0 F_2_c1 E1_2 E_2 E_2_c0 E_2_c1 G_2 G_2_c0 G_2_c1
  have z3 := Z2.trans (y3.mono Z2.size)
  have Z3 := z3
  have P_3_c0 := P_3.c0
  have P_3_c1 := P_3.c1
  have P_3_c2 := P_3.c2
  have X_3_c0 := X_3.c0
  have X_3_c1 := X_3.c1
  have X_3_c2 := X_3.c2
  have B_3_c0 := B_3.c0
  have B_3_c1 := B_3.c1
  have F_3_c0 := F_3.c0
  have F_3_c1 := F_3.c1
  have E_3_c0 := E_3.c0
  have E_3_c1 := E_3.c1
  have G_3_c0 := G_3.c0
  have G_3_c1 := G_3.c1
  go_wp2_with fail
  refine (start_any _).mono ?_
  rintro e w4 ⟨rfl, y4⟩
  have P_4 := P_3.on y4
  have R_4 := R_3.on y4
  have X_4 := X_3.on y4
  have B_4 := B_3.on y4
  have F_4 := F_3.on y4
  have E1_4 := E1_3.on y4
  have E_4 := E_3.on y4
  have G_4 := G_3.on y4
  clear P_3 P_3_c0 P_3_c1 P_3_c2 R_3 X_3 X_3_c0 X_3_c1 X_3_c2 B_3 B_3_c0 B_3_c1 F_3 F_3_c0 F_3_c1 E1_3 E_3 E_3_c0 E_3_c1 G_3 G_3_c0 G_3_c1
  have z4 := Z3.trans (y4.mono Z3.size)
  have Z4 := z4
  have P_4_c0 := P_4.c0
  have P_4_c1 := P_4.c1
  have P_4_c2 := P_4.c2
  have X_4_c0 := X_4.c0
  have X_4_c1 := X_4.c1
  have X_4_c2 := X_4.c2
  have B_4_c0 := B_4.c0
  have B_4_c1 := B_4.c1
  have F_4_c0 := F_4.c0
  have F_4_c1 := F_4.c1
  have E_4_c0 := E_4.c0
  have E_4_c1 := E_4.c1
  have G_4_c0 := G_4.c0
  have G_4_c1 := G_4.c1
  go_wp2_with fail
  refine (HCK.out _).mono ?_
  rintro e w5 ⟨rfl, y5⟩
  have P_5 := P_4.on y5
  have R_5 := R_4.on y5
  have X_5 := X_4.on y5
  have B_5 := B_4.on y5
  have F_5 := F_4.on y5
  have E1_5 := E1_4.on y5
  have E_5 := E_4.on y5
  have G_5 := G_4.on y5
  clear P_4 P_4_c0 P_4_c1 P_4_c2 R_4 X_4 X_4_c0 X_4_c1 X_4_c2 B_4 B_4_c0 B_4_c1 F_4 F_4_c0 F_4_c1 E1_4 E_4 E_4_c0 E_4_c1 G_4 G_4_c0 G_4_c1
  have z5 := Z4.trans (y5.mono Z4.size)
  have Z5 := z5
  have P_5_c0 := P_5.c0
  have P_5_c1 := P_5.c1
  have P_5_c2 := P_5.c2
  have X_5_c0 := X_5.c0
  have X_5_c1 := X_5.c1
  have X_5_c2 := X_5.c2
  have B_5_c0 := B_5.c0
  have B_5_c1 := B_5.c1
  have F_5_c0 := F_5.c0
  have F_5_c1 := F_5.c1
  have E_5_c0 := E_5.c0
  have E_5_c1 := E_5.c1
  have G_5_c0 := G_5.c0
  have G_5_c1 := G_5.c1
  have P_6 := P_5.alloc (.cells #[.int .i64 0] 3)
  have R_6 := R_5.alloc (.cells #[.int .i64 0] 3)
  have X_6 := X_5.alloc (.cells #[.int .i64 0] 3)
  have B_6 := B_5.alloc (.cells #[.int .i64 0] 3)
  have F_6 := F_5.alloc (.cells #[.int .i64 0] 3)
  have E1_6 := E1_5.alloc (.cells #[.int .i64 0] 3)
  have E_6 := E_5.alloc (.cells #[.int .i64 0] 3)
  have G_6 := G_5.alloc (.cells #[.int .i64 0] 3)
  have K_6 := (show Rd (w5.alloc (.cells #[.int .i64 0] 3)) (some ⟨w5.heap.size, 0, none⟩) 1 1 (ncells [0]) from Rd.lit1 w5 rfl 0 3)
  have Z6 := Z5.alloc Z5.size (.cells #[.int .i64 0] 3)
  have P_6_c0 := P_6.c0
  have P_6_c1 := P_6.c1
  have P_6_c2 := P_6.c2
  have X_6_c0 := X_6.c0
  have X_6_c1 := X_6.c1
  have X_6_c2 := X_6.c2
  have B_6_c0 := B_6.c0
  have B_6_c1 := B_6.c1
  have F_6_c0 := F_6.c0
  have F_6_c1 := F_6.c1
  have E_6_c0 := E_6.c0
  have E_6_c1 := E_6.c1
  have G_6_c0 := G_6.c0
  have G_6_c1 := G_6.c1
  go_wp2_with fail
  refine (HSE.out _ _ _ _ K_6).mono ?_
  rintro e w7 ⟨A3, n3, c3, rfl, hn3, o3, y7⟩
  have P_7 := P_6.on y7
  have R_7 := R_6.on y7
  have X_7 := X_6.on y7
  have B_7 := B_6.on y7
  have F_7 := F_6.on y7
  have E1_7 := E1_6.on y7
  have E_7 := E_6.on y7
  have G_7 := G_6.on y7
  have O_7 := o3
  clear P_5 P_5_c0 P_5_c1 P_5_c2 R_5 X_5 X_5_c0 X_5_c1 X_5_c2 B_5 B_5_c0 B_5_c1 F_5 F_5_c0 F_5_c1 E1_5 E_5 E_5_c0 E_5_c1 G_5 G_5_c0 G_5_c1 P_6 P_6_c0 P_6_c1 P_6_c2 R_6 X_6 X_6_c0 X_6_c1 X_6_c2 B_6 B_6_c0 B_6_c1 F_6 F_6_c0 F_6_c1 E1_6 E_6 E_6_c0 E_6_c1 G_6 G_6_c0 G_6_c1 K_6
  have z7 := Z6.trans (y7.mono Z6.size)
  have Z7 := z7
  have P_7_c0 := P_7.c0
  have P_7_c1 := P_7.c1
  have P_7_c2 := P_7.c2
  have X_7_c0 := X_7.c0
  have X_7_c1 := X_7.c1
  have X_7_c2 := X_7.c2
  have B_7_c0 := B_7.c0
  have B_7_c1 := B_7.c1
  have F_7_c0 := F_7.c0
  have F_7_c1 := F_7.c1
  have E_7_c0 := E_7.c0
  have E_7_c1 := E_7.c1
  have G_7_c0 := G_7.c0
  have G_7_c1 := G_7.c1
  go_wp2_with fail
  go_region_held3 (fun w' => w'.cell? ⟨w2.heap.size + 1, 0, none⟩ = some (.int .i64 0) ∧ w'.cell? ⟨w2.heap.size + 1, 1, none⟩ = some (.int .i64 0) ∧ w'.cell? ⟨w2.heap.size, 0, none⟩ = some (.slice A2 n2 c2) ∧ w'.cell? ⟨w2.heap.size, 1, none⟩ = some (.int .i64 (kf : Nat))) (go_keep) (first | (go_at_call 15; refine (arpacked hn3 (Rd.own (own_drew O_7)) HC01.out (by rw [← HKF.out]; omega)).mono ?_; rintro e w8 ⟨A4, n4, c4, rfl, RP, y8⟩; have Y8 : Below w7.heap.size w7.drew w8 := y8; have G_8_c0 := ((Two.on (w := w7.drew) G_7 Y8)).c0; have G_8_c1 := ((Two.on (w := w7.drew) G_7 Y8)).c1; have E_8_c0 := ((Two.on (w := w7.drew) E_7 Y8)).c0; have E_8_c1 := ((Two.on (w := w7.drew) E_7 Y8)).c1) | (go_at_call 14; refine (api_same (Rd.on (w := w7.drew) E1_7 Y8) RP HC01.out HC01.out true (by simp) _ _ (by rw [← HKF.out]) (by rw [hn3])).mono ?_; rintro e w9 ⟨rfl, y9⟩; have Y9 := Y8.trans (y9.mono Y8.size); have G_9_c0 := ((Two.on (w := w7.drew) G_7 Y9)).c0; have G_9_c1 := ((Two.on (w := w7.drew) G_7 Y9)).c1; have E_9_c0 := ((Two.on (w := w7.drew) E_7 Y9)).c0; have E_9_c1 := ((Two.on (w := w7.drew) E_7 Y9)).c1))
  have P_9 := (Three.on (w := w7.drew) P_7 Y9)
  have R_9 := (Rd.on (w := w7.drew) R_7 Y9)
  have X_9 := (Three.on (w := w7.drew) X_7 Y9)
  have B_9 := (Two.on (w := w7.drew) B_7 Y9)
  have F_9 := (Two.on (w := w7.drew) F_7 Y9)
  have E1_9 := (Rd.on (w := w7.drew) E1_7 Y9)
  have E_9 := (Two.on (w := w7.drew) E_7 Y9)
  have G_9 := (Two.on (w := w7.drew) G_7 Y9)
  have O_9 := (own_on (w := w7.drew) O_7 Y9)
  have Z9 := (belowD Z7).trans (Y9.mono (belowD Z7).size)
  clear G_8_c0 G_8_c1 E_8_c0 E_8_c1 G_9_c0 G_9_c1 E_9_c0 E_9_c1
  clear P_7 P_7_c0 P_7_c1 P_7_c2 R_7 X_7 X_7_c0 X_7_c1 X_7_c2 B_7 B_7_c0 B_7_c1 F_7 F_7_c0 F_7_c1 E1_7 E_7 E_7_c0 E_7_c1 G_7 G_7_c0 G_7_c1 O_7
  have P_9_c0 := P_9.c0
  have P_9_c1 := P_9.c1
  have P_9_c2 := P_9.c2
  have X_9_c0 := X_9.c0
  have X_9_c1 := X_9.c1
  have X_9_c2 := X_9.c2
  have B_9_c0 := B_9.c0
  have B_9_c1 := B_9.c1
  have F_9_c0 := F_9.c0
  have F_9_c1 := F_9.c1
  have E_9_c0 := E_9.c0
  have E_9_c1 := E_9.c1
  have G_9_c0 := G_9.c0
  have G_9_c1 := G_9.c1
  clear G_9 G_9_c0 G_9_c1 E_9 E_9_c0 E_9_c1 E1_9 O_9
  have z9 := Z9
  have P_b := P_9
  have P_9q := P_9.alloc (.cells #[.int .i64 0, .int .i64 0] 27)
  have R_b := R_9
  have R_9q := R_9.alloc (.cells #[.int .i64 0, .int .i64 0] 27)
  have X_b := X_9
  have X_9q := X_9.alloc (.cells #[.int .i64 0, .int .i64 0] 27)
  have B_b := B_9
  have B_9q := B_9.alloc (.cells #[.int .i64 0, .int .i64 0] 27)
  have F_b := F_9
  have F_9q := F_9.alloc (.cells #[.int .i64 0, .int .i64 0] 27)
  have M_9q := Two.new w9 27 (.int .i64 0) (.int .i64 0)
  have CM_9q := (Below.refl w9.heap.size w9).alloc (Nat.le_refl _) (.cells #[.int .i64 0, .int .i64 0] 27)
  have Z9q := Z9.alloc Z9.size (.cells #[.int .i64 0, .int .i64 0] 27)
  clear P_9 P_9_c0 P_9_c1 P_9_c2 R_9 X_9 X_9_c0 X_9_c1 X_9_c2 B_9 B_9_c0 B_9_c1 F_9 F_9_c0 F_9_c1
  have P_9q_c0 := P_9q.c0
  have P_9q_c1 := P_9q.c1
  have P_9q_c2 := P_9q.c2
  have X_9q_c0 := X_9q.c0
  have X_9q_c1 := X_9q.c1
  have X_9q_c2 := X_9q.c2
  have B_9q_c0 := B_9q.c0
  have B_9q_c1 := B_9q.c1
  have F_9q_c0 := F_9q.c0
  have F_9q_c1 := F_9q.c1
  have M_9q_c0 := M_9q.c0
  have M_9q_c1 := M_9q.c1
  have M_9q_f0 := M_9q.f0
  have M_9q_f1 := M_9q.f1
  go_wp2_with fail
  refine (in_yes _ _ _ _ HP1.out HP2.out).mono ?_
  rintro e w9_1 ⟨rfl, rfl⟩
  go_wp2_with fail
  refine (HST.out _).mono ?_
  rintro e w10 ⟨A5, n5, c5, rfl, hn5, o5, y10⟩
  have P_10 := P_9q.on y10
  have R_10 := R_9q.on y10
  have X_10 := X_9q.on y10
  have B_10 := B_9q.on y10
  have F_10 := F_9q.on y10
  have M_10 := M_9q.on y10
  have T_10 := o5
  clear P_9q P_9q_c0 P_9q_c1 P_9q_c2 R_9q X_9q X_9q_c0 X_9q_c1 X_9q_c2 B_9q B_9q_c0 B_9q_c1 F_9q F_9q_c0 F_9q_c1 M_9q M_9q_c0 M_9q_c1 M_9q_f0 M_9q_f1
  have z10 := Z9q.trans (y10.mono Z9q.size)
  have Z10 := z10
  have cM10 := CM_9q.trans (y10.mono CM_9q.size)
  have CM_10 := cM10
  have P_10_c0 := P_10.c0
  have P_10_c1 := P_10.c1
  have P_10_c2 := P_10.c2
  have X_10_c0 := X_10.c0
  have X_10_c1 := X_10.c1
  have X_10_c2 := X_10.c2
  have B_10_c0 := B_10.c0
  have B_10_c1 := B_10.c1
  have F_10_c0 := F_10.c0
  have F_10_c1 := F_10.c1
  have M_10_c0 := M_10.c0
  have M_10_c1 := M_10.c1
  have M_10_f0 := M_10.f0
  have M_10_f1 := M_10.f1
  go_wp2_with fail
  refine (HS2.out _ _ _ _ (Rd.own T_10)).mono ?_
  rintro e w11 ⟨A6, n6, c6, rfl, hn6, o6, y11⟩
  have P_11 := P_10.on y11
  have R_11 := R_10.on y11
  have X_11 := X_10.on y11
  have B_11 := B_10.on y11
  have F_11 := F_10.on y11
  have M_11 := M_10.on y11
  have U_11 := o6
  clear P_10 P_10_c0 P_10_c1 P_10_c2 R_10 X_10 X_10_c0 X_10_c1 X_10_c2 B_10 B_10_c0 B_10_c1 F_10 F_10_c0 F_10_c1 M_10 M_10_c0 M_10_c1 M_10_f0 M_10_f1 T_10
  have z11 := Z10.trans (y11.mono Z10.size)
  have Z11 := z11
  have cM11 := CM_10.trans (y11.mono CM_10.size)
  have CM_11 := cM11
  have P_11_c0 := P_11.c0
  have P_11_c1 := P_11.c1
  have P_11_c2 := P_11.c2
  have X_11_c0 := X_11.c0
  have X_11_c1 := X_11.c1
  have X_11_c2 := X_11.c2
  have B_11_c0 := B_11.c0
  have B_11_c1 := B_11.c1
  have F_11_c0 := F_11.c0
  have F_11_c1 := F_11.c1
  have M_11_c0 := M_11.c0
  have M_11_c1 := M_11.c1
  have M_11_f0 := M_11.f0
  have M_11_f1 := M_11.f1
  go_wp2_with fail
  go_region_held3 (fun w' => w'.cell? ⟨w1.heap.size + 2, 0, none⟩ = some (.int .i64 0) ∧ w'.cell? ⟨w1.heap.size + 2, 1, none⟩ = some (.int .i64 0) ∧ w'.cell? ⟨w1.heap.size, 0, none⟩ = some (.int .i64 LO) ∧ w'.cell? ⟨w1.heap.size, 1, none⟩ = some (.int .i64 HI) ∧ w'.cell? ⟨w1.heap.size, 2, none⟩ = some (.int .i64 (Q : Nat)) ∧ w'.cell? ⟨w1.heap.size + 1, 0, none⟩ = some (.slice A1 n1 c1) ∧ w'.cell? ⟨w1.heap.size + 1, 1, none⟩ = some (.int .i64 (ks : Nat))) (go_keep) (first | (go_at_call 15; refine (arpacked (hn6) (Rd.own (own_drew U_11)) HS01.out (by rw [← HKS.out]; omega)).mono ?_; rintro e w12 ⟨A7, n7, c7, rfl, RQ, y12⟩; have Y12 : Below w11.heap.size w11.drew w12 := y12; have F_12_c0 := ((Two.on (w := w11.drew) F_11 Y12)).c0; have F_12_c1 := ((Two.on (w := w11.drew) F_11 Y12)).c1; have X_12_c0 := ((Three.on (w := w11.drew) X_11 Y12)).c0; have X_12_c1 := ((Three.on (w := w11.drew) X_11 Y12)).c1; have X_12_c2 := ((Three.on (w := w11.drew) X_11 Y12)).c2; have B_12_c0 := ((Two.on (w := w11.drew) B_11 Y12)).c0; have B_12_c1 := ((Two.on (w := w11.drew) B_11 Y12)).c1) | (go_at_call 14; refine (api_same (Rd.on (w := w11.drew) R_11 Y12) RQ HS01.out HS01.out true (by simp) _ _ (by rw [← HKS.out]) (by rw [hn6])).mono ?_; rintro e w13 ⟨rfl, y13⟩; have Y13 := Y12.trans (y13.mono Y12.size); have F_13_c0 := ((Two.on (w := w11.drew) F_11 Y13)).c0; have F_13_c1 := ((Two.on (w := w11.drew) F_11 Y13)).c1; have X_13_c0 := ((Three.on (w := w11.drew) X_11 Y13)).c0; have X_13_c1 := ((Three.on (w := w11.drew) X_11 Y13)).c1; have X_13_c2 := ((Three.on (w := w11.drew) X_11 Y13)).c2; have B_13_c0 := ((Two.on (w := w11.drew) B_11 Y13)).c0; have B_13_c1 := ((Two.on (w := w11.drew) B_11 Y13)).c1))
  have P_13 := (Three.on (w := w11.drew) P_11 Y13)
  have R_13 := (Rd.on (w := w11.drew) R_11 Y13)
  have X_13 := (Three.on (w := w11.drew) X_11 Y13)
  have B_13 := (Two.on (w := w11.drew) B_11 Y13)
  have F_13 := (Two.on (w := w11.drew) F_11 Y13)
  have M_13 := (Two.on (w := w11.drew) M_11 Y13)
  have U_13 := (own_on (w := w11.drew) U_11 Y13)
  have Z13 := (belowD Z11).trans (Y13.mono (belowD Z11).size)
  have CM_13 := (belowD CM_11).trans (Y13.mono (belowD CM_11).size)
  clear F_12_c0 F_12_c1 X_12_c0 X_12_c1 X_12_c2 B_12_c0 B_12_c1 F_13_c0 F_13_c1 X_13_c0 X_13_c1 X_13_c2 B_13_c0 B_13_c1
  clear P_11 P_11_c0 P_11_c1 P_11_c2 R_11 X_11 X_11_c0 X_11_c1 X_11_c2 B_11 B_11_c0 B_11_c1 F_11 F_11_c0 F_11_c1 M_11 M_11_c0 M_11_c1 M_11_f0 M_11_f1 U_11
  have P_13_c0 := P_13.c0
  have P_13_c1 := P_13.c1
  have P_13_c2 := P_13.c2
  have X_13_c0 := X_13.c0
  have X_13_c1 := X_13.c1
  have X_13_c2 := X_13.c2
  have B_13_c0 := B_13.c0
  have B_13_c1 := B_13.c1
  have F_13_c0 := F_13.c0
  have F_13_c1 := F_13.c1
  have M_13_c0 := M_13.c0
  have M_13_c1 := M_13.c1
  have M_13_f0 := M_13.f0
  have M_13_f1 := M_13.f1
  go_wp2
  go_ret
  exact ⟨rfl, Z13⟩
set_option maxRecDepth 100000 in
set_option maxHeartbeats 1600000 in
theorem ap_bit_h {lo hi b p : Int} {q : Nat} (hok : COk lo hi (q : Nat)) (hb : b ≠ 0 ∧ b ≠ 1) (hlast : ¬ lo < 16384) (w : World)  :
    Calls Try.prog 8 #[.agg #[.int .i64 lo, .int .i64 hi, .int .i64 (q : Nat)], .int .i64 b, .int .i64 p] w fun e w' => e = .returned (.bool true) ∧ Below w.heap.size w w' := by
  have hqq := hok.2.2
  have hb9 : 1 = if lo < 16384 then 0 else 1 := by rw [if_neg hlast]
  have HFI := Lib.hid (fun (W : World) => finish_ok hok 1 hb9 W)
  have HCK := Lib.hid (fun (W : World) => coderok_any lo hi (q : Nat) true ⟨fun _ => hok, fun _ => rfl⟩ W)
  obtain ⟨kf, hkf⟩ : ∃ kf, kf = (crt 1 (q + 1)).length := ⟨_, rfl⟩
  have hkf2 : kf ≤ q + 2 := by rw [hkf]; simp [crt]
  have hc01 : Is01 (crt 1 (q + 1)) := Is01.of_mem fun x hx => by have := crt_le (b := 1) (q := q + 1) (by decide) x hx; omega
  have HC01 := Lib.hid hc01
  have hsl : (sentf [2] (q + 1)) = (crt 1 (q + 1), 0) := by rw [sentf_other (by decide)]; simp [sentf]
  have HSE := Lib.hid (fun (W : World) (A9 : Option Addr) (n9 c9 : Nat) (hW : Rd W A9 n9 c9 (ncells [2])) => sent_any hW (by decide) (by decide) (q := q + 1) (by omega) (crt 1 (q + 1)) 0 (by rw [hsl]) (by rw [hsl]) ((q : Int) + 1) (by omega))
  rw [← hkf] at HFI
  have HKF := Lib.hid hkf
  have hlk : decide (lo < 16384) = false := by simpa using hlast
  obtain ⟨g0, g1⟩ := hb
  have k0 : (b != 0) = true := by simpa using g0
  have k1 : (b != 1) = true := by simpa using g1
  have HPU := Lib.hid (fun (W : World) => put_bit hok ⟨g0, g1⟩ p W)
  clear hok hlast hb9 hkf hc01 hsl g0 g1
  have P_0 := (Three.new w 50 (.int .i64 lo) (.int .i64 hi) (.int .i64 (q : Nat)))
  have Z0 := (Below.refl w.heap.size w).alloc (by simp) (.cells #[.int .i64 lo, .int .i64 hi, .int .i64 (q : Nat)] 50)
  have P_0_c0 := P_0.c0
  have P_0_c1 := P_0.c1
  have P_0_c2 := P_0.c2
  go_enter Try.func8, Try.ntmps8
  go_wp2_with fail
  refine (HPU.out _).mono ?_
  rintro e w1 ⟨rfl, y1⟩
  have P_1 := (((P_0.on y1).alloc (.cells #[.int .i64 0, .int .i64 0, .int .i64 0] 50)).alloc (.cells #[.slice none 0 0, .int .i64 0] 25)).alloc (.cells #[.int .i64 4, .int .i64 (-2)] 27)
  have X_1 := (((Three.new w1 50 (.int .i64 0) (.int .i64 0) (.int .i64 0))).alloc (.cells #[.slice none 0 0, .int .i64 0] 25)).alloc (.cells #[.int .i64 4, .int .i64 (-2)] 27)
  have B_1 := ((Two.new1 w1 (.cells #[.int .i64 0, .int .i64 0, .int .i64 0] 50) 25 (.slice none 0 0) (.int .i64 0))).alloc (.cells #[.int .i64 4, .int .i64 (-2)] 27)
  have F_1 := (Two.new2 w1 (.cells #[.int .i64 0, .int .i64 0, .int .i64 0] 50) (.cells #[.slice none 0 0, .int .i64 0] 25) 27 (.int .i64 4) (.int .i64 (-2)))
  clear P_0 P_0_c0 P_0_c1 P_0_c2
  have z1 := Z0.trans (y1.mono Z0.size)
  have Z1 := (((z1).alloc (by have := z1.size; omega) (.cells #[.int .i64 0, .int .i64 0, .int .i64 0] 50)).alloc (by have := z1.size; simp; omega) (.cells #[.slice none 0 0, .int .i64 0] 25)).alloc (by have := z1.size; simp; omega) (.cells #[.int .i64 4, .int .i64 (-2)] 27)
  have P_1_c0 := P_1.c0
  have P_1_c1 := P_1.c1
  have P_1_c2 := P_1.c2
  have X_1_c0 := X_1.c0
  have X_1_c1 := X_1.c1
  have X_1_c2 := X_1.c2
  have B_1_c0 := B_1.c0
  have B_1_c1 := B_1.c1
  have F_1_c0 := F_1.c0
  have F_1_c1 := F_1.c1
  go_wp2_with fail
  refine (HFI.out _).mono ?_
  rintro e w2 ⟨A2, n2, c2, rfl, R2, y2⟩
  have P_2 := ((P_1.on y2).alloc (.cells #[.slice A2 n2 c2, .int .i64 (kf : Nat)] 25)).alloc (.cells #[.int .i64 0, .int .i64 0] 27)
  have X_2 := ((X_1.on y2).alloc (.cells #[.slice A2 n2 c2, .int .i64 (kf : Nat)] 25)).alloc (.cells #[.int .i64 0, .int .i64 0] 27)
  have B_2 := ((B_1.on y2).alloc (.cells #[.slice A2 n2 c2, .int .i64 (kf : Nat)] 25)).alloc (.cells #[.int .i64 0, .int .i64 0] 27)
  have F_2 := ((F_1.on y2).alloc (.cells #[.slice A2 n2 c2, .int .i64 (kf : Nat)] 25)).alloc (.cells #[.int .i64 0, .int .i64 0] 27)
  have E1_2 := ((R2).alloc (.cells #[.slice A2 n2 c2, .int .i64 (kf : Nat)] 25)).alloc (.cells #[.int .i64 0, .int .i64 0] 27)
  have E_2 := ((Two.new w2 25 (.slice A2 n2 c2) (.int .i64 (kf : Nat)))).alloc (.cells #[.int .i64 0, .int .i64 0] 27)
  have G_2 := (Two.new1 w2 (.cells #[.slice A2 n2 c2, .int .i64 (kf : Nat)] 25) 27 (.int .i64 0) (.int .i64 0))
  clear P_1 P_1_c0 P_1_c1 P_1_c2 X_1 X_1_c0 X_1_c1 X_1_c2 B_1 B_1_c0 B_1_c1 F_1 F_1_c0 F_1_c1
  have z2 := Z1.trans (y2.mono Z1.size)
  have Z2 := ((z2).alloc (by have := z2.size; omega) (.cells #[.slice A2 n2 c2, .int .i64 (kf : Nat)] 25)).alloc (by have := z2.size; simp; omega) (.cells #[.int .i64 0, .int .i64 0] 27)
  have P_2_c0 := P_2.c0
  have P_2_c1 := P_2.c1
  have P_2_c2 := P_2.c2
  have X_2_c0 := X_2.c0
  have X_2_c1 := X_2.c1
  have X_2_c2 := X_2.c2
  have B_2_c0 := B_2.c0
  have B_2_c1 := B_2.c1
  have F_2_c0 := F_2.c0
  have F_2_c1 := F_2.c1
  have E_2_c0 := E_2.c0
  have E_2_c1 := E_2.c1
  have G_2_c0 := G_2.c0
  have G_2_c1 := G_2.c1
  go_wp2_with fail
  refine (codes_true _).mono ?_
  rintro e w3 ⟨rfl, y3⟩
  have P_3 := P_2.on y3
  have X_3 := X_2.on y3
  have B_3 := B_2.on y3
  have F_3 := F_2.on y3
  have E1_3 := E1_2.on y3
  have E_3 := E_2.on y3
  have G_3 := G_2.on y3
  clear P_2 P_2_c0 P_2_c1 P_2_c2 X_2 X_2_c0 X_2_c1 X_2_c2 B_2 B_2_c0 B_2_c1 F_2 F_2_c0 F_2_c1 E1_2 E_2 E_2_c0 E_2_c1 G_2 G_2_c0 G_2_c1
  have z3 := Z2.trans (y3.mono Z2.size)
  have Z3 := z3
  have P_3_c0 := P_3.c0
  have P_3_c1 := P_3.c1
  have P_3_c2 := P_3.c2
  have X_3_c0 := X_3.c0
  have X_3_c1 := X_3.c1
  have X_3_c2 := X_3.c2
  have B_3_c0 := B_3.c0
  have B_3_c1 := B_3.c1
  have F_3_c0 := F_3.c0
  have F_3_c1 := F_3.c1
  have E_3_c0 := E_3.c0
  have E_3_c1 := E_3.c1
  have G_3_c0 := G_3.c0
  have G_3_c1 := G_3.c1
  go_wp2_with fail
  refine (start_any _).mono ?_
  rintro e w4 ⟨rfl, y4⟩
  have P_4 := P_3.on y4
  have X_4 := X_3.on y4
  have B_4 := B_3.on y4
  have F_4 := F_3.on y4
  have E1_4 := E1_3.on y4
  have E_4 := E_3.on y4
  have G_4 := G_3.on y4
  clear P_3 P_3_c0 P_3_c1 P_3_c2 X_3 X_3_c0 X_3_c1 X_3_c2 B_3 B_3_c0 B_3_c1 F_3 F_3_c0 F_3_c1 E1_3 E_3 E_3_c0 E_3_c1 G_3 G_3_c0 G_3_c1
  have z4 := Z3.trans (y4.mono Z3.size)
  have Z4 := z4
  have P_4_c0 := P_4.c0
  have P_4_c1 := P_4.c1
  have P_4_c2 := P_4.c2
  have X_4_c0 := X_4.c0
  have X_4_c1 := X_4.c1
  have X_4_c2 := X_4.c2
  have B_4_c0 := B_4.c0
  have B_4_c1 := B_4.c1
  have F_4_c0 := F_4.c0
  have F_4_c1 := F_4.c1
  have E_4_c0 := E_4.c0
  have E_4_c1 := E_4.c1
  have G_4_c0 := G_4.c0
  have G_4_c1 := G_4.c1
  go_wp2_with fail
  refine (HCK.out _).mono ?_
  rintro e w5 ⟨rfl, y5⟩
  have P_5 := P_4.on y5
  have X_5 := X_4.on y5
  have B_5 := B_4.on y5
  have F_5 := F_4.on y5
  have E1_5 := E1_4.on y5
  have E_5 := E_4.on y5
  have G_5 := G_4.on y5
  clear P_4 P_4_c0 P_4_c1 P_4_c2 X_4 X_4_c0 X_4_c1 X_4_c2 B_4 B_4_c0 B_4_c1 F_4 F_4_c0 F_4_c1 E1_4 E_4 E_4_c0 E_4_c1 G_4 G_4_c0 G_4_c1
  have z5 := Z4.trans (y5.mono Z4.size)
  have Z5 := z5
  have P_5_c0 := P_5.c0
  have P_5_c1 := P_5.c1
  have P_5_c2 := P_5.c2
  have X_5_c0 := X_5.c0
  have X_5_c1 := X_5.c1
  have X_5_c2 := X_5.c2
  have B_5_c0 := B_5.c0
  have B_5_c1 := B_5.c1
  have F_5_c0 := F_5.c0
  have F_5_c1 := F_5.c1
  have E_5_c0 := E_5.c0
  have E_5_c1 := E_5.c1
  have G_5_c0 := G_5.c0
  have G_5_c1 := G_5.c1
  have P_6 := P_5.alloc (.cells #[.int .i64 2] 3)
  have X_6 := X_5.alloc (.cells #[.int .i64 2] 3)
  have B_6 := B_5.alloc (.cells #[.int .i64 2] 3)
  have F_6 := F_5.alloc (.cells #[.int .i64 2] 3)
  have E1_6 := E1_5.alloc (.cells #[.int .i64 2] 3)
  have E_6 := E_5.alloc (.cells #[.int .i64 2] 3)
  have G_6 := G_5.alloc (.cells #[.int .i64 2] 3)
  have K_6 := (show Rd (w5.alloc (.cells #[.int .i64 2] 3)) (some ⟨w5.heap.size, 0, none⟩) 1 1 (ncells [2]) from Rd.lit1 w5 rfl 2 3)
  have Z6 := Z5.alloc Z5.size (.cells #[.int .i64 2] 3)
  have P_6_c0 := P_6.c0
  have P_6_c1 := P_6.c1
  have P_6_c2 := P_6.c2
  have X_6_c0 := X_6.c0
  have X_6_c1 := X_6.c1
  have X_6_c2 := X_6.c2
  have B_6_c0 := B_6.c0
  have B_6_c1 := B_6.c1
  have F_6_c0 := F_6.c0
  have F_6_c1 := F_6.c1
  have E_6_c0 := E_6.c0
  have E_6_c1 := E_6.c1
  have G_6_c0 := G_6.c0
  have G_6_c1 := G_6.c1
  go_wp2_with fail
  refine (HSE.out _ _ _ _ K_6).mono ?_
  rintro e w7 ⟨A3, n3, c3, rfl, hn3, o3, y7⟩
  have P_7 := P_6.on y7
  have X_7 := X_6.on y7
  have B_7 := B_6.on y7
  have F_7 := F_6.on y7
  have E1_7 := E1_6.on y7
  have E_7 := E_6.on y7
  have G_7 := G_6.on y7
  have O_7 := o3
  clear P_5 P_5_c0 P_5_c1 P_5_c2 X_5 X_5_c0 X_5_c1 X_5_c2 B_5 B_5_c0 B_5_c1 F_5 F_5_c0 F_5_c1 E1_5 E_5 E_5_c0 E_5_c1 G_5 G_5_c0 G_5_c1 P_6 P_6_c0 P_6_c1 P_6_c2 X_6 X_6_c0 X_6_c1 X_6_c2 B_6 B_6_c0 B_6_c1 F_6 F_6_c0 F_6_c1 E1_6 E_6 E_6_c0 E_6_c1 G_6 G_6_c0 G_6_c1 K_6
  have z7 := Z6.trans (y7.mono Z6.size)
  have Z7 := z7
  have P_7_c0 := P_7.c0
  have P_7_c1 := P_7.c1
  have P_7_c2 := P_7.c2
  have X_7_c0 := X_7.c0
  have X_7_c1 := X_7.c1
  have X_7_c2 := X_7.c2
  have B_7_c0 := B_7.c0
  have B_7_c1 := B_7.c1
  have F_7_c0 := F_7.c0
  have F_7_c1 := F_7.c1
  have E_7_c0 := E_7.c0
  have E_7_c1 := E_7.c1
  have G_7_c0 := G_7.c0
  have G_7_c1 := G_7.c1
  go_wp2_with fail
  go_region_held3 (fun w' => w'.cell? ⟨w2.heap.size + 1, 0, none⟩ = some (.int .i64 0) ∧ w'.cell? ⟨w2.heap.size + 1, 1, none⟩ = some (.int .i64 0) ∧ w'.cell? ⟨w2.heap.size, 0, none⟩ = some (.slice A2 n2 c2) ∧ w'.cell? ⟨w2.heap.size, 1, none⟩ = some (.int .i64 (kf : Nat))) (go_keep) (first | (go_at_call 15; refine (arpacked hn3 (Rd.own (own_drew O_7)) HC01.out (by rw [← HKF.out]; omega)).mono ?_; rintro e w8 ⟨A4, n4, c4, rfl, RP, y8⟩; have Y8 : Below w7.heap.size w7.drew w8 := y8; have G_8_c0 := ((Two.on (w := w7.drew) G_7 Y8)).c0; have G_8_c1 := ((Two.on (w := w7.drew) G_7 Y8)).c1; have E_8_c0 := ((Two.on (w := w7.drew) E_7 Y8)).c0; have E_8_c1 := ((Two.on (w := w7.drew) E_7 Y8)).c1) | (go_at_call 14; refine (api_same (Rd.on (w := w7.drew) E1_7 Y8) RP HC01.out HC01.out true (by simp) _ _ (by rw [← HKF.out]) (by rw [hn3])).mono ?_; rintro e w9 ⟨rfl, y9⟩; have Y9 := Y8.trans (y9.mono Y8.size); have G_9_c0 := ((Two.on (w := w7.drew) G_7 Y9)).c0; have G_9_c1 := ((Two.on (w := w7.drew) G_7 Y9)).c1; have E_9_c0 := ((Two.on (w := w7.drew) E_7 Y9)).c0; have E_9_c1 := ((Two.on (w := w7.drew) E_7 Y9)).c1))
  have P_9 := (Three.on (w := w7.drew) P_7 Y9)
  have X_9 := (Three.on (w := w7.drew) X_7 Y9)
  have B_9 := (Two.on (w := w7.drew) B_7 Y9)
  have F_9 := (Two.on (w := w7.drew) F_7 Y9)
  have E1_9 := (Rd.on (w := w7.drew) E1_7 Y9)
  have E_9 := (Two.on (w := w7.drew) E_7 Y9)
  have G_9 := (Two.on (w := w7.drew) G_7 Y9)
  have O_9 := (own_on (w := w7.drew) O_7 Y9)
  have Z9 := (belowD Z7).trans (Y9.mono (belowD Z7).size)
  clear G_8_c0 G_8_c1 E_8_c0 E_8_c1 G_9_c0 G_9_c1 E_9_c0 E_9_c1
  clear P_7 P_7_c0 P_7_c1 P_7_c2 X_7 X_7_c0 X_7_c1 X_7_c2 B_7 B_7_c0 B_7_c1 F_7 F_7_c0 F_7_c1 E1_7 E_7 E_7_c0 E_7_c1 G_7 G_7_c0 G_7_c1 O_7
  have P_9_c0 := P_9.c0
  have P_9_c1 := P_9.c1
  have P_9_c2 := P_9.c2
  have X_9_c0 := X_9.c0
  have X_9_c1 := X_9.c1
  have X_9_c2 := X_9.c2
  have B_9_c0 := B_9.c0
  have B_9_c1 := B_9.c1
  have F_9_c0 := F_9.c0
  have F_9_c1 := F_9.c1
  have E_9_c0 := E_9.c0
  have E_9_c1 := E_9.c1
  have G_9_c0 := G_9.c0
  have G_9_c1 := G_9.c1
  clear G_9 G_9_c0 G_9_c1 E_9 E_9_c0 E_9_c1 E1_9 O_9
  have z9 := Z9
  have P_b := P_9
  have P_9q := P_9.alloc (.cells #[.int .i64 0, .int .i64 0] 27)
  have X_b := X_9
  have X_9q := X_9.alloc (.cells #[.int .i64 0, .int .i64 0] 27)
  have B_b := B_9
  have B_9q := B_9.alloc (.cells #[.int .i64 0, .int .i64 0] 27)
  have F_b := F_9
  have F_9q := F_9.alloc (.cells #[.int .i64 0, .int .i64 0] 27)
  have M_9q := Two.new w9 27 (.int .i64 0) (.int .i64 0)
  have CM_9q := (Below.refl w9.heap.size w9).alloc (Nat.le_refl _) (.cells #[.int .i64 0, .int .i64 0] 27)
  have Z9q := Z9.alloc Z9.size (.cells #[.int .i64 0, .int .i64 0] 27)
  clear P_9 P_9_c0 P_9_c1 P_9_c2 X_9 X_9_c0 X_9_c1 X_9_c2 B_9 B_9_c0 B_9_c1 F_9 F_9_c0 F_9_c1
  have P_9q_c0 := P_9q.c0
  have P_9q_c1 := P_9q.c1
  have P_9q_c2 := P_9q.c2
  have X_9q_c0 := X_9q.c0
  have X_9q_c1 := X_9q.c1
  have X_9q_c2 := X_9q.c2
  have B_9q_c0 := B_9q.c0
  have B_9q_c1 := B_9q.c1
  have F_9q_c0 := F_9q.c0
  have F_9q_c1 := F_9q.c1
  have M_9q_c0 := M_9q.c0
  have M_9q_c1 := M_9q.c1
  have M_9q_f0 := M_9q.f0
  have M_9q_f1 := M_9q.f1
  go_wp2_with fail
  refine (refat_any _ _ _).mono ?_
  rintro e w10 ⟨rfl, y10⟩
  have P_10 := P_9q.on y10
  have X_10 := X_9q.on y10
  have B_10 := B_9q.on y10
  have F_10 := F_9q.on y10
  have M_10 := M_9q.on y10
  clear P_9q P_9q_c0 P_9q_c1 P_9q_c2 X_9q X_9q_c0 X_9q_c1 X_9q_c2 B_9q B_9q_c0 B_9q_c1 F_9q F_9q_c0 F_9q_c1 M_9q M_9q_c0 M_9q_c1 M_9q_f0 M_9q_f1
  have z10 := Z9q.trans (y10.mono Z9q.size)
  have Z10 := z10
  have cM10 := CM_9q.trans (y10.mono CM_9q.size)
  have CM_10 := cM10
  have P_10_c0 := P_10.c0
  have P_10_c1 := P_10.c1
  have P_10_c2 := P_10.c2
  have X_10_c0 := X_10.c0
  have X_10_c1 := X_10.c1
  have X_10_c2 := X_10.c2
  have B_10_c0 := B_10.c0
  have B_10_c1 := B_10.c1
  have F_10_c0 := F_10.c0
  have F_10_c1 := F_10.c1
  have M_10_c0 := M_10.c0
  have M_10_c1 := M_10.c1
  have M_10_f0 := M_10.f0
  have M_10_f1 := M_10.f1
  have CM_11 := (CM_10.setCell (p := ⟨w9.heap.size, 0, none⟩) (by simp) (.int .i64 4)).setCell (p := ⟨w9.heap.size, 1, none⟩) (by simp) (.int .i64 (-2))
  have Z11 := (Z10.setCell (p := ⟨w9.heap.size, 0, none⟩) (by have := z9.size; simp; omega) (.int .i64 4)).setCell (p := ⟨w9.heap.size, 1, none⟩) (by have := z9.size; simp; omega) (.int .i64 (-2))
  have P_11 := P_b.on CM_11
  have X_11 := X_b.on CM_11
  have B_11 := B_b.on CM_11
  have F_11 := F_b.on CM_11
  have M_11 := (M_10.set0 (.int .i64 4)).set1 (.int .i64 (-2))
  have P_11_c0 := P_11.c0
  have P_11_c1 := P_11.c1
  have P_11_c2 := P_11.c2
  have X_11_c0 := X_11.c0
  have X_11_c1 := X_11.c1
  have X_11_c2 := X_11.c2
  have B_11_c0 := B_11.c0
  have B_11_c1 := B_11.c1
  have F_11_c0 := F_11.c0
  have F_11_c1 := F_11.c1
  have M_11_c0 := M_11.c0
  have M_11_c1 := M_11.c1
  have M_11_f0 := M_11.f0
  have M_11_f1 := M_11.f1
  go_wp2_with fail
  refine (api_same (l := []) (l2 := []) (Rd.none_ _) (Rd.none_ _) Is01.nil Is01.nil true (by simp) _ _ rfl rfl).mono ?_
  rintro e w12 ⟨rfl, y12⟩
  have P_12 := P_11.on y12
  have X_12 := X_11.on y12
  have B_12 := B_11.on y12
  have F_12 := F_11.on y12
  have M_12 := M_11.on y12
  clear P_10 P_10_c0 P_10_c1 P_10_c2 X_10 X_10_c0 X_10_c1 X_10_c2 B_10 B_10_c0 B_10_c1 F_10 F_10_c0 F_10_c1 M_10 M_10_c0 M_10_c1 M_10_f0 M_10_f1 P_11 P_11_c0 P_11_c1 P_11_c2 X_11 X_11_c0 X_11_c1 X_11_c2 B_11 B_11_c0 B_11_c1 F_11 F_11_c0 F_11_c1 M_11 M_11_c0 M_11_c1 M_11_f0 M_11_f1
  have z12 := Z11.trans (y12.mono Z11.size)
  have Z12 := z12
  have cM12 := CM_11.trans (y12.mono CM_11.size)
  have CM_12 := cM12
  have P_12_c0 := P_12.c0
  have P_12_c1 := P_12.c1
  have P_12_c2 := P_12.c2
  have X_12_c0 := X_12.c0
  have X_12_c1 := X_12.c1
  have X_12_c2 := X_12.c2
  have B_12_c0 := B_12.c0
  have B_12_c1 := B_12.c1
  have F_12_c0 := F_12.c0
  have F_12_c1 := F_12.c1
  have M_12_c0 := M_12.c0
  have M_12_c1 := M_12.c1
  have M_12_f0 := M_12.f0
  have M_12_f1 := M_12.f1
  go_wp2
  go_ret
  exact ⟨rfl, Z12⟩
set_option maxRecDepth 100000 in
set_option maxHeartbeats 1600000 in
theorem ap_prob0_h {lo hi p : Int} {q : Nat} (hok : COk lo hi (q : Nat)) (hp : ¬ (1 ≤ p ∧ p ≤ 4095)) (hlast : ¬ lo < 16384) (w : World)  :
    Calls Try.prog 8 #[.agg #[.int .i64 lo, .int .i64 hi, .int .i64 (q : Nat)], .int .i64 (0 : Int), .int .i64 p] w fun e w' => e = .returned (.bool true) ∧ Below w.heap.size w w' := by
  have hqq := hok.2.2
  have hb9 : 1 = if lo < 16384 then 0 else 1 := by rw [if_neg hlast]
  have HFI := Lib.hid (fun (W : World) => finish_ok hok 1 hb9 W)
  have HCK := Lib.hid (fun (W : World) => coderok_any lo hi (q : Nat) true ⟨fun _ => hok, fun _ => rfl⟩ W)
  obtain ⟨kf, hkf⟩ : ∃ kf, kf = (crt 1 (q + 1)).length := ⟨_, rfl⟩
  have hkf2 : kf ≤ q + 2 := by rw [hkf]; simp [crt]
  have hc01 : Is01 (crt 1 (q + 1)) := Is01.of_mem fun x hx => by have := crt_le (b := 1) (q := q + 1) (by decide) x hx; omega
  have HC01 := Lib.hid hc01
  have hsl : (sentf [2] (q + 1)) = (crt 1 (q + 1), 0) := by rw [sentf_other (by decide)]; simp [sentf]
  have HSE := Lib.hid (fun (W : World) (A9 : Option Addr) (n9 c9 : Nat) (hW : Rd W A9 n9 c9 (ncells [2])) => sent_any hW (by decide) (by decide) (q := q + 1) (by omega) (crt 1 (q + 1)) 0 (by rw [hsl]) (by rw [hsl]) ((q : Int) + 1) (by omega))
  rw [← hkf] at HFI
  have HKF := Lib.hid hkf
  have hlk : decide (lo < 16384) = false := by simpa using hlast
  have k0 : ((0 : Int) != 0) = false := rfl
  have HPU := Lib.hid (fun (W : World) => put_prob_any hok (b := 0) (.inl rfl) hp W)
  have HPR := Lib.hid (show p < 1 ∨ 4095 < p by omega)
  clear hok hlast hb9 hkf hc01 hsl hp
  have P_0 := (Three.new w 50 (.int .i64 lo) (.int .i64 hi) (.int .i64 (q : Nat)))
  have Z0 := (Below.refl w.heap.size w).alloc (by simp) (.cells #[.int .i64 lo, .int .i64 hi, .int .i64 (q : Nat)] 50)
  have P_0_c0 := P_0.c0
  have P_0_c1 := P_0.c1
  have P_0_c2 := P_0.c2
  go_enter Try.func8, Try.ntmps8
  go_wp2_with fail
  refine (HPU.out _).mono ?_
  rintro e w1 ⟨rfl, y1⟩
  have P_1 := (((P_0.on y1).alloc (.cells #[.int .i64 0, .int .i64 0, .int .i64 0] 50)).alloc (.cells #[.slice none 0 0, .int .i64 0] 25)).alloc (.cells #[.int .i64 4, .int .i64 (-3)] 27)
  have X_1 := (((Three.new w1 50 (.int .i64 0) (.int .i64 0) (.int .i64 0))).alloc (.cells #[.slice none 0 0, .int .i64 0] 25)).alloc (.cells #[.int .i64 4, .int .i64 (-3)] 27)
  have B_1 := ((Two.new1 w1 (.cells #[.int .i64 0, .int .i64 0, .int .i64 0] 50) 25 (.slice none 0 0) (.int .i64 0))).alloc (.cells #[.int .i64 4, .int .i64 (-3)] 27)
  have F_1 := (Two.new2 w1 (.cells #[.int .i64 0, .int .i64 0, .int .i64 0] 50) (.cells #[.slice none 0 0, .int .i64 0] 25) 27 (.int .i64 4) (.int .i64 (-3)))
  clear P_0 P_0_c0 P_0_c1 P_0_c2
  have z1 := Z0.trans (y1.mono Z0.size)
  have Z1 := (((z1).alloc (by have := z1.size; omega) (.cells #[.int .i64 0, .int .i64 0, .int .i64 0] 50)).alloc (by have := z1.size; simp; omega) (.cells #[.slice none 0 0, .int .i64 0] 25)).alloc (by have := z1.size; simp; omega) (.cells #[.int .i64 4, .int .i64 (-3)] 27)
  have P_1_c0 := P_1.c0
  have P_1_c1 := P_1.c1
  have P_1_c2 := P_1.c2
  have X_1_c0 := X_1.c0
  have X_1_c1 := X_1.c1
  have X_1_c2 := X_1.c2
  have B_1_c0 := B_1.c0
  have B_1_c1 := B_1.c1
  have F_1_c0 := F_1.c0
  have F_1_c1 := F_1.c1
  go_wp2_with fail
  refine (HFI.out _).mono ?_
  rintro e w2 ⟨A2, n2, c2, rfl, R2, y2⟩
  have P_2 := ((P_1.on y2).alloc (.cells #[.slice A2 n2 c2, .int .i64 (kf : Nat)] 25)).alloc (.cells #[.int .i64 0, .int .i64 0] 27)
  have X_2 := ((X_1.on y2).alloc (.cells #[.slice A2 n2 c2, .int .i64 (kf : Nat)] 25)).alloc (.cells #[.int .i64 0, .int .i64 0] 27)
  have B_2 := ((B_1.on y2).alloc (.cells #[.slice A2 n2 c2, .int .i64 (kf : Nat)] 25)).alloc (.cells #[.int .i64 0, .int .i64 0] 27)
  have F_2 := ((F_1.on y2).alloc (.cells #[.slice A2 n2 c2, .int .i64 (kf : Nat)] 25)).alloc (.cells #[.int .i64 0, .int .i64 0] 27)
  have E1_2 := ((R2).alloc (.cells #[.slice A2 n2 c2, .int .i64 (kf : Nat)] 25)).alloc (.cells #[.int .i64 0, .int .i64 0] 27)
  have E_2 := ((Two.new w2 25 (.slice A2 n2 c2) (.int .i64 (kf : Nat)))).alloc (.cells #[.int .i64 0, .int .i64 0] 27)
  have G_2 := (Two.new1 w2 (.cells #[.slice A2 n2 c2, .int .i64 (kf : Nat)] 25) 27 (.int .i64 0) (.int .i64 0))
  clear P_1 P_1_c0 P_1_c1 P_1_c2 X_1 X_1_c0 X_1_c1 X_1_c2 B_1 B_1_c0 B_1_c1 F_1 F_1_c0 F_1_c1
  have z2 := Z1.trans (y2.mono Z1.size)
  have Z2 := ((z2).alloc (by have := z2.size; omega) (.cells #[.slice A2 n2 c2, .int .i64 (kf : Nat)] 25)).alloc (by have := z2.size; simp; omega) (.cells #[.int .i64 0, .int .i64 0] 27)
  have P_2_c0 := P_2.c0
  have P_2_c1 := P_2.c1
  have P_2_c2 := P_2.c2
  have X_2_c0 := X_2.c0
  have X_2_c1 := X_2.c1
  have X_2_c2 := X_2.c2
  have B_2_c0 := B_2.c0
  have B_2_c1 := B_2.c1
  have F_2_c0 := F_2.c0
  have F_2_c1 := F_2.c1
  have E_2_c0 := E_2.c0
  have E_2_c1 := E_2.c1
  have G_2_c0 := G_2.c0
  have G_2_c1 := G_2.c1
  go_wp2_with fail
  refine (codes_true _).mono ?_
  rintro e w3 ⟨rfl, y3⟩
  have P_3 := P_2.on y3
  have X_3 := X_2.on y3
  have B_3 := B_2.on y3
  have F_3 := F_2.on y3
  have E1_3 := E1_2.on y3
  have E_3 := E_2.on y3
  have G_3 := G_2.on y3
  clear P_2 P_2_c0 P_2_c1 P_2_c2 X_2 X_2_c0 X_2_c1 X_2_c2 B_2 B_2_c0 B_2_c1 F_2 F_2_c0 F_2_c1 E1_2 E_2 E_2_c0 E_2_c1 G_2 G_2_c0 G_2_c1
  have z3 := Z2.trans (y3.mono Z2.size)
  have Z3 := z3
  have P_3_c0 := P_3.c0
  have P_3_c1 := P_3.c1
  have P_3_c2 := P_3.c2
  have X_3_c0 := X_3.c0
  have X_3_c1 := X_3.c1
  have X_3_c2 := X_3.c2
  have B_3_c0 := B_3.c0
  have B_3_c1 := B_3.c1
  have F_3_c0 := F_3.c0
  have F_3_c1 := F_3.c1
  have E_3_c0 := E_3.c0
  have E_3_c1 := E_3.c1
  have G_3_c0 := G_3.c0
  have G_3_c1 := G_3.c1
  go_wp2_with fail
  refine (start_any _).mono ?_
  rintro e w4 ⟨rfl, y4⟩
  have P_4 := P_3.on y4
  have X_4 := X_3.on y4
  have B_4 := B_3.on y4
  have F_4 := F_3.on y4
  have E1_4 := E1_3.on y4
  have E_4 := E_3.on y4
  have G_4 := G_3.on y4
  clear P_3 P_3_c0 P_3_c1 P_3_c2 X_3 X_3_c0 X_3_c1 X_3_c2 B_3 B_3_c0 B_3_c1 F_3 F_3_c0 F_3_c1 E1_3 E_3 E_3_c0 E_3_c1 G_3 G_3_c0 G_3_c1
  have z4 := Z3.trans (y4.mono Z3.size)
  have Z4 := z4
  have P_4_c0 := P_4.c0
  have P_4_c1 := P_4.c1
  have P_4_c2 := P_4.c2
  have X_4_c0 := X_4.c0
  have X_4_c1 := X_4.c1
  have X_4_c2 := X_4.c2
  have B_4_c0 := B_4.c0
  have B_4_c1 := B_4.c1
  have F_4_c0 := F_4.c0
  have F_4_c1 := F_4.c1
  have E_4_c0 := E_4.c0
  have E_4_c1 := E_4.c1
  have G_4_c0 := G_4.c0
  have G_4_c1 := G_4.c1
  go_wp2_with fail
  refine (HCK.out _).mono ?_
  rintro e w5 ⟨rfl, y5⟩
  have P_5 := P_4.on y5
  have X_5 := X_4.on y5
  have B_5 := B_4.on y5
  have F_5 := F_4.on y5
  have E1_5 := E1_4.on y5
  have E_5 := E_4.on y5
  have G_5 := G_4.on y5
  clear P_4 P_4_c0 P_4_c1 P_4_c2 X_4 X_4_c0 X_4_c1 X_4_c2 B_4 B_4_c0 B_4_c1 F_4 F_4_c0 F_4_c1 E1_4 E_4 E_4_c0 E_4_c1 G_4 G_4_c0 G_4_c1
  have z5 := Z4.trans (y5.mono Z4.size)
  have Z5 := z5
  have P_5_c0 := P_5.c0
  have P_5_c1 := P_5.c1
  have P_5_c2 := P_5.c2
  have X_5_c0 := X_5.c0
  have X_5_c1 := X_5.c1
  have X_5_c2 := X_5.c2
  have B_5_c0 := B_5.c0
  have B_5_c1 := B_5.c1
  have F_5_c0 := F_5.c0
  have F_5_c1 := F_5.c1
  have E_5_c0 := E_5.c0
  have E_5_c1 := E_5.c1
  have G_5_c0 := G_5.c0
  have G_5_c1 := G_5.c1
  have P_6 := P_5.alloc (.cells #[.int .i64 2] 3)
  have X_6 := X_5.alloc (.cells #[.int .i64 2] 3)
  have B_6 := B_5.alloc (.cells #[.int .i64 2] 3)
  have F_6 := F_5.alloc (.cells #[.int .i64 2] 3)
  have E1_6 := E1_5.alloc (.cells #[.int .i64 2] 3)
  have E_6 := E_5.alloc (.cells #[.int .i64 2] 3)
  have G_6 := G_5.alloc (.cells #[.int .i64 2] 3)
  have K_6 := (show Rd (w5.alloc (.cells #[.int .i64 2] 3)) (some ⟨w5.heap.size, 0, none⟩) 1 1 (ncells [2]) from Rd.lit1 w5 rfl 2 3)
  have Z6 := Z5.alloc Z5.size (.cells #[.int .i64 2] 3)
  have P_6_c0 := P_6.c0
  have P_6_c1 := P_6.c1
  have P_6_c2 := P_6.c2
  have X_6_c0 := X_6.c0
  have X_6_c1 := X_6.c1
  have X_6_c2 := X_6.c2
  have B_6_c0 := B_6.c0
  have B_6_c1 := B_6.c1
  have F_6_c0 := F_6.c0
  have F_6_c1 := F_6.c1
  have E_6_c0 := E_6.c0
  have E_6_c1 := E_6.c1
  have G_6_c0 := G_6.c0
  have G_6_c1 := G_6.c1
  go_wp2_with fail
  refine (HSE.out _ _ _ _ K_6).mono ?_
  rintro e w7 ⟨A3, n3, c3, rfl, hn3, o3, y7⟩
  have P_7 := P_6.on y7
  have X_7 := X_6.on y7
  have B_7 := B_6.on y7
  have F_7 := F_6.on y7
  have E1_7 := E1_6.on y7
  have E_7 := E_6.on y7
  have G_7 := G_6.on y7
  have O_7 := o3
  clear P_5 P_5_c0 P_5_c1 P_5_c2 X_5 X_5_c0 X_5_c1 X_5_c2 B_5 B_5_c0 B_5_c1 F_5 F_5_c0 F_5_c1 E1_5 E_5 E_5_c0 E_5_c1 G_5 G_5_c0 G_5_c1 P_6 P_6_c0 P_6_c1 P_6_c2 X_6 X_6_c0 X_6_c1 X_6_c2 B_6 B_6_c0 B_6_c1 F_6 F_6_c0 F_6_c1 E1_6 E_6 E_6_c0 E_6_c1 G_6 G_6_c0 G_6_c1 K_6
  have z7 := Z6.trans (y7.mono Z6.size)
  have Z7 := z7
  have P_7_c0 := P_7.c0
  have P_7_c1 := P_7.c1
  have P_7_c2 := P_7.c2
  have X_7_c0 := X_7.c0
  have X_7_c1 := X_7.c1
  have X_7_c2 := X_7.c2
  have B_7_c0 := B_7.c0
  have B_7_c1 := B_7.c1
  have F_7_c0 := F_7.c0
  have F_7_c1 := F_7.c1
  have E_7_c0 := E_7.c0
  have E_7_c1 := E_7.c1
  have G_7_c0 := G_7.c0
  have G_7_c1 := G_7.c1
  go_wp2_with fail
  go_region_held3 (fun w' => w'.cell? ⟨w2.heap.size + 1, 0, none⟩ = some (.int .i64 0) ∧ w'.cell? ⟨w2.heap.size + 1, 1, none⟩ = some (.int .i64 0) ∧ w'.cell? ⟨w2.heap.size, 0, none⟩ = some (.slice A2 n2 c2) ∧ w'.cell? ⟨w2.heap.size, 1, none⟩ = some (.int .i64 (kf : Nat))) (go_keep) (first | (go_at_call 15; refine (arpacked hn3 (Rd.own (own_drew O_7)) HC01.out (by rw [← HKF.out]; omega)).mono ?_; rintro e w8 ⟨A4, n4, c4, rfl, RP, y8⟩; have Y8 : Below w7.heap.size w7.drew w8 := y8; have G_8_c0 := ((Two.on (w := w7.drew) G_7 Y8)).c0; have G_8_c1 := ((Two.on (w := w7.drew) G_7 Y8)).c1; have E_8_c0 := ((Two.on (w := w7.drew) E_7 Y8)).c0; have E_8_c1 := ((Two.on (w := w7.drew) E_7 Y8)).c1) | (go_at_call 14; refine (api_same (Rd.on (w := w7.drew) E1_7 Y8) RP HC01.out HC01.out true (by simp) _ _ (by rw [← HKF.out]) (by rw [hn3])).mono ?_; rintro e w9 ⟨rfl, y9⟩; have Y9 := Y8.trans (y9.mono Y8.size); have G_9_c0 := ((Two.on (w := w7.drew) G_7 Y9)).c0; have G_9_c1 := ((Two.on (w := w7.drew) G_7 Y9)).c1; have E_9_c0 := ((Two.on (w := w7.drew) E_7 Y9)).c0; have E_9_c1 := ((Two.on (w := w7.drew) E_7 Y9)).c1))
  have P_9 := (Three.on (w := w7.drew) P_7 Y9)
  have X_9 := (Three.on (w := w7.drew) X_7 Y9)
  have B_9 := (Two.on (w := w7.drew) B_7 Y9)
  have F_9 := (Two.on (w := w7.drew) F_7 Y9)
  have E1_9 := (Rd.on (w := w7.drew) E1_7 Y9)
  have E_9 := (Two.on (w := w7.drew) E_7 Y9)
  have G_9 := (Two.on (w := w7.drew) G_7 Y9)
  have O_9 := (own_on (w := w7.drew) O_7 Y9)
  have Z9 := (belowD Z7).trans (Y9.mono (belowD Z7).size)
  clear G_8_c0 G_8_c1 E_8_c0 E_8_c1 G_9_c0 G_9_c1 E_9_c0 E_9_c1
  clear P_7 P_7_c0 P_7_c1 P_7_c2 X_7 X_7_c0 X_7_c1 X_7_c2 B_7 B_7_c0 B_7_c1 F_7 F_7_c0 F_7_c1 E1_7 E_7 E_7_c0 E_7_c1 G_7 G_7_c0 G_7_c1 O_7
  have P_9_c0 := P_9.c0
  have P_9_c1 := P_9.c1
  have P_9_c2 := P_9.c2
  have X_9_c0 := X_9.c0
  have X_9_c1 := X_9.c1
  have X_9_c2 := X_9.c2
  have B_9_c0 := B_9.c0
  have B_9_c1 := B_9.c1
  have F_9_c0 := F_9.c0
  have F_9_c1 := F_9.c1
  have E_9_c0 := E_9.c0
  have E_9_c1 := E_9.c1
  have G_9_c0 := G_9.c0
  have G_9_c1 := G_9.c1
  clear G_9 G_9_c0 G_9_c1 E_9 E_9_c0 E_9_c1 E1_9 O_9
  have z9 := Z9
  have P_b := P_9
  have P_9q := P_9.alloc (.cells #[.int .i64 0, .int .i64 0] 27)
  have X_b := X_9
  have X_9q := X_9.alloc (.cells #[.int .i64 0, .int .i64 0] 27)
  have B_b := B_9
  have B_9q := B_9.alloc (.cells #[.int .i64 0, .int .i64 0] 27)
  have F_b := F_9
  have F_9q := F_9.alloc (.cells #[.int .i64 0, .int .i64 0] 27)
  have M_9q := Two.new w9 27 (.int .i64 0) (.int .i64 0)
  have CM_9q := (Below.refl w9.heap.size w9).alloc (Nat.le_refl _) (.cells #[.int .i64 0, .int .i64 0] 27)
  have Z9q := Z9.alloc Z9.size (.cells #[.int .i64 0, .int .i64 0] 27)
  clear P_9 P_9_c0 P_9_c1 P_9_c2 X_9 X_9_c0 X_9_c1 X_9_c2 B_9 B_9_c0 B_9_c1 F_9 F_9_c0 F_9_c1
  have P_9q_c0 := P_9q.c0
  have P_9q_c1 := P_9q.c1
  have P_9q_c2 := P_9q.c2
  have X_9q_c0 := X_9q.c0
  have X_9q_c1 := X_9q.c1
  have X_9q_c2 := X_9q.c2
  have B_9q_c0 := B_9q.c0
  have B_9q_c1 := B_9q.c1
  have F_9q_c0 := F_9q.c0
  have F_9q_c1 := F_9q.c1
  have M_9q_c0 := M_9q.c0
  have M_9q_c1 := M_9q.c1
  have M_9q_f0 := M_9q.f0
  have M_9q_f1 := M_9q.f1
  go_wp2_with fail
  refine (in_no _ _ _ _ HPR.out).mono ?_
  rintro e w9_1 ⟨rfl, rfl⟩
  go_wp2_with fail
  refine (refat_any _ _ _).mono ?_
  rintro e w10 ⟨rfl, y10⟩
  have P_10 := P_9q.on y10
  have X_10 := X_9q.on y10
  have B_10 := B_9q.on y10
  have F_10 := F_9q.on y10
  have M_10 := M_9q.on y10
  clear P_9q P_9q_c0 P_9q_c1 P_9q_c2 X_9q X_9q_c0 X_9q_c1 X_9q_c2 B_9q B_9q_c0 B_9q_c1 F_9q F_9q_c0 F_9q_c1 M_9q M_9q_c0 M_9q_c1 M_9q_f0 M_9q_f1
  have z10 := Z9q.trans (y10.mono Z9q.size)
  have Z10 := z10
  have cM10 := CM_9q.trans (y10.mono CM_9q.size)
  have CM_10 := cM10
  have P_10_c0 := P_10.c0
  have P_10_c1 := P_10.c1
  have P_10_c2 := P_10.c2
  have X_10_c0 := X_10.c0
  have X_10_c1 := X_10.c1
  have X_10_c2 := X_10.c2
  have B_10_c0 := B_10.c0
  have B_10_c1 := B_10.c1
  have F_10_c0 := F_10.c0
  have F_10_c1 := F_10.c1
  have M_10_c0 := M_10.c0
  have M_10_c1 := M_10.c1
  have M_10_f0 := M_10.f0
  have M_10_f1 := M_10.f1
  have CM_11 := (CM_10.setCell (p := ⟨w9.heap.size, 0, none⟩) (by simp) (.int .i64 4)).setCell (p := ⟨w9.heap.size, 1, none⟩) (by simp) (.int .i64 (-3))
  have Z11 := (Z10.setCell (p := ⟨w9.heap.size, 0, none⟩) (by have := z9.size; simp; omega) (.int .i64 4)).setCell (p := ⟨w9.heap.size, 1, none⟩) (by have := z9.size; simp; omega) (.int .i64 (-3))
  have P_11 := P_b.on CM_11
  have X_11 := X_b.on CM_11
  have B_11 := B_b.on CM_11
  have F_11 := F_b.on CM_11
  have M_11 := (M_10.set0 (.int .i64 4)).set1 (.int .i64 (-3))
  have P_11_c0 := P_11.c0
  have P_11_c1 := P_11.c1
  have P_11_c2 := P_11.c2
  have X_11_c0 := X_11.c0
  have X_11_c1 := X_11.c1
  have X_11_c2 := X_11.c2
  have B_11_c0 := B_11.c0
  have B_11_c1 := B_11.c1
  have F_11_c0 := F_11.c0
  have F_11_c1 := F_11.c1
  have M_11_c0 := M_11.c0
  have M_11_c1 := M_11.c1
  have M_11_f0 := M_11.f0
  have M_11_f1 := M_11.f1
  go_wp2_with fail
  refine (api_same (l := []) (l2 := []) (Rd.none_ _) (Rd.none_ _) Is01.nil Is01.nil true (by simp) _ _ rfl rfl).mono ?_
  rintro e w12 ⟨rfl, y12⟩
  have P_12 := P_11.on y12
  have X_12 := X_11.on y12
  have B_12 := B_11.on y12
  have F_12 := F_11.on y12
  have M_12 := M_11.on y12
  clear P_10 P_10_c0 P_10_c1 P_10_c2 X_10 X_10_c0 X_10_c1 X_10_c2 B_10 B_10_c0 B_10_c1 F_10 F_10_c0 F_10_c1 M_10 M_10_c0 M_10_c1 M_10_f0 M_10_f1 P_11 P_11_c0 P_11_c1 P_11_c2 X_11 X_11_c0 X_11_c1 X_11_c2 B_11 B_11_c0 B_11_c1 F_11 F_11_c0 F_11_c1 M_11 M_11_c0 M_11_c1 M_11_f0 M_11_f1
  have z12 := Z11.trans (y12.mono Z11.size)
  have Z12 := z12
  have cM12 := CM_11.trans (y12.mono CM_11.size)
  have CM_12 := cM12
  have P_12_c0 := P_12.c0
  have P_12_c1 := P_12.c1
  have P_12_c2 := P_12.c2
  have X_12_c0 := X_12.c0
  have X_12_c1 := X_12.c1
  have X_12_c2 := X_12.c2
  have B_12_c0 := B_12.c0
  have B_12_c1 := B_12.c1
  have F_12_c0 := F_12.c0
  have F_12_c1 := F_12.c1
  have M_12_c0 := M_12.c0
  have M_12_c1 := M_12.c1
  have M_12_f0 := M_12.f0
  have M_12_f1 := M_12.f1
  go_wp2
  go_ret
  exact ⟨rfl, Z12⟩
set_option maxRecDepth 100000 in
set_option maxHeartbeats 1600000 in
theorem ap_big0_h {lo hi p : Int} {q : Nat} (hok : COk lo hi (q : Nat)) (hp1 : 1 ≤ p) (hp2 : p ≤ 4095) (hbig : 131056 < (sentf (stp lo hi 0 p).2.2 q).2) (hlast : ¬ lo < 16384) (w : World)  :
    Calls Try.prog 8 #[.agg #[.int .i64 lo, .int .i64 hi, .int .i64 (q : Nat)], .int .i64 ((0 : Nat) : Int), .int .i64 p] w fun e w' => e = .returned (.bool true) ∧ Below w.heap.size w w' := by
  have hqq := hok.2.2
  have hb9 : 1 = if lo < 16384 then 0 else 1 := by rw [if_neg hlast]
  have HFI := Lib.hid (fun (W : World) => finish_ok hok 1 hb9 W)
  have HCK := Lib.hid (fun (W : World) => coderok_any lo hi (q : Nat) true ⟨fun _ => hok, fun _ => rfl⟩ W)
  obtain ⟨kf, hkf⟩ : ∃ kf, kf = (crt 1 (q + 1)).length := ⟨_, rfl⟩
  have hkf2 : kf ≤ q + 2 := by rw [hkf]; simp [crt]
  have hc01 : Is01 (crt 1 (q + 1)) := Is01.of_mem fun x hx => by have := crt_le (b := 1) (q := q + 1) (by decide) x hx; omega
  have HC01 := Lib.hid hc01
  have hsl : (sentf [2] (q + 1)) = (crt 1 (q + 1), 0) := by rw [sentf_other (by decide)]; simp [sentf]
  have HSE := Lib.hid (fun (W : World) (A9 : Option Addr) (n9 c9 : Nat) (hW : Rd W A9 n9 c9 (ncells [2])) => sent_any hW (by decide) (by decide) (q := q + 1) (by omega) (crt 1 (q + 1)) 0 (by rw [hsl]) (by rw [hsl]) ((q : Int) + 1) (by omega))
  rw [← hkf] at HFI
  have HKF := Lib.hid hkf
  have hlk : decide (lo < 16384) = false := by simpa using hlast
  obtain ⟨LO, hLO⟩ : ∃ LO, LO = (stp lo hi 0 p).1 := ⟨_, rfl⟩
  obtain ⟨HI, hHI⟩ : ∃ HI, HI = (stp lo hi 0 p).2.1 := ⟨_, rfl⟩
  obtain ⟨R, hR⟩ : ∃ R, R = (stp lo hi 0 p).2.2 := ⟨_, rfl⟩
  obtain ⟨S, hS⟩ : ∃ S, S = (sentf (stp lo hi 0 p).2.2 q).1 := ⟨_, rfl⟩
  obtain ⟨Q, hQ⟩ : ∃ Q, Q = (sentf (stp lo hi 0 p).2.2 q).2 := ⟨_, rfl⟩
  obtain ⟨f1, f2, f3, f4⟩ := stp_facts 0 hok.1 hp1 hp2
  have hcnt : S.length + Q = (stp lo hi 0 p).2.2.length + q := by rw [hS, hQ]; exact sentf_count _ _
  have HS01 := Lib.hid (show Is01 S from Is01.of_mem fun x hx => by have := sentf_le _ f3 q x (by rw [← hS]; exact hx); omega)
  rw [← hQ] at hbig
  have HST := Lib.hid (fun (W : World) => steps_any hok.1 hp1 hp2 (b := 0) (by decide) LO HI R hLO hHI hR (0 : Int) rfl W)
  have HPU := Lib.hid (fun (W : World) => put_big hok hp1 hp2 (b := 0) (by decide) LO HI S Q hLO hHI hS hQ hbig W)
  rw [← hR] at hS hQ f2 f3 hcnt
  have hSl : S.length ≤ 140000 := by omega
  have HS2 := Lib.hid (fun (W : World) (A9 : Option Addr) (n9 c9 : Nat) (hW : Rd W A9 n9 c9 (ncells R)) => sent_any hW f3 (by omega) (q := q) (by omega) S Q hS hQ (q : Nat) rfl)
  obtain ⟨ks, hks⟩ : ∃ ks, ks = S.length := ⟨_, rfl⟩
  have HKS := Lib.hid hks
  rw [← hks] at hSl
  have kbig : decide ((131056 : Int) < (Q : Int)) = true := by simp; omega
  have HP1 := Lib.hid hp1
  have HP2 := Lib.hid hp2
  have k0 : (((0 : Nat) : Int) != 0) = false := rfl
  clear hok hlast hb9 hkf hc01 hsl hLO hHI hS hQ hR f1 f3 f4 hcnt hp1 hp2 hks
  have P_0 := (Three.new w 50 (.int .i64 lo) (.int .i64 hi) (.int .i64 (q : Nat)))
  have Z0 := (Below.refl w.heap.size w).alloc (by simp) (.cells #[.int .i64 lo, .int .i64 hi, .int .i64 (q : Nat)] 50)
  have P_0_c0 := P_0.c0
  have P_0_c1 := P_0.c1
  have P_0_c2 := P_0.c2
  go_enter Try.func8, Try.ntmps8
  go_wp2_with fail
  refine (HPU.out _).mono ?_
  rintro e w1 ⟨rfl, y1⟩
  have P_1 := (((P_0.on y1).alloc (.cells #[.int .i64 0, .int .i64 0, .int .i64 0] 50)).alloc (.cells #[.slice none 0 0, .int .i64 0] 25)).alloc (.cells #[.int .i64 14, .int .i64 (-1)] 27)
  have X_1 := (((Three.new w1 50 (.int .i64 0) (.int .i64 0) (.int .i64 0))).alloc (.cells #[.slice none 0 0, .int .i64 0] 25)).alloc (.cells #[.int .i64 14, .int .i64 (-1)] 27)
  have B_1 := ((Two.new1 w1 (.cells #[.int .i64 0, .int .i64 0, .int .i64 0] 50) 25 (.slice none 0 0) (.int .i64 0))).alloc (.cells #[.int .i64 14, .int .i64 (-1)] 27)
  have F_1 := (Two.new2 w1 (.cells #[.int .i64 0, .int .i64 0, .int .i64 0] 50) (.cells #[.slice none 0 0, .int .i64 0] 25) 27 (.int .i64 14) (.int .i64 (-1)))
  clear P_0 P_0_c0 P_0_c1 P_0_c2
  have z1 := Z0.trans (y1.mono Z0.size)
  have Z1 := (((z1).alloc (by have := z1.size; omega) (.cells #[.int .i64 0, .int .i64 0, .int .i64 0] 50)).alloc (by have := z1.size; simp; omega) (.cells #[.slice none 0 0, .int .i64 0] 25)).alloc (by have := z1.size; simp; omega) (.cells #[.int .i64 14, .int .i64 (-1)] 27)
  have P_1_c0 := P_1.c0
  have P_1_c1 := P_1.c1
  have P_1_c2 := P_1.c2
  have X_1_c0 := X_1.c0
  have X_1_c1 := X_1.c1
  have X_1_c2 := X_1.c2
  have B_1_c0 := B_1.c0
  have B_1_c1 := B_1.c1
  have F_1_c0 := F_1.c0
  have F_1_c1 := F_1.c1
  go_wp2_with fail
  refine (HFI.out _).mono ?_
  rintro e w2 ⟨A2, n2, c2, rfl, R2, y2⟩
  have P_2 := ((P_1.on y2).alloc (.cells #[.slice A2 n2 c2, .int .i64 (kf : Nat)] 25)).alloc (.cells #[.int .i64 0, .int .i64 0] 27)
  have X_2 := ((X_1.on y2).alloc (.cells #[.slice A2 n2 c2, .int .i64 (kf : Nat)] 25)).alloc (.cells #[.int .i64 0, .int .i64 0] 27)
  have B_2 := ((B_1.on y2).alloc (.cells #[.slice A2 n2 c2, .int .i64 (kf : Nat)] 25)).alloc (.cells #[.int .i64 0, .int .i64 0] 27)
  have F_2 := ((F_1.on y2).alloc (.cells #[.slice A2 n2 c2, .int .i64 (kf : Nat)] 25)).alloc (.cells #[.int .i64 0, .int .i64 0] 27)
  have E1_2 := ((R2).alloc (.cells #[.slice A2 n2 c2, .int .i64 (kf : Nat)] 25)).alloc (.cells #[.int .i64 0, .int .i64 0] 27)
  have E_2 := ((Two.new w2 25 (.slice A2 n2 c2) (.int .i64 (kf : Nat)))).alloc (.cells #[.int .i64 0, .int .i64 0] 27)
  have G_2 := (Two.new1 w2 (.cells #[.slice A2 n2 c2, .int .i64 (kf : Nat)] 25) 27 (.int .i64 0) (.int .i64 0))
  clear P_1 P_1_c0 P_1_c1 P_1_c2 X_1 X_1_c0 X_1_c1 X_1_c2 B_1 B_1_c0 B_1_c1 F_1 F_1_c0 F_1_c1
  have z2 := Z1.trans (y2.mono Z1.size)
  have Z2 := ((z2).alloc (by have := z2.size; omega) (.cells #[.slice A2 n2 c2, .int .i64 (kf : Nat)] 25)).alloc (by have := z2.size; simp; omega) (.cells #[.int .i64 0, .int .i64 0] 27)
  have P_2_c0 := P_2.c0
  have P_2_c1 := P_2.c1
  have P_2_c2 := P_2.c2
  have X_2_c0 := X_2.c0
  have X_2_c1 := X_2.c1
  have X_2_c2 := X_2.c2
  have B_2_c0 := B_2.c0
  have B_2_c1 := B_2.c1
  have F_2_c0 := F_2.c0
  have F_2_c1 := F_2.c1
  have E_2_c0 := E_2.c0
  have E_2_c1 := E_2.c1
  have G_2_c0 := G_2.c0
  have G_2_c1 := G_2.c1
  go_wp2_with fail
  refine (codes_true _).mono ?_
  rintro e w3 ⟨rfl, y3⟩
  have P_3 := P_2.on y3
  have X_3 := X_2.on y3
  have B_3 := B_2.on y3
  have F_3 := F_2.on y3
  have E1_3 := E1_2.on y3
  have E_3 := E_2.on y3
  have G_3 := G_2.on y3
  clear P_2 P_2_c0 P_2_c1 P_2_c2 X_2 X_2_c0 X_2_c1 X_2_c2 B_2 B_2_c0 B_2_c1 F_2 F_2_c0 F_2_c1 E1_2 E_2 E_2_c0 E_2_c1 G_2 G_2_c0 G_2_c1
  have z3 := Z2.trans (y3.mono Z2.size)
  have Z3 := z3
  have P_3_c0 := P_3.c0
  have P_3_c1 := P_3.c1
  have P_3_c2 := P_3.c2
  have X_3_c0 := X_3.c0
  have X_3_c1 := X_3.c1
  have X_3_c2 := X_3.c2
  have B_3_c0 := B_3.c0
  have B_3_c1 := B_3.c1
  have F_3_c0 := F_3.c0
  have F_3_c1 := F_3.c1
  have E_3_c0 := E_3.c0
  have E_3_c1 := E_3.c1
  have G_3_c0 := G_3.c0
  have G_3_c1 := G_3.c1
  go_wp2_with fail
  refine (start_any _).mono ?_
  rintro e w4 ⟨rfl, y4⟩
  have P_4 := P_3.on y4
  have X_4 := X_3.on y4
  have B_4 := B_3.on y4
  have F_4 := F_3.on y4
  have E1_4 := E1_3.on y4
  have E_4 := E_3.on y4
  have G_4 := G_3.on y4
  clear P_3 P_3_c0 P_3_c1 P_3_c2 X_3 X_3_c0 X_3_c1 X_3_c2 B_3 B_3_c0 B_3_c1 F_3 F_3_c0 F_3_c1 E1_3 E_3 E_3_c0 E_3_c1 G_3 G_3_c0 G_3_c1
  have z4 := Z3.trans (y4.mono Z3.size)
  have Z4 := z4
  have P_4_c0 := P_4.c0
  have P_4_c1 := P_4.c1
  have P_4_c2 := P_4.c2
  have X_4_c0 := X_4.c0
  have X_4_c1 := X_4.c1
  have X_4_c2 := X_4.c2
  have B_4_c0 := B_4.c0
  have B_4_c1 := B_4.c1
  have F_4_c0 := F_4.c0
  have F_4_c1 := F_4.c1
  have E_4_c0 := E_4.c0
  have E_4_c1 := E_4.c1
  have G_4_c0 := G_4.c0
  have G_4_c1 := G_4.c1
  go_wp2_with fail
  refine (HCK.out _).mono ?_
  rintro e w5 ⟨rfl, y5⟩
  have P_5 := P_4.on y5
  have X_5 := X_4.on y5
  have B_5 := B_4.on y5
  have F_5 := F_4.on y5
  have E1_5 := E1_4.on y5
  have E_5 := E_4.on y5
  have G_5 := G_4.on y5
  clear P_4 P_4_c0 P_4_c1 P_4_c2 X_4 X_4_c0 X_4_c1 X_4_c2 B_4 B_4_c0 B_4_c1 F_4 F_4_c0 F_4_c1 E1_4 E_4 E_4_c0 E_4_c1 G_4 G_4_c0 G_4_c1
  have z5 := Z4.trans (y5.mono Z4.size)
  have Z5 := z5
  have P_5_c0 := P_5.c0
  have P_5_c1 := P_5.c1
  have P_5_c2 := P_5.c2
  have X_5_c0 := X_5.c0
  have X_5_c1 := X_5.c1
  have X_5_c2 := X_5.c2
  have B_5_c0 := B_5.c0
  have B_5_c1 := B_5.c1
  have F_5_c0 := F_5.c0
  have F_5_c1 := F_5.c1
  have E_5_c0 := E_5.c0
  have E_5_c1 := E_5.c1
  have G_5_c0 := G_5.c0
  have G_5_c1 := G_5.c1
  have P_6 := P_5.alloc (.cells #[.int .i64 2] 3)
  have X_6 := X_5.alloc (.cells #[.int .i64 2] 3)
  have B_6 := B_5.alloc (.cells #[.int .i64 2] 3)
  have F_6 := F_5.alloc (.cells #[.int .i64 2] 3)
  have E1_6 := E1_5.alloc (.cells #[.int .i64 2] 3)
  have E_6 := E_5.alloc (.cells #[.int .i64 2] 3)
  have G_6 := G_5.alloc (.cells #[.int .i64 2] 3)
  have K_6 := (show Rd (w5.alloc (.cells #[.int .i64 2] 3)) (some ⟨w5.heap.size, 0, none⟩) 1 1 (ncells [2]) from Rd.lit1 w5 rfl 2 3)
  have Z6 := Z5.alloc Z5.size (.cells #[.int .i64 2] 3)
  have P_6_c0 := P_6.c0
  have P_6_c1 := P_6.c1
  have P_6_c2 := P_6.c2
  have X_6_c0 := X_6.c0
  have X_6_c1 := X_6.c1
  have X_6_c2 := X_6.c2
  have B_6_c0 := B_6.c0
  have B_6_c1 := B_6.c1
  have F_6_c0 := F_6.c0
  have F_6_c1 := F_6.c1
  have E_6_c0 := E_6.c0
  have E_6_c1 := E_6.c1
  have G_6_c0 := G_6.c0
  have G_6_c1 := G_6.c1
  go_wp2_with fail
  refine (HSE.out _ _ _ _ K_6).mono ?_
  rintro e w7 ⟨A3, n3, c3, rfl, hn3, o3, y7⟩
  have P_7 := P_6.on y7
  have X_7 := X_6.on y7
  have B_7 := B_6.on y7
  have F_7 := F_6.on y7
  have E1_7 := E1_6.on y7
  have E_7 := E_6.on y7
  have G_7 := G_6.on y7
  have O_7 := o3
  clear P_5 P_5_c0 P_5_c1 P_5_c2 X_5 X_5_c0 X_5_c1 X_5_c2 B_5 B_5_c0 B_5_c1 F_5 F_5_c0 F_5_c1 E1_5 E_5 E_5_c0 E_5_c1 G_5 G_5_c0 G_5_c1 P_6 P_6_c0 P_6_c1 P_6_c2 X_6 X_6_c0 X_6_c1 X_6_c2 B_6 B_6_c0 B_6_c1 F_6 F_6_c0 F_6_c1 E1_6 E_6 E_6_c0 E_6_c1 G_6 G_6_c0 G_6_c1 K_6
  have z7 := Z6.trans (y7.mono Z6.size)
  have Z7 := z7
  have P_7_c0 := P_7.c0
  have P_7_c1 := P_7.c1
  have P_7_c2 := P_7.c2
  have X_7_c0 := X_7.c0
  have X_7_c1 := X_7.c1
  have X_7_c2 := X_7.c2
  have B_7_c0 := B_7.c0
  have B_7_c1 := B_7.c1
  have F_7_c0 := F_7.c0
  have F_7_c1 := F_7.c1
  have E_7_c0 := E_7.c0
  have E_7_c1 := E_7.c1
  have G_7_c0 := G_7.c0
  have G_7_c1 := G_7.c1
  go_wp2_with fail
  go_region_held3 (fun w' => w'.cell? ⟨w2.heap.size + 1, 0, none⟩ = some (.int .i64 0) ∧ w'.cell? ⟨w2.heap.size + 1, 1, none⟩ = some (.int .i64 0) ∧ w'.cell? ⟨w2.heap.size, 0, none⟩ = some (.slice A2 n2 c2) ∧ w'.cell? ⟨w2.heap.size, 1, none⟩ = some (.int .i64 (kf : Nat))) (go_keep) (first | (go_at_call 15; refine (arpacked hn3 (Rd.own (own_drew O_7)) HC01.out (by rw [← HKF.out]; omega)).mono ?_; rintro e w8 ⟨A4, n4, c4, rfl, RP, y8⟩; have Y8 : Below w7.heap.size w7.drew w8 := y8; have G_8_c0 := ((Two.on (w := w7.drew) G_7 Y8)).c0; have G_8_c1 := ((Two.on (w := w7.drew) G_7 Y8)).c1; have E_8_c0 := ((Two.on (w := w7.drew) E_7 Y8)).c0; have E_8_c1 := ((Two.on (w := w7.drew) E_7 Y8)).c1) | (go_at_call 14; refine (api_same (Rd.on (w := w7.drew) E1_7 Y8) RP HC01.out HC01.out true (by simp) _ _ (by rw [← HKF.out]) (by rw [hn3])).mono ?_; rintro e w9 ⟨rfl, y9⟩; have Y9 := Y8.trans (y9.mono Y8.size); have G_9_c0 := ((Two.on (w := w7.drew) G_7 Y9)).c0; have G_9_c1 := ((Two.on (w := w7.drew) G_7 Y9)).c1; have E_9_c0 := ((Two.on (w := w7.drew) E_7 Y9)).c0; have E_9_c1 := ((Two.on (w := w7.drew) E_7 Y9)).c1))
  have P_9 := (Three.on (w := w7.drew) P_7 Y9)
  have X_9 := (Three.on (w := w7.drew) X_7 Y9)
  have B_9 := (Two.on (w := w7.drew) B_7 Y9)
  have F_9 := (Two.on (w := w7.drew) F_7 Y9)
  have E1_9 := (Rd.on (w := w7.drew) E1_7 Y9)
  have E_9 := (Two.on (w := w7.drew) E_7 Y9)
  have G_9 := (Two.on (w := w7.drew) G_7 Y9)
  have O_9 := (own_on (w := w7.drew) O_7 Y9)
  have Z9 := (belowD Z7).trans (Y9.mono (belowD Z7).size)
  clear G_8_c0 G_8_c1 E_8_c0 E_8_c1 G_9_c0 G_9_c1 E_9_c0 E_9_c1
  clear P_7 P_7_c0 P_7_c1 P_7_c2 X_7 X_7_c0 X_7_c1 X_7_c2 B_7 B_7_c0 B_7_c1 F_7 F_7_c0 F_7_c1 E1_7 E_7 E_7_c0 E_7_c1 G_7 G_7_c0 G_7_c1 O_7
  have P_9_c0 := P_9.c0
  have P_9_c1 := P_9.c1
  have P_9_c2 := P_9.c2
  have X_9_c0 := X_9.c0
  have X_9_c1 := X_9.c1
  have X_9_c2 := X_9.c2
  have B_9_c0 := B_9.c0
  have B_9_c1 := B_9.c1
  have F_9_c0 := F_9.c0
  have F_9_c1 := F_9.c1
  have E_9_c0 := E_9.c0
  have E_9_c1 := E_9.c1
  have G_9_c0 := G_9.c0
  have G_9_c1 := G_9.c1
  clear G_9 G_9_c0 G_9_c1 E_9 E_9_c0 E_9_c1 E1_9 O_9
  have z9 := Z9
  have P_b := P_9
  have P_9q := P_9.alloc (.cells #[.int .i64 0, .int .i64 0] 27)
  have X_b := X_9
  have X_9q := X_9.alloc (.cells #[.int .i64 0, .int .i64 0] 27)
  have B_b := B_9
  have B_9q := B_9.alloc (.cells #[.int .i64 0, .int .i64 0] 27)
  have F_b := F_9
  have F_9q := F_9.alloc (.cells #[.int .i64 0, .int .i64 0] 27)
  have M_9q := Two.new w9 27 (.int .i64 0) (.int .i64 0)
  have CM_9q := (Below.refl w9.heap.size w9).alloc (Nat.le_refl _) (.cells #[.int .i64 0, .int .i64 0] 27)
  have Z9q := Z9.alloc Z9.size (.cells #[.int .i64 0, .int .i64 0] 27)
  clear P_9 P_9_c0 P_9_c1 P_9_c2 X_9 X_9_c0 X_9_c1 X_9_c2 B_9 B_9_c0 B_9_c1 F_9 F_9_c0 F_9_c1
  have P_9q_c0 := P_9q.c0
  have P_9q_c1 := P_9q.c1
  have P_9q_c2 := P_9q.c2
  have X_9q_c0 := X_9q.c0
  have X_9q_c1 := X_9q.c1
  have X_9q_c2 := X_9q.c2
  have B_9q_c0 := B_9q.c0
  have B_9q_c1 := B_9q.c1
  have F_9q_c0 := F_9q.c0
  have F_9q_c1 := F_9q.c1
  have M_9q_c0 := M_9q.c0
  have M_9q_c1 := M_9q.c1
  have M_9q_f0 := M_9q.f0
  have M_9q_f1 := M_9q.f1
  go_wp2_with fail
  refine (in_yes _ _ _ _ HP1.out HP2.out).mono ?_
  rintro e w9_1 ⟨rfl, rfl⟩
  go_wp2_with fail
  refine (HST.out _).mono ?_
  rintro e w10 ⟨A5, n5, c5, rfl, hn5, o5, y10⟩
  have P_10 := P_9q.on y10
  have X_10 := X_9q.on y10
  have B_10 := B_9q.on y10
  have F_10 := F_9q.on y10
  have M_10 := M_9q.on y10
  have T_10 := o5
  clear P_9q P_9q_c0 P_9q_c1 P_9q_c2 X_9q X_9q_c0 X_9q_c1 X_9q_c2 B_9q B_9q_c0 B_9q_c1 F_9q F_9q_c0 F_9q_c1 M_9q M_9q_c0 M_9q_c1 M_9q_f0 M_9q_f1
  have z10 := Z9q.trans (y10.mono Z9q.size)
  have Z10 := z10
  have cM10 := CM_9q.trans (y10.mono CM_9q.size)
  have CM_10 := cM10
  have P_10_c0 := P_10.c0
  have P_10_c1 := P_10.c1
  have P_10_c2 := P_10.c2
  have X_10_c0 := X_10.c0
  have X_10_c1 := X_10.c1
  have X_10_c2 := X_10.c2
  have B_10_c0 := B_10.c0
  have B_10_c1 := B_10.c1
  have F_10_c0 := F_10.c0
  have F_10_c1 := F_10.c1
  have M_10_c0 := M_10.c0
  have M_10_c1 := M_10.c1
  have M_10_f0 := M_10.f0
  have M_10_f1 := M_10.f1
  go_wp2_with fail
  refine (HS2.out _ _ _ _ (Rd.own T_10)).mono ?_
  rintro e w11 ⟨A6, n6, c6, rfl, hn6, o6, y11⟩
  have P_11 := P_10.on y11
  have X_11 := X_10.on y11
  have B_11 := B_10.on y11
  have F_11 := F_10.on y11
  have M_11 := M_10.on y11
  have U_11 := o6
  clear P_10 P_10_c0 P_10_c1 P_10_c2 X_10 X_10_c0 X_10_c1 X_10_c2 B_10 B_10_c0 B_10_c1 F_10 F_10_c0 F_10_c1 M_10 M_10_c0 M_10_c1 M_10_f0 M_10_f1 T_10
  have z11 := Z10.trans (y11.mono Z10.size)
  have Z11 := z11
  have cM11 := CM_10.trans (y11.mono CM_10.size)
  have CM_11 := cM11
  have P_11_c0 := P_11.c0
  have P_11_c1 := P_11.c1
  have P_11_c2 := P_11.c2
  have X_11_c0 := X_11.c0
  have X_11_c1 := X_11.c1
  have X_11_c2 := X_11.c2
  have B_11_c0 := B_11.c0
  have B_11_c1 := B_11.c1
  have F_11_c0 := F_11.c0
  have F_11_c1 := F_11.c1
  have M_11_c0 := M_11.c0
  have M_11_c1 := M_11.c1
  have M_11_f0 := M_11.f0
  have M_11_f1 := M_11.f1
  go_wp2_with fail
  refine (refat_any _ _ _).mono ?_
  rintro e w12 ⟨rfl, y12⟩
  have P_12 := P_11.on y12
  have X_12 := X_11.on y12
  have B_12 := B_11.on y12
  have F_12 := F_11.on y12
  have M_12 := M_11.on y12
  have U_12 := own_on U_11 y12
  clear P_11 P_11_c0 P_11_c1 P_11_c2 X_11 X_11_c0 X_11_c1 X_11_c2 B_11 B_11_c0 B_11_c1 F_11 F_11_c0 F_11_c1 M_11 M_11_c0 M_11_c1 M_11_f0 M_11_f1 U_11
  have z12 := Z11.trans (y12.mono Z11.size)
  have Z12 := z12
  have cM12 := CM_11.trans (y12.mono CM_11.size)
  have CM_12 := cM12
  have P_12_c0 := P_12.c0
  have P_12_c1 := P_12.c1
  have P_12_c2 := P_12.c2
  have X_12_c0 := X_12.c0
  have X_12_c1 := X_12.c1
  have X_12_c2 := X_12.c2
  have B_12_c0 := B_12.c0
  have B_12_c1 := B_12.c1
  have F_12_c0 := F_12.c0
  have F_12_c1 := F_12.c1
  have M_12_c0 := M_12.c0
  have M_12_c1 := M_12.c1
  have M_12_f0 := M_12.f0
  have M_12_f1 := M_12.f1
  have CM_13 := (CM_12.setCell (p := ⟨w9.heap.size, 0, none⟩) (by simp) (.int .i64 14)).setCell (p := ⟨w9.heap.size, 1, none⟩) (by simp) (.int .i64 (-1))
  have Z13 := (Z12.setCell (p := ⟨w9.heap.size, 0, none⟩) (by have := z9.size; simp; omega) (.int .i64 14)).setCell (p := ⟨w9.heap.size, 1, none⟩) (by have := z9.size; simp; omega) (.int .i64 (-1))
  have P_13 := P_b.on CM_13
  have X_13 := X_b.on CM_13
  have B_13 := B_b.on CM_13
  have F_13 := F_b.on CM_13
  have M_13 := (M_12.set0 (.int .i64 14)).set1 (.int .i64 (-1))
  have U_13 := own_far_any (own_far_any U_12 (p := ⟨w9.heap.size, 0, none⟩) (own_two_ne U_12 M_12 (by decide)) (.int .i64 14)) (p := ⟨w9.heap.size, 1, none⟩) (own_two_ne U_12 M_12 (by decide)) (.int .i64 (-1))
  have P_13_c0 := P_13.c0
  have P_13_c1 := P_13.c1
  have P_13_c2 := P_13.c2
  have X_13_c0 := X_13.c0
  have X_13_c1 := X_13.c1
  have X_13_c2 := X_13.c2
  have B_13_c0 := B_13.c0
  have B_13_c1 := B_13.c1
  have F_13_c0 := F_13.c0
  have F_13_c1 := F_13.c1
  have M_13_c0 := M_13.c0
  have M_13_c1 := M_13.c1
  have M_13_f0 := M_13.f0
  have M_13_f1 := M_13.f1
  go_wp2_with fail
  refine (api_same (l := []) (l2 := []) (Rd.none_ _) (Rd.none_ _) Is01.nil Is01.nil true (by simp) _ _ rfl rfl).mono ?_
  rintro e w14 ⟨rfl, y14⟩
  have P_14 := P_13.on y14
  have X_14 := X_13.on y14
  have B_14 := B_13.on y14
  have F_14 := F_13.on y14
  have M_14 := M_13.on y14
  have U_14 := own_on U_13 y14
  clear P_12 P_12_c0 P_12_c1 P_12_c2 X_12 X_12_c0 X_12_c1 X_12_c2 B_12 B_12_c0 B_12_c1 F_12 F_12_c0 F_12_c1 M_12 M_12_c0 M_12_c1 M_12_f0 M_12_f1 U_12 P_13 P_13_c0 P_13_c1 P_13_c2 X_13 X_13_c0 X_13_c1 X_13_c2 B_13 B_13_c0 B_13_c1 F_13 F_13_c0 F_13_c1 M_13 M_13_c0 M_13_c1 M_13_f0 M_13_f1 U_13
  have z14 := Z13.trans (y14.mono Z13.size)
  have Z14 := z14
  have cM14 := CM_13.trans (y14.mono CM_13.size)
  have CM_14 := cM14
  have P_14_c0 := P_14.c0
  have P_14_c1 := P_14.c1
  have P_14_c2 := P_14.c2
  have X_14_c0 := X_14.c0
  have X_14_c1 := X_14.c1
  have X_14_c2 := X_14.c2
  have B_14_c0 := B_14.c0
  have B_14_c1 := B_14.c1
  have F_14_c0 := F_14.c0
  have F_14_c1 := F_14.c1
  have M_14_c0 := M_14.c0
  have M_14_c1 := M_14.c1
  have M_14_f0 := M_14.f0
  have M_14_f1 := M_14.f1
  go_wp2
  go_ret
  exact ⟨rfl, Z14⟩
set_option maxRecDepth 100000 in
set_option maxHeartbeats 1600000 in
theorem ap_ok0_h {lo hi p : Int} {q : Nat} (hok : COk lo hi (q : Nat)) (hp1 : 1 ≤ p) (hp2 : p ≤ 4095) (hbig : (sentf (stp lo hi 0 p).2.2 q).2 ≤ 131056) (hlast : ¬ lo < 16384) (w : World)  :
    Calls Try.prog 8 #[.agg #[.int .i64 lo, .int .i64 hi, .int .i64 (q : Nat)], .int .i64 ((0 : Nat) : Int), .int .i64 p] w fun e w' => e = .returned (.bool true) ∧ Below w.heap.size w w' := by
  have hqq := hok.2.2
  have hb9 : 1 = if lo < 16384 then 0 else 1 := by rw [if_neg hlast]
  have HFI := Lib.hid (fun (W : World) => finish_ok hok 1 hb9 W)
  have HCK := Lib.hid (fun (W : World) => coderok_any lo hi (q : Nat) true ⟨fun _ => hok, fun _ => rfl⟩ W)
  obtain ⟨kf, hkf⟩ : ∃ kf, kf = (crt 1 (q + 1)).length := ⟨_, rfl⟩
  have hkf2 : kf ≤ q + 2 := by rw [hkf]; simp [crt]
  have hc01 : Is01 (crt 1 (q + 1)) := Is01.of_mem fun x hx => by have := crt_le (b := 1) (q := q + 1) (by decide) x hx; omega
  have HC01 := Lib.hid hc01
  have hsl : (sentf [2] (q + 1)) = (crt 1 (q + 1), 0) := by rw [sentf_other (by decide)]; simp [sentf]
  have HSE := Lib.hid (fun (W : World) (A9 : Option Addr) (n9 c9 : Nat) (hW : Rd W A9 n9 c9 (ncells [2])) => sent_any hW (by decide) (by decide) (q := q + 1) (by omega) (crt 1 (q + 1)) 0 (by rw [hsl]) (by rw [hsl]) ((q : Int) + 1) (by omega))
  rw [← hkf] at HFI
  have HKF := Lib.hid hkf
  have hlk : decide (lo < 16384) = false := by simpa using hlast
  obtain ⟨LO, hLO⟩ : ∃ LO, LO = (stp lo hi 0 p).1 := ⟨_, rfl⟩
  obtain ⟨HI, hHI⟩ : ∃ HI, HI = (stp lo hi 0 p).2.1 := ⟨_, rfl⟩
  obtain ⟨R, hR⟩ : ∃ R, R = (stp lo hi 0 p).2.2 := ⟨_, rfl⟩
  obtain ⟨S, hS⟩ : ∃ S, S = (sentf (stp lo hi 0 p).2.2 q).1 := ⟨_, rfl⟩
  obtain ⟨Q, hQ⟩ : ∃ Q, Q = (sentf (stp lo hi 0 p).2.2 q).2 := ⟨_, rfl⟩
  obtain ⟨f1, f2, f3, f4⟩ := stp_facts 0 hok.1 hp1 hp2
  have hcnt : S.length + Q = (stp lo hi 0 p).2.2.length + q := by rw [hS, hQ]; exact sentf_count _ _
  have HS01 := Lib.hid (show Is01 S from Is01.of_mem fun x hx => by have := sentf_le _ f3 q x (by rw [← hS]; exact hx); omega)
  rw [← hQ] at hbig
  have HST := Lib.hid (fun (W : World) => steps_any hok.1 hp1 hp2 (b := 0) (by decide) LO HI R hLO hHI hR (0 : Int) rfl W)
  have HPU := Lib.hid (fun (W : World) => put_ok hok hp1 hp2 (b := 0) (by decide) LO HI S Q hLO hHI hS hQ hbig W)
  rw [← hR] at hS hQ f2 f3 hcnt
  have hSl : S.length ≤ 140000 := by omega
  have HS2 := Lib.hid (fun (W : World) (A9 : Option Addr) (n9 c9 : Nat) (hW : Rd W A9 n9 c9 (ncells R)) => sent_any hW f3 (by omega) (q := q) (by omega) S Q hS hQ (q : Nat) rfl)
  obtain ⟨ks, hks⟩ : ∃ ks, ks = S.length := ⟨_, rfl⟩
  have HKS := Lib.hid hks
  rw [← hks] at hSl
  rw [← hks] at HPU
  have kbig : decide ((131056 : Int) < (Q : Int)) = false := by simp; omega
  have HP1 := Lib.hid hp1
  have HP2 := Lib.hid hp2
  have k0 : (((0 : Nat) : Int) != 0) = false := rfl
  clear hok hlast hb9 hkf hc01 hsl hLO hHI hS hQ hR f1 f3 f4 hcnt hp1 hp2 hks
  have P_0 := (Three.new w 50 (.int .i64 lo) (.int .i64 hi) (.int .i64 (q : Nat)))
  have Z0 := (Below.refl w.heap.size w).alloc (by simp) (.cells #[.int .i64 lo, .int .i64 hi, .int .i64 (q : Nat)] 50)
  have P_0_c0 := P_0.c0
  have P_0_c1 := P_0.c1
  have P_0_c2 := P_0.c2
  go_enter Try.func8, Try.ntmps8
  go_wp2_with fail
  refine (HPU.out _).mono ?_
  rintro e w1 ⟨A1, n1, c1, rfl, R1, y1⟩
  have P_1 := (((P_0.on y1).alloc (.cells #[.int .i64 LO, .int .i64 HI, .int .i64 (Q : Nat)] 50)).alloc (.cells #[.slice A1 n1 c1, .int .i64 (ks : Nat)] 25)).alloc (.cells #[.int .i64 0, .int .i64 0] 27)
  have R_1 := (((R1).alloc (.cells #[.int .i64 LO, .int .i64 HI, .int .i64 (Q : Nat)] 50)).alloc (.cells #[.slice A1 n1 c1, .int .i64 (ks : Nat)] 25)).alloc (.cells #[.int .i64 0, .int .i64 0] 27)
  have X_1 := (((Three.new w1 50 (.int .i64 LO) (.int .i64 HI) (.int .i64 (Q : Nat)))).alloc (.cells #[.slice A1 n1 c1, .int .i64 (ks : Nat)] 25)).alloc (.cells #[.int .i64 0, .int .i64 0] 27)
  have B_1 := ((Two.new1 w1 (.cells #[.int .i64 LO, .int .i64 HI, .int .i64 (Q : Nat)] 50) 25 (.slice A1 n1 c1) (.int .i64 (ks : Nat)))).alloc (.cells #[.int .i64 0, .int .i64 0] 27)
  have F_1 := (Two.new2 w1 (.cells #[.int .i64 LO, .int .i64 HI, .int .i64 (Q : Nat)] 50) (.cells #[.slice A1 n1 c1, .int .i64 (ks : Nat)] 25) 27 (.int .i64 0) (.int .i64 0))
  clear P_0 P_0_c0 P_0_c1 P_0_c2
  have z1 := Z0.trans (y1.mono Z0.size)
  have Z1 := (((z1).alloc (by have := z1.size; omega) (.cells #[.int .i64 LO, .int .i64 HI, .int .i64 (Q : Nat)] 50)).alloc (by have := z1.size; simp; omega) (.cells #[.slice A1 n1 c1, .int .i64 (ks : Nat)] 25)).alloc (by have := z1.size; simp; omega) (.cells #[.int .i64 0, .int .i64 0] 27)
  have P_1_c0 := P_1.c0
  have P_1_c1 := P_1.c1
  have P_1_c2 := P_1.c2
  have X_1_c0 := X_1.c0
  have X_1_c1 := X_1.c1
  have X_1_c2 := X_1.c2
  have B_1_c0 := B_1.c0
  have B_1_c1 := B_1.c1
  have F_1_c0 := F_1.c0
  have F_1_c1 := F_1.c1
  go_wp2_with fail
  refine (HFI.out _).mono ?_
  rintro e w2 ⟨A2, n2, c2, rfl, R2, y2⟩
  have P_2 := ((P_1.on y2).alloc (.cells #[.slice A2 n2 c2, .int .i64 (kf : Nat)] 25)).alloc (.cells #[.int .i64 0, .int .i64 0] 27)
  have R_2 := ((R_1.on y2).alloc (.cells #[.slice A2 n2 c2, .int .i64 (kf : Nat)] 25)).alloc (.cells #[.int .i64 0, .int .i64 0] 27)
  have X_2 := ((X_1.on y2).alloc (.cells #[.slice A2 n2 c2, .int .i64 (kf : Nat)] 25)).alloc (.cells #[.int .i64 0, .int .i64 0] 27)
  have B_2 := ((B_1.on y2).alloc (.cells #[.slice A2 n2 c2, .int .i64 (kf : Nat)] 25)).alloc (.cells #[.int .i64 0, .int .i64 0] 27)
  have F_2 := ((F_1.on y2).alloc (.cells #[.slice A2 n2 c2, .int .i64 (kf : Nat)] 25)).alloc (.cells #[.int .i64 0, .int .i64 0] 27)
  have E1_2 := ((R2).alloc (.cells #[.slice A2 n2 c2, .int .i64 (kf : Nat)] 25)).alloc (.cells #[.int .i64 0, .int .i64 0] 27)
  have E_2 := ((Two.new w2 25 (.slice A2 n2 c2) (.int .i64 (kf : Nat)))).alloc (.cells #[.int .i64 0, .int .i64 0] 27)
  have G_2 := (Two.new1 w2 (.cells #[.slice A2 n2 c2, .int .i64 (kf : Nat)] 25) 27 (.int .i64 0) (.int .i64 0))
  clear P_1 P_1_c0 P_1_c1 P_1_c2 R_1 X_1 X_1_c0 X_1_c1 X_1_c2 B_1 B_1_c0 B_1_c1 F_1 F_1_c0 F_1_c1
  have z2 := Z1.trans (y2.mono Z1.size)
  have Z2 := ((z2).alloc (by have := z2.size; omega) (.cells #[.slice A2 n2 c2, .int .i64 (kf : Nat)] 25)).alloc (by have := z2.size; simp; omega) (.cells #[.int .i64 0, .int .i64 0] 27)
  have P_2_c0 := P_2.c0
  have P_2_c1 := P_2.c1
  have P_2_c2 := P_2.c2
  have X_2_c0 := X_2.c0
  have X_2_c1 := X_2.c1
  have X_2_c2 := X_2.c2
  have B_2_c0 := B_2.c0
  have B_2_c1 := B_2.c1
  have F_2_c0 := F_2.c0
  have F_2_c1 := F_2.c1
  have E_2_c0 := E_2.c0
  have E_2_c1 := E_2.c1
  have G_2_c0 := G_2.c0
  have G_2_c1 := G_2.c1
  go_wp2_with fail
  refine (codes_true _).mono ?_
  rintro e w3 ⟨rfl, y3⟩
  have P_3 := P_2.on y3
  have R_3 := R_2.on y3
  have X_3 := X_2.on y3
  have B_3 := B_2.on y3
  have F_3 := F_2.on y3
  have E1_3 := E1_2.on y3
  have E_3 := E_2.on y3
  have G_3 := G_2.on y3
  clear P_2 P_2_c0 P_2_c1 P_2_c2 R_2 X_2 X_2_c0 X_2_c1 X_2_c2 B_2 B_2_c0 B_2_c1 F_2 F_2_c0 F_2_c1 E1_2 E_2 E_2_c0 E_2_c1 G_2 G_2_c0 G_2_c1
  have z3 := Z2.trans (y3.mono Z2.size)
  have Z3 := z3
  have P_3_c0 := P_3.c0
  have P_3_c1 := P_3.c1
  have P_3_c2 := P_3.c2
  have X_3_c0 := X_3.c0
  have X_3_c1 := X_3.c1
  have X_3_c2 := X_3.c2
  have B_3_c0 := B_3.c0
  have B_3_c1 := B_3.c1
  have F_3_c0 := F_3.c0
  have F_3_c1 := F_3.c1
  have E_3_c0 := E_3.c0
  have E_3_c1 := E_3.c1
  have G_3_c0 := G_3.c0
  have G_3_c1 := G_3.c1
  go_wp2_with fail
  refine (start_any _).mono ?_
  rintro e w4 ⟨rfl, y4⟩
  have P_4 := P_3.on y4
  have R_4 := R_3.on y4
  have X_4 := X_3.on y4
  have B_4 := B_3.on y4
  have F_4 := F_3.on y4
  have E1_4 := E1_3.on y4
  have E_4 := E_3.on y4
  have G_4 := G_3.on y4
  clear P_3 P_3_c0 P_3_c1 P_3_c2 R_3 X_3 X_3_c0 X_3_c1 X_3_c2 B_3 B_3_c0 B_3_c1 F_3 F_3_c0 F_3_c1 E1_3 E_3 E_3_c0 E_3_c1 G_3 G_3_c0 G_3_c1
  have z4 := Z3.trans (y4.mono Z3.size)
  have Z4 := z4
  have P_4_c0 := P_4.c0
  have P_4_c1 := P_4.c1
  have P_4_c2 := P_4.c2
  have X_4_c0 := X_4.c0
  have X_4_c1 := X_4.c1
  have X_4_c2 := X_4.c2
  have B_4_c0 := B_4.c0
  have B_4_c1 := B_4.c1
  have F_4_c0 := F_4.c0
  have F_4_c1 := F_4.c1
  have E_4_c0 := E_4.c0
  have E_4_c1 := E_4.c1
  have G_4_c0 := G_4.c0
  have G_4_c1 := G_4.c1
  go_wp2_with fail
  refine (HCK.out _).mono ?_
  rintro e w5 ⟨rfl, y5⟩
  have P_5 := P_4.on y5
  have R_5 := R_4.on y5
  have X_5 := X_4.on y5
  have B_5 := B_4.on y5
  have F_5 := F_4.on y5
  have E1_5 := E1_4.on y5
  have E_5 := E_4.on y5
  have G_5 := G_4.on y5
  clear P_4 P_4_c0 P_4_c1 P_4_c2 R_4 X_4 X_4_c0 X_4_c1 X_4_c2 B_4 B_4_c0 B_4_c1 F_4 F_4_c0 F_4_c1 E1_4 E_4 E_4_c0 E_4_c1 G_4 G_4_c0 G_4_c1
  have z5 := Z4.trans (y5.mono Z4.size)
  have Z5 := z5
  have P_5_c0 := P_5.c0
  have P_5_c1 := P_5.c1
  have P_5_c2 := P_5.c2
  have X_5_c0 := X_5.c0
  have X_5_c1 := X_5.c1
  have X_5_c2 := X_5.c2
  have B_5_c0 := B_5.c0
  have B_5_c1 := B_5.c1
  have F_5_c0 := F_5.c0
  have F_5_c1 := F_5.c1
  have E_5_c0 := E_5.c0
  have E_5_c1 := E_5.c1
  have G_5_c0 := G_5.c0
  have G_5_c1 := G_5.c1
  have P_6 := P_5.alloc (.cells #[.int .i64 2] 3)
  have R_6 := R_5.alloc (.cells #[.int .i64 2] 3)
  have X_6 := X_5.alloc (.cells #[.int .i64 2] 3)
  have B_6 := B_5.alloc (.cells #[.int .i64 2] 3)
  have F_6 := F_5.alloc (.cells #[.int .i64 2] 3)
  have E1_6 := E1_5.alloc (.cells #[.int .i64 2] 3)
  have E_6 := E_5.alloc (.cells #[.int .i64 2] 3)
  have G_6 := G_5.alloc (.cells #[.int .i64 2] 3)
  have K_6 := (show Rd (w5.alloc (.cells #[.int .i64 2] 3)) (some ⟨w5.heap.size, 0, none⟩) 1 1 (ncells [2]) from Rd.lit1 w5 rfl 2 3)
  have Z6 := Z5.alloc Z5.size (.cells #[.int .i64 2] 3)
  have P_6_c0 := P_6.c0
  have P_6_c1 := P_6.c1
  have P_6_c2 := P_6.c2
  have X_6_c0 := X_6.c0
  have X_6_c1 := X_6.c1
  have X_6_c2 := X_6.c2
  have B_6_c0 := B_6.c0
  have B_6_c1 := B_6.c1
  have F_6_c0 := F_6.c0
  have F_6_c1 := F_6.c1
  have E_6_c0 := E_6.c0
  have E_6_c1 := E_6.c1
  have G_6_c0 := G_6.c0
  have G_6_c1 := G_6.c1
  go_wp2_with fail
  refine (HSE.out _ _ _ _ K_6).mono ?_
  rintro e w7 ⟨A3, n3, c3, rfl, hn3, o3, y7⟩
  have P_7 := P_6.on y7
  have R_7 := R_6.on y7
  have X_7 := X_6.on y7
  have B_7 := B_6.on y7
  have F_7 := F_6.on y7
  have E1_7 := E1_6.on y7
  have E_7 := E_6.on y7
  have G_7 := G_6.on y7
  have O_7 := o3
  clear P_5 P_5_c0 P_5_c1 P_5_c2 R_5 X_5 X_5_c0 X_5_c1 X_5_c2 B_5 B_5_c0 B_5_c1 F_5 F_5_c0 F_5_c1 E1_5 E_5 E_5_c0 E_5_c1 G_5 G_5_c0 G_5_c1 P_6 P_6_c0 P_6_c1 P_6_c2 R_6 X_6 X_6_c0 X_6_c1 X_6_c2 B_6 B_6_c0 B_6_c1 F_6 F_6_c0 F_6_c1 E1_6 E_6 E_6_c0 E_6_c1 G_6 G_6_c0 G_6_c1 K_6
  have z7 := Z6.trans (y7.mono Z6.size)
  have Z7 := z7
  have P_7_c0 := P_7.c0
  have P_7_c1 := P_7.c1
  have P_7_c2 := P_7.c2
  have X_7_c0 := X_7.c0
  have X_7_c1 := X_7.c1
  have X_7_c2 := X_7.c2
  have B_7_c0 := B_7.c0
  have B_7_c1 := B_7.c1
  have F_7_c0 := F_7.c0
  have F_7_c1 := F_7.c1
  have E_7_c0 := E_7.c0
  have E_7_c1 := E_7.c1
  have G_7_c0 := G_7.c0
  have G_7_c1 := G_7.c1
  go_wp2_with fail
  go_region_held3 (fun w' => w'.cell? ⟨w2.heap.size + 1, 0, none⟩ = some (.int .i64 0) ∧ w'.cell? ⟨w2.heap.size + 1, 1, none⟩ = some (.int .i64 0) ∧ w'.cell? ⟨w2.heap.size, 0, none⟩ = some (.slice A2 n2 c2) ∧ w'.cell? ⟨w2.heap.size, 1, none⟩ = some (.int .i64 (kf : Nat))) (go_keep) (first | (go_at_call 15; refine (arpacked hn3 (Rd.own (own_drew O_7)) HC01.out (by rw [← HKF.out]; omega)).mono ?_; rintro e w8 ⟨A4, n4, c4, rfl, RP, y8⟩; have Y8 : Below w7.heap.size w7.drew w8 := y8; have G_8_c0 := ((Two.on (w := w7.drew) G_7 Y8)).c0; have G_8_c1 := ((Two.on (w := w7.drew) G_7 Y8)).c1; have E_8_c0 := ((Two.on (w := w7.drew) E_7 Y8)).c0; have E_8_c1 := ((Two.on (w := w7.drew) E_7 Y8)).c1) | (go_at_call 14; refine (api_same (Rd.on (w := w7.drew) E1_7 Y8) RP HC01.out HC01.out true (by simp) _ _ (by rw [← HKF.out]) (by rw [hn3])).mono ?_; rintro e w9 ⟨rfl, y9⟩; have Y9 := Y8.trans (y9.mono Y8.size); have G_9_c0 := ((Two.on (w := w7.drew) G_7 Y9)).c0; have G_9_c1 := ((Two.on (w := w7.drew) G_7 Y9)).c1; have E_9_c0 := ((Two.on (w := w7.drew) E_7 Y9)).c0; have E_9_c1 := ((Two.on (w := w7.drew) E_7 Y9)).c1))
  have P_9 := (Three.on (w := w7.drew) P_7 Y9)
  have R_9 := (Rd.on (w := w7.drew) R_7 Y9)
  have X_9 := (Three.on (w := w7.drew) X_7 Y9)
  have B_9 := (Two.on (w := w7.drew) B_7 Y9)
  have F_9 := (Two.on (w := w7.drew) F_7 Y9)
  have E1_9 := (Rd.on (w := w7.drew) E1_7 Y9)
  have E_9 := (Two.on (w := w7.drew) E_7 Y9)
  have G_9 := (Two.on (w := w7.drew) G_7 Y9)
  have O_9 := (own_on (w := w7.drew) O_7 Y9)
  have Z9 := (belowD Z7).trans (Y9.mono (belowD Z7).size)
  clear G_8_c0 G_8_c1 E_8_c0 E_8_c1 G_9_c0 G_9_c1 E_9_c0 E_9_c1
  clear P_7 P_7_c0 P_7_c1 P_7_c2 R_7 X_7 X_7_c0 X_7_c1 X_7_c2 B_7 B_7_c0 B_7_c1 F_7 F_7_c0 F_7_c1 E1_7 E_7 E_7_c0 E_7_c1 G_7 G_7_c0 G_7_c1 O_7
  have P_9_c0 := P_9.c0
  have P_9_c1 := P_9.c1
  have P_9_c2 := P_9.c2
  have X_9_c0 := X_9.c0
  have X_9_c1 := X_9.c1
  have X_9_c2 := X_9.c2
  have B_9_c0 := B_9.c0
  have B_9_c1 := B_9.c1
  have F_9_c0 := F_9.c0
  have F_9_c1 := F_9.c1
  have E_9_c0 := E_9.c0
  have E_9_c1 := E_9.c1
  have G_9_c0 := G_9.c0
  have G_9_c1 := G_9.c1
  clear G_9 G_9_c0 G_9_c1 E_9 E_9_c0 E_9_c1 E1_9 O_9
  have z9 := Z9
  have P_b := P_9
  have P_9q := P_9.alloc (.cells #[.int .i64 0, .int .i64 0] 27)
  have R_b := R_9
  have R_9q := R_9.alloc (.cells #[.int .i64 0, .int .i64 0] 27)
  have X_b := X_9
  have X_9q := X_9.alloc (.cells #[.int .i64 0, .int .i64 0] 27)
  have B_b := B_9
  have B_9q := B_9.alloc (.cells #[.int .i64 0, .int .i64 0] 27)
  have F_b := F_9
  have F_9q := F_9.alloc (.cells #[.int .i64 0, .int .i64 0] 27)
  have M_9q := Two.new w9 27 (.int .i64 0) (.int .i64 0)
  have CM_9q := (Below.refl w9.heap.size w9).alloc (Nat.le_refl _) (.cells #[.int .i64 0, .int .i64 0] 27)
  have Z9q := Z9.alloc Z9.size (.cells #[.int .i64 0, .int .i64 0] 27)
  clear P_9 P_9_c0 P_9_c1 P_9_c2 R_9 X_9 X_9_c0 X_9_c1 X_9_c2 B_9 B_9_c0 B_9_c1 F_9 F_9_c0 F_9_c1
  have P_9q_c0 := P_9q.c0
  have P_9q_c1 := P_9q.c1
  have P_9q_c2 := P_9q.c2
  have X_9q_c0 := X_9q.c0
  have X_9q_c1 := X_9q.c1
  have X_9q_c2 := X_9q.c2
  have B_9q_c0 := B_9q.c0
  have B_9q_c1 := B_9q.c1
  have F_9q_c0 := F_9q.c0
  have F_9q_c1 := F_9q.c1
  have M_9q_c0 := M_9q.c0
  have M_9q_c1 := M_9q.c1
  have M_9q_f0 := M_9q.f0
  have M_9q_f1 := M_9q.f1
  go_wp2_with fail
  refine (in_yes _ _ _ _ HP1.out HP2.out).mono ?_
  rintro e w9_1 ⟨rfl, rfl⟩
  go_wp2_with fail
  refine (HST.out _).mono ?_
  rintro e w10 ⟨A5, n5, c5, rfl, hn5, o5, y10⟩
  have P_10 := P_9q.on y10
  have R_10 := R_9q.on y10
  have X_10 := X_9q.on y10
  have B_10 := B_9q.on y10
  have F_10 := F_9q.on y10
  have M_10 := M_9q.on y10
  have T_10 := o5
  clear P_9q P_9q_c0 P_9q_c1 P_9q_c2 R_9q X_9q X_9q_c0 X_9q_c1 X_9q_c2 B_9q B_9q_c0 B_9q_c1 F_9q F_9q_c0 F_9q_c1 M_9q M_9q_c0 M_9q_c1 M_9q_f0 M_9q_f1
  have z10 := Z9q.trans (y10.mono Z9q.size)
  have Z10 := z10
  have cM10 := CM_9q.trans (y10.mono CM_9q.size)
  have CM_10 := cM10
  have P_10_c0 := P_10.c0
  have P_10_c1 := P_10.c1
  have P_10_c2 := P_10.c2
  have X_10_c0 := X_10.c0
  have X_10_c1 := X_10.c1
  have X_10_c2 := X_10.c2
  have B_10_c0 := B_10.c0
  have B_10_c1 := B_10.c1
  have F_10_c0 := F_10.c0
  have F_10_c1 := F_10.c1
  have M_10_c0 := M_10.c0
  have M_10_c1 := M_10.c1
  have M_10_f0 := M_10.f0
  have M_10_f1 := M_10.f1
  go_wp2_with fail
  refine (HS2.out _ _ _ _ (Rd.own T_10)).mono ?_
  rintro e w11 ⟨A6, n6, c6, rfl, hn6, o6, y11⟩
  have P_11 := P_10.on y11
  have R_11 := R_10.on y11
  have X_11 := X_10.on y11
  have B_11 := B_10.on y11
  have F_11 := F_10.on y11
  have M_11 := M_10.on y11
  have U_11 := o6
  clear P_10 P_10_c0 P_10_c1 P_10_c2 R_10 X_10 X_10_c0 X_10_c1 X_10_c2 B_10 B_10_c0 B_10_c1 F_10 F_10_c0 F_10_c1 M_10 M_10_c0 M_10_c1 M_10_f0 M_10_f1 T_10
  have z11 := Z10.trans (y11.mono Z10.size)
  have Z11 := z11
  have cM11 := CM_10.trans (y11.mono CM_10.size)
  have CM_11 := cM11
  have P_11_c0 := P_11.c0
  have P_11_c1 := P_11.c1
  have P_11_c2 := P_11.c2
  have X_11_c0 := X_11.c0
  have X_11_c1 := X_11.c1
  have X_11_c2 := X_11.c2
  have B_11_c0 := B_11.c0
  have B_11_c1 := B_11.c1
  have F_11_c0 := F_11.c0
  have F_11_c1 := F_11.c1
  have M_11_c0 := M_11.c0
  have M_11_c1 := M_11.c1
  have M_11_f0 := M_11.f0
  have M_11_f1 := M_11.f1
  go_wp2_with fail
  go_region_held3 (fun w' => w'.cell? ⟨w1.heap.size + 2, 0, none⟩ = some (.int .i64 0) ∧ w'.cell? ⟨w1.heap.size + 2, 1, none⟩ = some (.int .i64 0) ∧ w'.cell? ⟨w1.heap.size, 0, none⟩ = some (.int .i64 LO) ∧ w'.cell? ⟨w1.heap.size, 1, none⟩ = some (.int .i64 HI) ∧ w'.cell? ⟨w1.heap.size, 2, none⟩ = some (.int .i64 (Q : Nat)) ∧ w'.cell? ⟨w1.heap.size + 1, 0, none⟩ = some (.slice A1 n1 c1) ∧ w'.cell? ⟨w1.heap.size + 1, 1, none⟩ = some (.int .i64 (ks : Nat))) (go_keep) (first | (go_at_call 15; refine (arpacked (hn6) (Rd.own (own_drew U_11)) HS01.out (by rw [← HKS.out]; omega)).mono ?_; rintro e w12 ⟨A7, n7, c7, rfl, RQ, y12⟩; have Y12 : Below w11.heap.size w11.drew w12 := y12; have F_12_c0 := ((Two.on (w := w11.drew) F_11 Y12)).c0; have F_12_c1 := ((Two.on (w := w11.drew) F_11 Y12)).c1; have X_12_c0 := ((Three.on (w := w11.drew) X_11 Y12)).c0; have X_12_c1 := ((Three.on (w := w11.drew) X_11 Y12)).c1; have X_12_c2 := ((Three.on (w := w11.drew) X_11 Y12)).c2; have B_12_c0 := ((Two.on (w := w11.drew) B_11 Y12)).c0; have B_12_c1 := ((Two.on (w := w11.drew) B_11 Y12)).c1) | (go_at_call 14; refine (api_same (Rd.on (w := w11.drew) R_11 Y12) RQ HS01.out HS01.out true (by simp) _ _ (by rw [← HKS.out]) (by rw [hn6])).mono ?_; rintro e w13 ⟨rfl, y13⟩; have Y13 := Y12.trans (y13.mono Y12.size); have F_13_c0 := ((Two.on (w := w11.drew) F_11 Y13)).c0; have F_13_c1 := ((Two.on (w := w11.drew) F_11 Y13)).c1; have X_13_c0 := ((Three.on (w := w11.drew) X_11 Y13)).c0; have X_13_c1 := ((Three.on (w := w11.drew) X_11 Y13)).c1; have X_13_c2 := ((Three.on (w := w11.drew) X_11 Y13)).c2; have B_13_c0 := ((Two.on (w := w11.drew) B_11 Y13)).c0; have B_13_c1 := ((Two.on (w := w11.drew) B_11 Y13)).c1))
  have P_13 := (Three.on (w := w11.drew) P_11 Y13)
  have R_13 := (Rd.on (w := w11.drew) R_11 Y13)
  have X_13 := (Three.on (w := w11.drew) X_11 Y13)
  have B_13 := (Two.on (w := w11.drew) B_11 Y13)
  have F_13 := (Two.on (w := w11.drew) F_11 Y13)
  have M_13 := (Two.on (w := w11.drew) M_11 Y13)
  have U_13 := (own_on (w := w11.drew) U_11 Y13)
  have Z13 := (belowD Z11).trans (Y13.mono (belowD Z11).size)
  have CM_13 := (belowD CM_11).trans (Y13.mono (belowD CM_11).size)
  clear F_12_c0 F_12_c1 X_12_c0 X_12_c1 X_12_c2 B_12_c0 B_12_c1 F_13_c0 F_13_c1 X_13_c0 X_13_c1 X_13_c2 B_13_c0 B_13_c1
  clear P_11 P_11_c0 P_11_c1 P_11_c2 R_11 X_11 X_11_c0 X_11_c1 X_11_c2 B_11 B_11_c0 B_11_c1 F_11 F_11_c0 F_11_c1 M_11 M_11_c0 M_11_c1 M_11_f0 M_11_f1 U_11
  have P_13_c0 := P_13.c0
  have P_13_c1 := P_13.c1
  have P_13_c2 := P_13.c2
  have X_13_c0 := X_13.c0
  have X_13_c1 := X_13.c1
  have X_13_c2 := X_13.c2
  have B_13_c0 := B_13.c0
  have B_13_c1 := B_13.c1
  have F_13_c0 := F_13.c0
  have F_13_c1 := F_13.c1
  have M_13_c0 := M_13.c0
  have M_13_c1 := M_13.c1
  have M_13_f0 := M_13.f0
  have M_13_f1 := M_13.f1
  go_wp2
  go_ret
  exact ⟨rfl, Z13⟩
set_option maxRecDepth 100000 in
set_option maxHeartbeats 1600000 in
theorem ap_prob1_h {lo hi p : Int} {q : Nat} (hok : COk lo hi (q : Nat)) (hp : ¬ (1 ≤ p ∧ p ≤ 4095)) (hlast : ¬ lo < 16384) (w : World)  :
    Calls Try.prog 8 #[.agg #[.int .i64 lo, .int .i64 hi, .int .i64 (q : Nat)], .int .i64 (1 : Int), .int .i64 p] w fun e w' => e = .returned (.bool true) ∧ Below w.heap.size w w' := by
  have hqq := hok.2.2
  have hb9 : 1 = if lo < 16384 then 0 else 1 := by rw [if_neg hlast]
  have HFI := Lib.hid (fun (W : World) => finish_ok hok 1 hb9 W)
  have HCK := Lib.hid (fun (W : World) => coderok_any lo hi (q : Nat) true ⟨fun _ => hok, fun _ => rfl⟩ W)
  obtain ⟨kf, hkf⟩ : ∃ kf, kf = (crt 1 (q + 1)).length := ⟨_, rfl⟩
  have hkf2 : kf ≤ q + 2 := by rw [hkf]; simp [crt]
  have hc01 : Is01 (crt 1 (q + 1)) := Is01.of_mem fun x hx => by have := crt_le (b := 1) (q := q + 1) (by decide) x hx; omega
  have HC01 := Lib.hid hc01
  have hsl : (sentf [2] (q + 1)) = (crt 1 (q + 1), 0) := by rw [sentf_other (by decide)]; simp [sentf]
  have HSE := Lib.hid (fun (W : World) (A9 : Option Addr) (n9 c9 : Nat) (hW : Rd W A9 n9 c9 (ncells [2])) => sent_any hW (by decide) (by decide) (q := q + 1) (by omega) (crt 1 (q + 1)) 0 (by rw [hsl]) (by rw [hsl]) ((q : Int) + 1) (by omega))
  rw [← hkf] at HFI
  have HKF := Lib.hid hkf
  have hlk : decide (lo < 16384) = false := by simpa using hlast
  have k0 : ((1 : Int) != 0) = true := rfl
  have k1 : ((1 : Int) != 1) = false := rfl
  have HPU := Lib.hid (fun (W : World) => put_prob_any hok (b := 1) (.inr rfl) hp W)
  have HPR := Lib.hid (show p < 1 ∨ 4095 < p by omega)
  clear hok hlast hb9 hkf hc01 hsl hp
  have P_0 := (Three.new w 50 (.int .i64 lo) (.int .i64 hi) (.int .i64 (q : Nat)))
  have Z0 := (Below.refl w.heap.size w).alloc (by simp) (.cells #[.int .i64 lo, .int .i64 hi, .int .i64 (q : Nat)] 50)
  have P_0_c0 := P_0.c0
  have P_0_c1 := P_0.c1
  have P_0_c2 := P_0.c2
  go_enter Try.func8, Try.ntmps8
  go_wp2_with fail
  refine (HPU.out _).mono ?_
  rintro e w1 ⟨rfl, y1⟩
  have P_1 := (((P_0.on y1).alloc (.cells #[.int .i64 0, .int .i64 0, .int .i64 0] 50)).alloc (.cells #[.slice none 0 0, .int .i64 0] 25)).alloc (.cells #[.int .i64 4, .int .i64 (-3)] 27)
  have X_1 := (((Three.new w1 50 (.int .i64 0) (.int .i64 0) (.int .i64 0))).alloc (.cells #[.slice none 0 0, .int .i64 0] 25)).alloc (.cells #[.int .i64 4, .int .i64 (-3)] 27)
  have B_1 := ((Two.new1 w1 (.cells #[.int .i64 0, .int .i64 0, .int .i64 0] 50) 25 (.slice none 0 0) (.int .i64 0))).alloc (.cells #[.int .i64 4, .int .i64 (-3)] 27)
  have F_1 := (Two.new2 w1 (.cells #[.int .i64 0, .int .i64 0, .int .i64 0] 50) (.cells #[.slice none 0 0, .int .i64 0] 25) 27 (.int .i64 4) (.int .i64 (-3)))
  clear P_0 P_0_c0 P_0_c1 P_0_c2
  have z1 := Z0.trans (y1.mono Z0.size)
  have Z1 := (((z1).alloc (by have := z1.size; omega) (.cells #[.int .i64 0, .int .i64 0, .int .i64 0] 50)).alloc (by have := z1.size; simp; omega) (.cells #[.slice none 0 0, .int .i64 0] 25)).alloc (by have := z1.size; simp; omega) (.cells #[.int .i64 4, .int .i64 (-3)] 27)
  have P_1_c0 := P_1.c0
  have P_1_c1 := P_1.c1
  have P_1_c2 := P_1.c2
  have X_1_c0 := X_1.c0
  have X_1_c1 := X_1.c1
  have X_1_c2 := X_1.c2
  have B_1_c0 := B_1.c0
  have B_1_c1 := B_1.c1
  have F_1_c0 := F_1.c0
  have F_1_c1 := F_1.c1
  go_wp2_with fail
  refine (HFI.out _).mono ?_
  rintro e w2 ⟨A2, n2, c2, rfl, R2, y2⟩
  have P_2 := ((P_1.on y2).alloc (.cells #[.slice A2 n2 c2, .int .i64 (kf : Nat)] 25)).alloc (.cells #[.int .i64 0, .int .i64 0] 27)
  have X_2 := ((X_1.on y2).alloc (.cells #[.slice A2 n2 c2, .int .i64 (kf : Nat)] 25)).alloc (.cells #[.int .i64 0, .int .i64 0] 27)
  have B_2 := ((B_1.on y2).alloc (.cells #[.slice A2 n2 c2, .int .i64 (kf : Nat)] 25)).alloc (.cells #[.int .i64 0, .int .i64 0] 27)
  have F_2 := ((F_1.on y2).alloc (.cells #[.slice A2 n2 c2, .int .i64 (kf : Nat)] 25)).alloc (.cells #[.int .i64 0, .int .i64 0] 27)
  have E1_2 := ((R2).alloc (.cells #[.slice A2 n2 c2, .int .i64 (kf : Nat)] 25)).alloc (.cells #[.int .i64 0, .int .i64 0] 27)
  have E_2 := ((Two.new w2 25 (.slice A2 n2 c2) (.int .i64 (kf : Nat)))).alloc (.cells #[.int .i64 0, .int .i64 0] 27)
  have G_2 := (Two.new1 w2 (.cells #[.slice A2 n2 c2, .int .i64 (kf : Nat)] 25) 27 (.int .i64 0) (.int .i64 0))
  clear P_1 P_1_c0 P_1_c1 P_1_c2 X_1 X_1_c0 X_1_c1 X_1_c2 B_1 B_1_c0 B_1_c1 F_1 F_1_c0 F_1_c1
  have z2 := Z1.trans (y2.mono Z1.size)
  have Z2 := ((z2).alloc (by have := z2.size; omega) (.cells #[.slice A2 n2 c2, .int .i64 (kf : Nat)] 25)).alloc (by have := z2.size; simp; omega) (.cells #[.int .i64 0, .int .i64 0] 27)
  have P_2_c0 := P_2.c0
  have P_2_c1 := P_2.c1
  have P_2_c2 := P_2.c2
  have X_2_c0 := X_2.c0
  have X_2_c1 := X_2.c1
  have X_2_c2 := X_2.c2
  have B_2_c0 := B_2.c0
  have B_2_c1 := B_2.c1
  have F_2_c0 := F_2.c0
  have F_2_c1 := F_2.c1
  have E_2_c0 := E_2.c0
  have E_2_c1 := E_2.c1
  have G_2_c0 := G_2.c0
  have G_2_c1 := G_2.c1
  go_wp2_with fail
  refine (codes_true _).mono ?_
  rintro e w3 ⟨rfl, y3⟩
  have P_3 := P_2.on y3
  have X_3 := X_2.on y3
  have B_3 := B_2.on y3
  have F_3 := F_2.on y3
  have E1_3 := E1_2.on y3
  have E_3 := E_2.on y3
  have G_3 := G_2.on y3
  clear P_2 P_2_c0 P_2_c1 P_2_c2 X_2 X_2_c0 X_2_c1 X_2_c2 B_2 B_2_c0 B_2_c1 F_2 F_2_c0 F_2_c1 E1_2 E_2 E_2_c0 E_2_c1 G_2 G_2_c0 G_2_c1
  have z3 := Z2.trans (y3.mono Z2.size)
  have Z3 := z3
  have P_3_c0 := P_3.c0
  have P_3_c1 := P_3.c1
  have P_3_c2 := P_3.c2
  have X_3_c0 := X_3.c0
  have X_3_c1 := X_3.c1
  have X_3_c2 := X_3.c2
  have B_3_c0 := B_3.c0
  have B_3_c1 := B_3.c1
  have F_3_c0 := F_3.c0
  have F_3_c1 := F_3.c1
  have E_3_c0 := E_3.c0
  have E_3_c1 := E_3.c1
  have G_3_c0 := G_3.c0
  have G_3_c1 := G_3.c1
  go_wp2_with fail
  refine (start_any _).mono ?_
  rintro e w4 ⟨rfl, y4⟩
  have P_4 := P_3.on y4
  have X_4 := X_3.on y4
  have B_4 := B_3.on y4
  have F_4 := F_3.on y4
  have E1_4 := E1_3.on y4
  have E_4 := E_3.on y4
  have G_4 := G_3.on y4
  clear P_3 P_3_c0 P_3_c1 P_3_c2 X_3 X_3_c0 X_3_c1 X_3_c2 B_3 B_3_c0 B_3_c1 F_3 F_3_c0 F_3_c1 E1_3 E_3 E_3_c0 E_3_c1 G_3 G_3_c0 G_3_c1
  have z4 := Z3.trans (y4.mono Z3.size)
  have Z4 := z4
  have P_4_c0 := P_4.c0
  have P_4_c1 := P_4.c1
  have P_4_c2 := P_4.c2
  have X_4_c0 := X_4.c0
  have X_4_c1 := X_4.c1
  have X_4_c2 := X_4.c2
  have B_4_c0 := B_4.c0
  have B_4_c1 := B_4.c1
  have F_4_c0 := F_4.c0
  have F_4_c1 := F_4.c1
  have E_4_c0 := E_4.c0
  have E_4_c1 := E_4.c1
  have G_4_c0 := G_4.c0
  have G_4_c1 := G_4.c1
  go_wp2_with fail
  refine (HCK.out _).mono ?_
  rintro e w5 ⟨rfl, y5⟩
  have P_5 := P_4.on y5
  have X_5 := X_4.on y5
  have B_5 := B_4.on y5
  have F_5 := F_4.on y5
  have E1_5 := E1_4.on y5
  have E_5 := E_4.on y5
  have G_5 := G_4.on y5
  clear P_4 P_4_c0 P_4_c1 P_4_c2 X_4 X_4_c0 X_4_c1 X_4_c2 B_4 B_4_c0 B_4_c1 F_4 F_4_c0 F_4_c1 E1_4 E_4 E_4_c0 E_4_c1 G_4 G_4_c0 G_4_c1
  have z5 := Z4.trans (y5.mono Z4.size)
  have Z5 := z5
  have P_5_c0 := P_5.c0
  have P_5_c1 := P_5.c1
  have P_5_c2 := P_5.c2
  have X_5_c0 := X_5.c0
  have X_5_c1 := X_5.c1
  have X_5_c2 := X_5.c2
  have B_5_c0 := B_5.c0
  have B_5_c1 := B_5.c1
  have F_5_c0 := F_5.c0
  have F_5_c1 := F_5.c1
  have E_5_c0 := E_5.c0
  have E_5_c1 := E_5.c1
  have G_5_c0 := G_5.c0
  have G_5_c1 := G_5.c1
  have P_6 := P_5.alloc (.cells #[.int .i64 2] 3)
  have X_6 := X_5.alloc (.cells #[.int .i64 2] 3)
  have B_6 := B_5.alloc (.cells #[.int .i64 2] 3)
  have F_6 := F_5.alloc (.cells #[.int .i64 2] 3)
  have E1_6 := E1_5.alloc (.cells #[.int .i64 2] 3)
  have E_6 := E_5.alloc (.cells #[.int .i64 2] 3)
  have G_6 := G_5.alloc (.cells #[.int .i64 2] 3)
  have K_6 := (show Rd (w5.alloc (.cells #[.int .i64 2] 3)) (some ⟨w5.heap.size, 0, none⟩) 1 1 (ncells [2]) from Rd.lit1 w5 rfl 2 3)
  have Z6 := Z5.alloc Z5.size (.cells #[.int .i64 2] 3)
  have P_6_c0 := P_6.c0
  have P_6_c1 := P_6.c1
  have P_6_c2 := P_6.c2
  have X_6_c0 := X_6.c0
  have X_6_c1 := X_6.c1
  have X_6_c2 := X_6.c2
  have B_6_c0 := B_6.c0
  have B_6_c1 := B_6.c1
  have F_6_c0 := F_6.c0
  have F_6_c1 := F_6.c1
  have E_6_c0 := E_6.c0
  have E_6_c1 := E_6.c1
  have G_6_c0 := G_6.c0
  have G_6_c1 := G_6.c1
  go_wp2_with fail
  refine (HSE.out _ _ _ _ K_6).mono ?_
  rintro e w7 ⟨A3, n3, c3, rfl, hn3, o3, y7⟩
  have P_7 := P_6.on y7
  have X_7 := X_6.on y7
  have B_7 := B_6.on y7
  have F_7 := F_6.on y7
  have E1_7 := E1_6.on y7
  have E_7 := E_6.on y7
  have G_7 := G_6.on y7
  have O_7 := o3
  clear P_5 P_5_c0 P_5_c1 P_5_c2 X_5 X_5_c0 X_5_c1 X_5_c2 B_5 B_5_c0 B_5_c1 F_5 F_5_c0 F_5_c1 E1_5 E_5 E_5_c0 E_5_c1 G_5 G_5_c0 G_5_c1 P_6 P_6_c0 P_6_c1 P_6_c2 X_6 X_6_c0 X_6_c1 X_6_c2 B_6 B_6_c0 B_6_c1 F_6 F_6_c0 F_6_c1 E1_6 E_6 E_6_c0 E_6_c1 G_6 G_6_c0 G_6_c1 K_6
  have z7 := Z6.trans (y7.mono Z6.size)
  have Z7 := z7
  have P_7_c0 := P_7.c0
  have P_7_c1 := P_7.c1
  have P_7_c2 := P_7.c2
  have X_7_c0 := X_7.c0
  have X_7_c1 := X_7.c1
  have X_7_c2 := X_7.c2
  have B_7_c0 := B_7.c0
  have B_7_c1 := B_7.c1
  have F_7_c0 := F_7.c0
  have F_7_c1 := F_7.c1
  have E_7_c0 := E_7.c0
  have E_7_c1 := E_7.c1
  have G_7_c0 := G_7.c0
  have G_7_c1 := G_7.c1
  go_wp2_with fail
  go_region_held3 (fun w' => w'.cell? ⟨w2.heap.size + 1, 0, none⟩ = some (.int .i64 0) ∧ w'.cell? ⟨w2.heap.size + 1, 1, none⟩ = some (.int .i64 0) ∧ w'.cell? ⟨w2.heap.size, 0, none⟩ = some (.slice A2 n2 c2) ∧ w'.cell? ⟨w2.heap.size, 1, none⟩ = some (.int .i64 (kf : Nat))) (go_keep) (first | (go_at_call 15; refine (arpacked hn3 (Rd.own (own_drew O_7)) HC01.out (by rw [← HKF.out]; omega)).mono ?_; rintro e w8 ⟨A4, n4, c4, rfl, RP, y8⟩; have Y8 : Below w7.heap.size w7.drew w8 := y8; have G_8_c0 := ((Two.on (w := w7.drew) G_7 Y8)).c0; have G_8_c1 := ((Two.on (w := w7.drew) G_7 Y8)).c1; have E_8_c0 := ((Two.on (w := w7.drew) E_7 Y8)).c0; have E_8_c1 := ((Two.on (w := w7.drew) E_7 Y8)).c1) | (go_at_call 14; refine (api_same (Rd.on (w := w7.drew) E1_7 Y8) RP HC01.out HC01.out true (by simp) _ _ (by rw [← HKF.out]) (by rw [hn3])).mono ?_; rintro e w9 ⟨rfl, y9⟩; have Y9 := Y8.trans (y9.mono Y8.size); have G_9_c0 := ((Two.on (w := w7.drew) G_7 Y9)).c0; have G_9_c1 := ((Two.on (w := w7.drew) G_7 Y9)).c1; have E_9_c0 := ((Two.on (w := w7.drew) E_7 Y9)).c0; have E_9_c1 := ((Two.on (w := w7.drew) E_7 Y9)).c1))
  have P_9 := (Three.on (w := w7.drew) P_7 Y9)
  have X_9 := (Three.on (w := w7.drew) X_7 Y9)
  have B_9 := (Two.on (w := w7.drew) B_7 Y9)
  have F_9 := (Two.on (w := w7.drew) F_7 Y9)
  have E1_9 := (Rd.on (w := w7.drew) E1_7 Y9)
  have E_9 := (Two.on (w := w7.drew) E_7 Y9)
  have G_9 := (Two.on (w := w7.drew) G_7 Y9)
  have O_9 := (own_on (w := w7.drew) O_7 Y9)
  have Z9 := (belowD Z7).trans (Y9.mono (belowD Z7).size)
  clear G_8_c0 G_8_c1 E_8_c0 E_8_c1 G_9_c0 G_9_c1 E_9_c0 E_9_c1
  clear P_7 P_7_c0 P_7_c1 P_7_c2 X_7 X_7_c0 X_7_c1 X_7_c2 B_7 B_7_c0 B_7_c1 F_7 F_7_c0 F_7_c1 E1_7 E_7 E_7_c0 E_7_c1 G_7 G_7_c0 G_7_c1 O_7
  have P_9_c0 := P_9.c0
  have P_9_c1 := P_9.c1
  have P_9_c2 := P_9.c2
  have X_9_c0 := X_9.c0
  have X_9_c1 := X_9.c1
  have X_9_c2 := X_9.c2
  have B_9_c0 := B_9.c0
  have B_9_c1 := B_9.c1
  have F_9_c0 := F_9.c0
  have F_9_c1 := F_9.c1
  have E_9_c0 := E_9.c0
  have E_9_c1 := E_9.c1
  have G_9_c0 := G_9.c0
  have G_9_c1 := G_9.c1
  clear G_9 G_9_c0 G_9_c1 E_9 E_9_c0 E_9_c1 E1_9 O_9
  have z9 := Z9
  have P_b := P_9
  have P_9q := P_9.alloc (.cells #[.int .i64 0, .int .i64 0] 27)
  have X_b := X_9
  have X_9q := X_9.alloc (.cells #[.int .i64 0, .int .i64 0] 27)
  have B_b := B_9
  have B_9q := B_9.alloc (.cells #[.int .i64 0, .int .i64 0] 27)
  have F_b := F_9
  have F_9q := F_9.alloc (.cells #[.int .i64 0, .int .i64 0] 27)
  have M_9q := Two.new w9 27 (.int .i64 0) (.int .i64 0)
  have CM_9q := (Below.refl w9.heap.size w9).alloc (Nat.le_refl _) (.cells #[.int .i64 0, .int .i64 0] 27)
  have Z9q := Z9.alloc Z9.size (.cells #[.int .i64 0, .int .i64 0] 27)
  clear P_9 P_9_c0 P_9_c1 P_9_c2 X_9 X_9_c0 X_9_c1 X_9_c2 B_9 B_9_c0 B_9_c1 F_9 F_9_c0 F_9_c1
  have P_9q_c0 := P_9q.c0
  have P_9q_c1 := P_9q.c1
  have P_9q_c2 := P_9q.c2
  have X_9q_c0 := X_9q.c0
  have X_9q_c1 := X_9q.c1
  have X_9q_c2 := X_9q.c2
  have B_9q_c0 := B_9q.c0
  have B_9q_c1 := B_9q.c1
  have F_9q_c0 := F_9q.c0
  have F_9q_c1 := F_9q.c1
  have M_9q_c0 := M_9q.c0
  have M_9q_c1 := M_9q.c1
  have M_9q_f0 := M_9q.f0
  have M_9q_f1 := M_9q.f1
  go_wp2_with fail
  refine (in_no _ _ _ _ HPR.out).mono ?_
  rintro e w9_1 ⟨rfl, rfl⟩
  go_wp2_with fail
  refine (refat_any _ _ _).mono ?_
  rintro e w10 ⟨rfl, y10⟩
  have P_10 := P_9q.on y10
  have X_10 := X_9q.on y10
  have B_10 := B_9q.on y10
  have F_10 := F_9q.on y10
  have M_10 := M_9q.on y10
  clear P_9q P_9q_c0 P_9q_c1 P_9q_c2 X_9q X_9q_c0 X_9q_c1 X_9q_c2 B_9q B_9q_c0 B_9q_c1 F_9q F_9q_c0 F_9q_c1 M_9q M_9q_c0 M_9q_c1 M_9q_f0 M_9q_f1
  have z10 := Z9q.trans (y10.mono Z9q.size)
  have Z10 := z10
  have cM10 := CM_9q.trans (y10.mono CM_9q.size)
  have CM_10 := cM10
  have P_10_c0 := P_10.c0
  have P_10_c1 := P_10.c1
  have P_10_c2 := P_10.c2
  have X_10_c0 := X_10.c0
  have X_10_c1 := X_10.c1
  have X_10_c2 := X_10.c2
  have B_10_c0 := B_10.c0
  have B_10_c1 := B_10.c1
  have F_10_c0 := F_10.c0
  have F_10_c1 := F_10.c1
  have M_10_c0 := M_10.c0
  have M_10_c1 := M_10.c1
  have M_10_f0 := M_10.f0
  have M_10_f1 := M_10.f1
  have CM_11 := (CM_10.setCell (p := ⟨w9.heap.size, 0, none⟩) (by simp) (.int .i64 4)).setCell (p := ⟨w9.heap.size, 1, none⟩) (by simp) (.int .i64 (-3))
  have Z11 := (Z10.setCell (p := ⟨w9.heap.size, 0, none⟩) (by have := z9.size; simp; omega) (.int .i64 4)).setCell (p := ⟨w9.heap.size, 1, none⟩) (by have := z9.size; simp; omega) (.int .i64 (-3))
  have P_11 := P_b.on CM_11
  have X_11 := X_b.on CM_11
  have B_11 := B_b.on CM_11
  have F_11 := F_b.on CM_11
  have M_11 := (M_10.set0 (.int .i64 4)).set1 (.int .i64 (-3))
  have P_11_c0 := P_11.c0
  have P_11_c1 := P_11.c1
  have P_11_c2 := P_11.c2
  have X_11_c0 := X_11.c0
  have X_11_c1 := X_11.c1
  have X_11_c2 := X_11.c2
  have B_11_c0 := B_11.c0
  have B_11_c1 := B_11.c1
  have F_11_c0 := F_11.c0
  have F_11_c1 := F_11.c1
  have M_11_c0 := M_11.c0
  have M_11_c1 := M_11.c1
  have M_11_f0 := M_11.f0
  have M_11_f1 := M_11.f1
  go_wp2_with fail
  refine (api_same (l := []) (l2 := []) (Rd.none_ _) (Rd.none_ _) Is01.nil Is01.nil true (by simp) _ _ rfl rfl).mono ?_
  rintro e w12 ⟨rfl, y12⟩
  have P_12 := P_11.on y12
  have X_12 := X_11.on y12
  have B_12 := B_11.on y12
  have F_12 := F_11.on y12
  have M_12 := M_11.on y12
  clear P_10 P_10_c0 P_10_c1 P_10_c2 X_10 X_10_c0 X_10_c1 X_10_c2 B_10 B_10_c0 B_10_c1 F_10 F_10_c0 F_10_c1 M_10 M_10_c0 M_10_c1 M_10_f0 M_10_f1 P_11 P_11_c0 P_11_c1 P_11_c2 X_11 X_11_c0 X_11_c1 X_11_c2 B_11 B_11_c0 B_11_c1 F_11 F_11_c0 F_11_c1 M_11 M_11_c0 M_11_c1 M_11_f0 M_11_f1
  have z12 := Z11.trans (y12.mono Z11.size)
  have Z12 := z12
  have cM12 := CM_11.trans (y12.mono CM_11.size)
  have CM_12 := cM12
  have P_12_c0 := P_12.c0
  have P_12_c1 := P_12.c1
  have P_12_c2 := P_12.c2
  have X_12_c0 := X_12.c0
  have X_12_c1 := X_12.c1
  have X_12_c2 := X_12.c2
  have B_12_c0 := B_12.c0
  have B_12_c1 := B_12.c1
  have F_12_c0 := F_12.c0
  have F_12_c1 := F_12.c1
  have M_12_c0 := M_12.c0
  have M_12_c1 := M_12.c1
  have M_12_f0 := M_12.f0
  have M_12_f1 := M_12.f1
  go_wp2
  go_ret
  exact ⟨rfl, Z12⟩
set_option maxRecDepth 100000 in
set_option maxHeartbeats 1600000 in
theorem ap_big1_h {lo hi p : Int} {q : Nat} (hok : COk lo hi (q : Nat)) (hp1 : 1 ≤ p) (hp2 : p ≤ 4095) (hbig : 131056 < (sentf (stp lo hi 1 p).2.2 q).2) (hlast : ¬ lo < 16384) (w : World)  :
    Calls Try.prog 8 #[.agg #[.int .i64 lo, .int .i64 hi, .int .i64 (q : Nat)], .int .i64 ((1 : Nat) : Int), .int .i64 p] w fun e w' => e = .returned (.bool true) ∧ Below w.heap.size w w' := by
  have hqq := hok.2.2
  have hb9 : 1 = if lo < 16384 then 0 else 1 := by rw [if_neg hlast]
  have HFI := Lib.hid (fun (W : World) => finish_ok hok 1 hb9 W)
  have HCK := Lib.hid (fun (W : World) => coderok_any lo hi (q : Nat) true ⟨fun _ => hok, fun _ => rfl⟩ W)
  obtain ⟨kf, hkf⟩ : ∃ kf, kf = (crt 1 (q + 1)).length := ⟨_, rfl⟩
  have hkf2 : kf ≤ q + 2 := by rw [hkf]; simp [crt]
  have hc01 : Is01 (crt 1 (q + 1)) := Is01.of_mem fun x hx => by have := crt_le (b := 1) (q := q + 1) (by decide) x hx; omega
  have HC01 := Lib.hid hc01
  have hsl : (sentf [2] (q + 1)) = (crt 1 (q + 1), 0) := by rw [sentf_other (by decide)]; simp [sentf]
  have HSE := Lib.hid (fun (W : World) (A9 : Option Addr) (n9 c9 : Nat) (hW : Rd W A9 n9 c9 (ncells [2])) => sent_any hW (by decide) (by decide) (q := q + 1) (by omega) (crt 1 (q + 1)) 0 (by rw [hsl]) (by rw [hsl]) ((q : Int) + 1) (by omega))
  rw [← hkf] at HFI
  have HKF := Lib.hid hkf
  have hlk : decide (lo < 16384) = false := by simpa using hlast
  obtain ⟨LO, hLO⟩ : ∃ LO, LO = (stp lo hi 1 p).1 := ⟨_, rfl⟩
  obtain ⟨HI, hHI⟩ : ∃ HI, HI = (stp lo hi 1 p).2.1 := ⟨_, rfl⟩
  obtain ⟨R, hR⟩ : ∃ R, R = (stp lo hi 1 p).2.2 := ⟨_, rfl⟩
  obtain ⟨S, hS⟩ : ∃ S, S = (sentf (stp lo hi 1 p).2.2 q).1 := ⟨_, rfl⟩
  obtain ⟨Q, hQ⟩ : ∃ Q, Q = (sentf (stp lo hi 1 p).2.2 q).2 := ⟨_, rfl⟩
  obtain ⟨f1, f2, f3, f4⟩ := stp_facts 1 hok.1 hp1 hp2
  have hcnt : S.length + Q = (stp lo hi 1 p).2.2.length + q := by rw [hS, hQ]; exact sentf_count _ _
  have HS01 := Lib.hid (show Is01 S from Is01.of_mem fun x hx => by have := sentf_le _ f3 q x (by rw [← hS]; exact hx); omega)
  rw [← hQ] at hbig
  have HST := Lib.hid (fun (W : World) => steps_any hok.1 hp1 hp2 (b := 1) (by decide) LO HI R hLO hHI hR (1 : Int) rfl W)
  have HPU := Lib.hid (fun (W : World) => put_big hok hp1 hp2 (b := 1) (by decide) LO HI S Q hLO hHI hS hQ hbig W)
  rw [← hR] at hS hQ f2 f3 hcnt
  have hSl : S.length ≤ 140000 := by omega
  have HS2 := Lib.hid (fun (W : World) (A9 : Option Addr) (n9 c9 : Nat) (hW : Rd W A9 n9 c9 (ncells R)) => sent_any hW f3 (by omega) (q := q) (by omega) S Q hS hQ (q : Nat) rfl)
  obtain ⟨ks, hks⟩ : ∃ ks, ks = S.length := ⟨_, rfl⟩
  have HKS := Lib.hid hks
  rw [← hks] at hSl
  have kbig : decide ((131056 : Int) < (Q : Int)) = true := by simp; omega
  have HP1 := Lib.hid hp1
  have HP2 := Lib.hid hp2
  have k0 : (((1 : Nat) : Int) != 0) = true := rfl
  have k1 : (((1 : Nat) : Int) != 1) = false := rfl
  clear hok hlast hb9 hkf hc01 hsl hLO hHI hS hQ hR f1 f3 f4 hcnt hp1 hp2 hks
  have P_0 := (Three.new w 50 (.int .i64 lo) (.int .i64 hi) (.int .i64 (q : Nat)))
  have Z0 := (Below.refl w.heap.size w).alloc (by simp) (.cells #[.int .i64 lo, .int .i64 hi, .int .i64 (q : Nat)] 50)
  have P_0_c0 := P_0.c0
  have P_0_c1 := P_0.c1
  have P_0_c2 := P_0.c2
  go_enter Try.func8, Try.ntmps8
  go_wp2_with fail
  refine (HPU.out _).mono ?_
  rintro e w1 ⟨rfl, y1⟩
  have P_1 := (((P_0.on y1).alloc (.cells #[.int .i64 0, .int .i64 0, .int .i64 0] 50)).alloc (.cells #[.slice none 0 0, .int .i64 0] 25)).alloc (.cells #[.int .i64 14, .int .i64 (-1)] 27)
  have X_1 := (((Three.new w1 50 (.int .i64 0) (.int .i64 0) (.int .i64 0))).alloc (.cells #[.slice none 0 0, .int .i64 0] 25)).alloc (.cells #[.int .i64 14, .int .i64 (-1)] 27)
  have B_1 := ((Two.new1 w1 (.cells #[.int .i64 0, .int .i64 0, .int .i64 0] 50) 25 (.slice none 0 0) (.int .i64 0))).alloc (.cells #[.int .i64 14, .int .i64 (-1)] 27)
  have F_1 := (Two.new2 w1 (.cells #[.int .i64 0, .int .i64 0, .int .i64 0] 50) (.cells #[.slice none 0 0, .int .i64 0] 25) 27 (.int .i64 14) (.int .i64 (-1)))
  clear P_0 P_0_c0 P_0_c1 P_0_c2
  have z1 := Z0.trans (y1.mono Z0.size)
  have Z1 := (((z1).alloc (by have := z1.size; omega) (.cells #[.int .i64 0, .int .i64 0, .int .i64 0] 50)).alloc (by have := z1.size; simp; omega) (.cells #[.slice none 0 0, .int .i64 0] 25)).alloc (by have := z1.size; simp; omega) (.cells #[.int .i64 14, .int .i64 (-1)] 27)
  have P_1_c0 := P_1.c0
  have P_1_c1 := P_1.c1
  have P_1_c2 := P_1.c2
  have X_1_c0 := X_1.c0
  have X_1_c1 := X_1.c1
  have X_1_c2 := X_1.c2
  have B_1_c0 := B_1.c0
  have B_1_c1 := B_1.c1
  have F_1_c0 := F_1.c0
  have F_1_c1 := F_1.c1
  go_wp2_with fail
  refine (HFI.out _).mono ?_
  rintro e w2 ⟨A2, n2, c2, rfl, R2, y2⟩
  have P_2 := ((P_1.on y2).alloc (.cells #[.slice A2 n2 c2, .int .i64 (kf : Nat)] 25)).alloc (.cells #[.int .i64 0, .int .i64 0] 27)
  have X_2 := ((X_1.on y2).alloc (.cells #[.slice A2 n2 c2, .int .i64 (kf : Nat)] 25)).alloc (.cells #[.int .i64 0, .int .i64 0] 27)
  have B_2 := ((B_1.on y2).alloc (.cells #[.slice A2 n2 c2, .int .i64 (kf : Nat)] 25)).alloc (.cells #[.int .i64 0, .int .i64 0] 27)
  have F_2 := ((F_1.on y2).alloc (.cells #[.slice A2 n2 c2, .int .i64 (kf : Nat)] 25)).alloc (.cells #[.int .i64 0, .int .i64 0] 27)
  have E1_2 := ((R2).alloc (.cells #[.slice A2 n2 c2, .int .i64 (kf : Nat)] 25)).alloc (.cells #[.int .i64 0, .int .i64 0] 27)
  have E_2 := ((Two.new w2 25 (.slice A2 n2 c2) (.int .i64 (kf : Nat)))).alloc (.cells #[.int .i64 0, .int .i64 0] 27)
  have G_2 := (Two.new1 w2 (.cells #[.slice A2 n2 c2, .int .i64 (kf : Nat)] 25) 27 (.int .i64 0) (.int .i64 0))
  clear P_1 P_1_c0 P_1_c1 P_1_c2 X_1 X_1_c0 X_1_c1 X_1_c2 B_1 B_1_c0 B_1_c1 F_1 F_1_c0 F_1_c1
  have z2 := Z1.trans (y2.mono Z1.size)
  have Z2 := ((z2).alloc (by have := z2.size; omega) (.cells #[.slice A2 n2 c2, .int .i64 (kf : Nat)] 25)).alloc (by have := z2.size; simp; omega) (.cells #[.int .i64 0, .int .i64 0] 27)
  have P_2_c0 := P_2.c0
  have P_2_c1 := P_2.c1
  have P_2_c2 := P_2.c2
  have X_2_c0 := X_2.c0
  have X_2_c1 := X_2.c1
  have X_2_c2 := X_2.c2
  have B_2_c0 := B_2.c0
  have B_2_c1 := B_2.c1
  have F_2_c0 := F_2.c0
  have F_2_c1 := F_2.c1
  have E_2_c0 := E_2.c0
  have E_2_c1 := E_2.c1
  have G_2_c0 := G_2.c0
  have G_2_c1 := G_2.c1
  go_wp2_with fail
  refine (codes_true _).mono ?_
  rintro e w3 ⟨rfl, y3⟩
  have P_3 := P_2.on y3
  have X_3 := X_2.on y3
  have B_3 := B_2.on y3
  have F_3 := F_2.on y3
  have E1_3 := E1_2.on y3
  have E_3 := E_2.on y3
  have G_3 := G_2.on y3
  clear P_2 P_2_c0 P_2_c1 P_2_c2 X_2 X_2_c0 X_2_c1 X_2_c2 B_2 B_2_c0 B_2_c1 F_2 F_2_c0 F_2_c1 E1_2 E_2 E_2_c0 E_2_c1 G_2 G_2_c0 G_2_c1
  have z3 := Z2.trans (y3.mono Z2.size)
  have Z3 := z3
  have P_3_c0 := P_3.c0
  have P_3_c1 := P_3.c1
  have P_3_c2 := P_3.c2
  have X_3_c0 := X_3.c0
  have X_3_c1 := X_3.c1
  have X_3_c2 := X_3.c2
  have B_3_c0 := B_3.c0
  have B_3_c1 := B_3.c1
  have F_3_c0 := F_3.c0
  have F_3_c1 := F_3.c1
  have E_3_c0 := E_3.c0
  have E_3_c1 := E_3.c1
  have G_3_c0 := G_3.c0
  have G_3_c1 := G_3.c1
  go_wp2_with fail
  refine (start_any _).mono ?_
  rintro e w4 ⟨rfl, y4⟩
  have P_4 := P_3.on y4
  have X_4 := X_3.on y4
  have B_4 := B_3.on y4
  have F_4 := F_3.on y4
  have E1_4 := E1_3.on y4
  have E_4 := E_3.on y4
  have G_4 := G_3.on y4
  clear P_3 P_3_c0 P_3_c1 P_3_c2 X_3 X_3_c0 X_3_c1 X_3_c2 B_3 B_3_c0 B_3_c1 F_3 F_3_c0 F_3_c1 E1_3 E_3 E_3_c0 E_3_c1 G_3 G_3_c0 G_3_c1
  have z4 := Z3.trans (y4.mono Z3.size)
  have Z4 := z4
  have P_4_c0 := P_4.c0
  have P_4_c1 := P_4.c1
  have P_4_c2 := P_4.c2
  have X_4_c0 := X_4.c0
  have X_4_c1 := X_4.c1
  have X_4_c2 := X_4.c2
  have B_4_c0 := B_4.c0
  have B_4_c1 := B_4.c1
  have F_4_c0 := F_4.c0
  have F_4_c1 := F_4.c1
  have E_4_c0 := E_4.c0
  have E_4_c1 := E_4.c1
  have G_4_c0 := G_4.c0
  have G_4_c1 := G_4.c1
  go_wp2_with fail
  refine (HCK.out _).mono ?_
  rintro e w5 ⟨rfl, y5⟩
  have P_5 := P_4.on y5
  have X_5 := X_4.on y5
  have B_5 := B_4.on y5
  have F_5 := F_4.on y5
  have E1_5 := E1_4.on y5
  have E_5 := E_4.on y5
  have G_5 := G_4.on y5
  clear P_4 P_4_c0 P_4_c1 P_4_c2 X_4 X_4_c0 X_4_c1 X_4_c2 B_4 B_4_c0 B_4_c1 F_4 F_4_c0 F_4_c1 E1_4 E_4 E_4_c0 E_4_c1 G_4 G_4_c0 G_4_c1
  have z5 := Z4.trans (y5.mono Z4.size)
  have Z5 := z5
  have P_5_c0 := P_5.c0
  have P_5_c1 := P_5.c1
  have P_5_c2 := P_5.c2
  have X_5_c0 := X_5.c0
  have X_5_c1 := X_5.c1
  have X_5_c2 := X_5.c2
  have B_5_c0 := B_5.c0
  have B_5_c1 := B_5.c1
  have F_5_c0 := F_5.c0
  have F_5_c1 := F_5.c1
  have E_5_c0 := E_5.c0
  have E_5_c1 := E_5.c1
  have G_5_c0 := G_5.c0
  have G_5_c1 := G_5.c1
  have P_6 := P_5.alloc (.cells #[.int .i64 2] 3)
  have X_6 := X_5.alloc (.cells #[.int .i64 2] 3)
  have B_6 := B_5.alloc (.cells #[.int .i64 2] 3)
  have F_6 := F_5.alloc (.cells #[.int .i64 2] 3)
  have E1_6 := E1_5.alloc (.cells #[.int .i64 2] 3)
  have E_6 := E_5.alloc (.cells #[.int .i64 2] 3)
  have G_6 := G_5.alloc (.cells #[.int .i64 2] 3)
  have K_6 := (show Rd (w5.alloc (.cells #[.int .i64 2] 3)) (some ⟨w5.heap.size, 0, none⟩) 1 1 (ncells [2]) from Rd.lit1 w5 rfl 2 3)
  have Z6 := Z5.alloc Z5.size (.cells #[.int .i64 2] 3)
  have P_6_c0 := P_6.c0
  have P_6_c1 := P_6.c1
  have P_6_c2 := P_6.c2
  have X_6_c0 := X_6.c0
  have X_6_c1 := X_6.c1
  have X_6_c2 := X_6.c2
  have B_6_c0 := B_6.c0
  have B_6_c1 := B_6.c1
  have F_6_c0 := F_6.c0
  have F_6_c1 := F_6.c1
  have E_6_c0 := E_6.c0
  have E_6_c1 := E_6.c1
  have G_6_c0 := G_6.c0
  have G_6_c1 := G_6.c1
  go_wp2_with fail
  refine (HSE.out _ _ _ _ K_6).mono ?_
  rintro e w7 ⟨A3, n3, c3, rfl, hn3, o3, y7⟩
  have P_7 := P_6.on y7
  have X_7 := X_6.on y7
  have B_7 := B_6.on y7
  have F_7 := F_6.on y7
  have E1_7 := E1_6.on y7
  have E_7 := E_6.on y7
  have G_7 := G_6.on y7
  have O_7 := o3
  clear P_5 P_5_c0 P_5_c1 P_5_c2 X_5 X_5_c0 X_5_c1 X_5_c2 B_5 B_5_c0 B_5_c1 F_5 F_5_c0 F_5_c1 E1_5 E_5 E_5_c0 E_5_c1 G_5 G_5_c0 G_5_c1 P_6 P_6_c0 P_6_c1 P_6_c2 X_6 X_6_c0 X_6_c1 X_6_c2 B_6 B_6_c0 B_6_c1 F_6 F_6_c0 F_6_c1 E1_6 E_6 E_6_c0 E_6_c1 G_6 G_6_c0 G_6_c1 K_6
  have z7 := Z6.trans (y7.mono Z6.size)
  have Z7 := z7
  have P_7_c0 := P_7.c0
  have P_7_c1 := P_7.c1
  have P_7_c2 := P_7.c2
  have X_7_c0 := X_7.c0
  have X_7_c1 := X_7.c1
  have X_7_c2 := X_7.c2
  have B_7_c0 := B_7.c0
  have B_7_c1 := B_7.c1
  have F_7_c0 := F_7.c0
  have F_7_c1 := F_7.c1
  have E_7_c0 := E_7.c0
  have E_7_c1 := E_7.c1
  have G_7_c0 := G_7.c0
  have G_7_c1 := G_7.c1
  go_wp2_with fail
  go_region_held3 (fun w' => w'.cell? ⟨w2.heap.size + 1, 0, none⟩ = some (.int .i64 0) ∧ w'.cell? ⟨w2.heap.size + 1, 1, none⟩ = some (.int .i64 0) ∧ w'.cell? ⟨w2.heap.size, 0, none⟩ = some (.slice A2 n2 c2) ∧ w'.cell? ⟨w2.heap.size, 1, none⟩ = some (.int .i64 (kf : Nat))) (go_keep) (first | (go_at_call 15; refine (arpacked hn3 (Rd.own (own_drew O_7)) HC01.out (by rw [← HKF.out]; omega)).mono ?_; rintro e w8 ⟨A4, n4, c4, rfl, RP, y8⟩; have Y8 : Below w7.heap.size w7.drew w8 := y8; have G_8_c0 := ((Two.on (w := w7.drew) G_7 Y8)).c0; have G_8_c1 := ((Two.on (w := w7.drew) G_7 Y8)).c1; have E_8_c0 := ((Two.on (w := w7.drew) E_7 Y8)).c0; have E_8_c1 := ((Two.on (w := w7.drew) E_7 Y8)).c1) | (go_at_call 14; refine (api_same (Rd.on (w := w7.drew) E1_7 Y8) RP HC01.out HC01.out true (by simp) _ _ (by rw [← HKF.out]) (by rw [hn3])).mono ?_; rintro e w9 ⟨rfl, y9⟩; have Y9 := Y8.trans (y9.mono Y8.size); have G_9_c0 := ((Two.on (w := w7.drew) G_7 Y9)).c0; have G_9_c1 := ((Two.on (w := w7.drew) G_7 Y9)).c1; have E_9_c0 := ((Two.on (w := w7.drew) E_7 Y9)).c0; have E_9_c1 := ((Two.on (w := w7.drew) E_7 Y9)).c1))
  have P_9 := (Three.on (w := w7.drew) P_7 Y9)
  have X_9 := (Three.on (w := w7.drew) X_7 Y9)
  have B_9 := (Two.on (w := w7.drew) B_7 Y9)
  have F_9 := (Two.on (w := w7.drew) F_7 Y9)
  have E1_9 := (Rd.on (w := w7.drew) E1_7 Y9)
  have E_9 := (Two.on (w := w7.drew) E_7 Y9)
  have G_9 := (Two.on (w := w7.drew) G_7 Y9)
  have O_9 := (own_on (w := w7.drew) O_7 Y9)
  have Z9 := (belowD Z7).trans (Y9.mono (belowD Z7).size)
  clear G_8_c0 G_8_c1 E_8_c0 E_8_c1 G_9_c0 G_9_c1 E_9_c0 E_9_c1
  clear P_7 P_7_c0 P_7_c1 P_7_c2 X_7 X_7_c0 X_7_c1 X_7_c2 B_7 B_7_c0 B_7_c1 F_7 F_7_c0 F_7_c1 E1_7 E_7 E_7_c0 E_7_c1 G_7 G_7_c0 G_7_c1 O_7
  have P_9_c0 := P_9.c0
  have P_9_c1 := P_9.c1
  have P_9_c2 := P_9.c2
  have X_9_c0 := X_9.c0
  have X_9_c1 := X_9.c1
  have X_9_c2 := X_9.c2
  have B_9_c0 := B_9.c0
  have B_9_c1 := B_9.c1
  have F_9_c0 := F_9.c0
  have F_9_c1 := F_9.c1
  have E_9_c0 := E_9.c0
  have E_9_c1 := E_9.c1
  have G_9_c0 := G_9.c0
  have G_9_c1 := G_9.c1
  clear G_9 G_9_c0 G_9_c1 E_9 E_9_c0 E_9_c1 E1_9 O_9
  have z9 := Z9
  have P_b := P_9
  have P_9q := P_9.alloc (.cells #[.int .i64 0, .int .i64 0] 27)
  have X_b := X_9
  have X_9q := X_9.alloc (.cells #[.int .i64 0, .int .i64 0] 27)
  have B_b := B_9
  have B_9q := B_9.alloc (.cells #[.int .i64 0, .int .i64 0] 27)
  have F_b := F_9
  have F_9q := F_9.alloc (.cells #[.int .i64 0, .int .i64 0] 27)
  have M_9q := Two.new w9 27 (.int .i64 0) (.int .i64 0)
  have CM_9q := (Below.refl w9.heap.size w9).alloc (Nat.le_refl _) (.cells #[.int .i64 0, .int .i64 0] 27)
  have Z9q := Z9.alloc Z9.size (.cells #[.int .i64 0, .int .i64 0] 27)
  clear P_9 P_9_c0 P_9_c1 P_9_c2 X_9 X_9_c0 X_9_c1 X_9_c2 B_9 B_9_c0 B_9_c1 F_9 F_9_c0 F_9_c1
  have P_9q_c0 := P_9q.c0
  have P_9q_c1 := P_9q.c1
  have P_9q_c2 := P_9q.c2
  have X_9q_c0 := X_9q.c0
  have X_9q_c1 := X_9q.c1
  have X_9q_c2 := X_9q.c2
  have B_9q_c0 := B_9q.c0
  have B_9q_c1 := B_9q.c1
  have F_9q_c0 := F_9q.c0
  have F_9q_c1 := F_9q.c1
  have M_9q_c0 := M_9q.c0
  have M_9q_c1 := M_9q.c1
  have M_9q_f0 := M_9q.f0
  have M_9q_f1 := M_9q.f1
  go_wp2_with fail
  refine (in_yes _ _ _ _ HP1.out HP2.out).mono ?_
  rintro e w9_1 ⟨rfl, rfl⟩
  go_wp2_with fail
  refine (HST.out _).mono ?_
  rintro e w10 ⟨A5, n5, c5, rfl, hn5, o5, y10⟩
  have P_10 := P_9q.on y10
  have X_10 := X_9q.on y10
  have B_10 := B_9q.on y10
  have F_10 := F_9q.on y10
  have M_10 := M_9q.on y10
  have T_10 := o5
  clear P_9q P_9q_c0 P_9q_c1 P_9q_c2 X_9q X_9q_c0 X_9q_c1 X_9q_c2 B_9q B_9q_c0 B_9q_c1 F_9q F_9q_c0 F_9q_c1 M_9q M_9q_c0 M_9q_c1 M_9q_f0 M_9q_f1
  have z10 := Z9q.trans (y10.mono Z9q.size)
  have Z10 := z10
  have cM10 := CM_9q.trans (y10.mono CM_9q.size)
  have CM_10 := cM10
  have P_10_c0 := P_10.c0
  have P_10_c1 := P_10.c1
  have P_10_c2 := P_10.c2
  have X_10_c0 := X_10.c0
  have X_10_c1 := X_10.c1
  have X_10_c2 := X_10.c2
  have B_10_c0 := B_10.c0
  have B_10_c1 := B_10.c1
  have F_10_c0 := F_10.c0
  have F_10_c1 := F_10.c1
  have M_10_c0 := M_10.c0
  have M_10_c1 := M_10.c1
  have M_10_f0 := M_10.f0
  have M_10_f1 := M_10.f1
  go_wp2_with fail
  refine (HS2.out _ _ _ _ (Rd.own T_10)).mono ?_
  rintro e w11 ⟨A6, n6, c6, rfl, hn6, o6, y11⟩
  have P_11 := P_10.on y11
  have X_11 := X_10.on y11
  have B_11 := B_10.on y11
  have F_11 := F_10.on y11
  have M_11 := M_10.on y11
  have U_11 := o6
  clear P_10 P_10_c0 P_10_c1 P_10_c2 X_10 X_10_c0 X_10_c1 X_10_c2 B_10 B_10_c0 B_10_c1 F_10 F_10_c0 F_10_c1 M_10 M_10_c0 M_10_c1 M_10_f0 M_10_f1 T_10
  have z11 := Z10.trans (y11.mono Z10.size)
  have Z11 := z11
  have cM11 := CM_10.trans (y11.mono CM_10.size)
  have CM_11 := cM11
  have P_11_c0 := P_11.c0
  have P_11_c1 := P_11.c1
  have P_11_c2 := P_11.c2
  have X_11_c0 := X_11.c0
  have X_11_c1 := X_11.c1
  have X_11_c2 := X_11.c2
  have B_11_c0 := B_11.c0
  have B_11_c1 := B_11.c1
  have F_11_c0 := F_11.c0
  have F_11_c1 := F_11.c1
  have M_11_c0 := M_11.c0
  have M_11_c1 := M_11.c1
  have M_11_f0 := M_11.f0
  have M_11_f1 := M_11.f1
  go_wp2_with fail
  refine (refat_any _ _ _).mono ?_
  rintro e w12 ⟨rfl, y12⟩
  have P_12 := P_11.on y12
  have X_12 := X_11.on y12
  have B_12 := B_11.on y12
  have F_12 := F_11.on y12
  have M_12 := M_11.on y12
  have U_12 := own_on U_11 y12
  clear P_11 P_11_c0 P_11_c1 P_11_c2 X_11 X_11_c0 X_11_c1 X_11_c2 B_11 B_11_c0 B_11_c1 F_11 F_11_c0 F_11_c1 M_11 M_11_c0 M_11_c1 M_11_f0 M_11_f1 U_11
  have z12 := Z11.trans (y12.mono Z11.size)
  have Z12 := z12
  have cM12 := CM_11.trans (y12.mono CM_11.size)
  have CM_12 := cM12
  have P_12_c0 := P_12.c0
  have P_12_c1 := P_12.c1
  have P_12_c2 := P_12.c2
  have X_12_c0 := X_12.c0
  have X_12_c1 := X_12.c1
  have X_12_c2 := X_12.c2
  have B_12_c0 := B_12.c0
  have B_12_c1 := B_12.c1
  have F_12_c0 := F_12.c0
  have F_12_c1 := F_12.c1
  have M_12_c0 := M_12.c0
  have M_12_c1 := M_12.c1
  have M_12_f0 := M_12.f0
  have M_12_f1 := M_12.f1
  have CM_13 := (CM_12.setCell (p := ⟨w9.heap.size, 0, none⟩) (by simp) (.int .i64 14)).setCell (p := ⟨w9.heap.size, 1, none⟩) (by simp) (.int .i64 (-1))
  have Z13 := (Z12.setCell (p := ⟨w9.heap.size, 0, none⟩) (by have := z9.size; simp; omega) (.int .i64 14)).setCell (p := ⟨w9.heap.size, 1, none⟩) (by have := z9.size; simp; omega) (.int .i64 (-1))
  have P_13 := P_b.on CM_13
  have X_13 := X_b.on CM_13
  have B_13 := B_b.on CM_13
  have F_13 := F_b.on CM_13
  have M_13 := (M_12.set0 (.int .i64 14)).set1 (.int .i64 (-1))
  have U_13 := own_far_any (own_far_any U_12 (p := ⟨w9.heap.size, 0, none⟩) (own_two_ne U_12 M_12 (by decide)) (.int .i64 14)) (p := ⟨w9.heap.size, 1, none⟩) (own_two_ne U_12 M_12 (by decide)) (.int .i64 (-1))
  have P_13_c0 := P_13.c0
  have P_13_c1 := P_13.c1
  have P_13_c2 := P_13.c2
  have X_13_c0 := X_13.c0
  have X_13_c1 := X_13.c1
  have X_13_c2 := X_13.c2
  have B_13_c0 := B_13.c0
  have B_13_c1 := B_13.c1
  have F_13_c0 := F_13.c0
  have F_13_c1 := F_13.c1
  have M_13_c0 := M_13.c0
  have M_13_c1 := M_13.c1
  have M_13_f0 := M_13.f0
  have M_13_f1 := M_13.f1
  go_wp2_with fail
  refine (api_same (l := []) (l2 := []) (Rd.none_ _) (Rd.none_ _) Is01.nil Is01.nil true (by simp) _ _ rfl rfl).mono ?_
  rintro e w14 ⟨rfl, y14⟩
  have P_14 := P_13.on y14
  have X_14 := X_13.on y14
  have B_14 := B_13.on y14
  have F_14 := F_13.on y14
  have M_14 := M_13.on y14
  have U_14 := own_on U_13 y14
  clear P_12 P_12_c0 P_12_c1 P_12_c2 X_12 X_12_c0 X_12_c1 X_12_c2 B_12 B_12_c0 B_12_c1 F_12 F_12_c0 F_12_c1 M_12 M_12_c0 M_12_c1 M_12_f0 M_12_f1 U_12 P_13 P_13_c0 P_13_c1 P_13_c2 X_13 X_13_c0 X_13_c1 X_13_c2 B_13 B_13_c0 B_13_c1 F_13 F_13_c0 F_13_c1 M_13 M_13_c0 M_13_c1 M_13_f0 M_13_f1 U_13
  have z14 := Z13.trans (y14.mono Z13.size)
  have Z14 := z14
  have cM14 := CM_13.trans (y14.mono CM_13.size)
  have CM_14 := cM14
  have P_14_c0 := P_14.c0
  have P_14_c1 := P_14.c1
  have P_14_c2 := P_14.c2
  have X_14_c0 := X_14.c0
  have X_14_c1 := X_14.c1
  have X_14_c2 := X_14.c2
  have B_14_c0 := B_14.c0
  have B_14_c1 := B_14.c1
  have F_14_c0 := F_14.c0
  have F_14_c1 := F_14.c1
  have M_14_c0 := M_14.c0
  have M_14_c1 := M_14.c1
  have M_14_f0 := M_14.f0
  have M_14_f1 := M_14.f1
  go_wp2
  go_ret
  exact ⟨rfl, Z14⟩
set_option maxRecDepth 100000 in
set_option maxHeartbeats 1600000 in
theorem ap_ok1_h {lo hi p : Int} {q : Nat} (hok : COk lo hi (q : Nat)) (hp1 : 1 ≤ p) (hp2 : p ≤ 4095) (hbig : (sentf (stp lo hi 1 p).2.2 q).2 ≤ 131056) (hlast : ¬ lo < 16384) (w : World)  :
    Calls Try.prog 8 #[.agg #[.int .i64 lo, .int .i64 hi, .int .i64 (q : Nat)], .int .i64 ((1 : Nat) : Int), .int .i64 p] w fun e w' => e = .returned (.bool true) ∧ Below w.heap.size w w' := by
  have hqq := hok.2.2
  have hb9 : 1 = if lo < 16384 then 0 else 1 := by rw [if_neg hlast]
  have HFI := Lib.hid (fun (W : World) => finish_ok hok 1 hb9 W)
  have HCK := Lib.hid (fun (W : World) => coderok_any lo hi (q : Nat) true ⟨fun _ => hok, fun _ => rfl⟩ W)
  obtain ⟨kf, hkf⟩ : ∃ kf, kf = (crt 1 (q + 1)).length := ⟨_, rfl⟩
  have hkf2 : kf ≤ q + 2 := by rw [hkf]; simp [crt]
  have hc01 : Is01 (crt 1 (q + 1)) := Is01.of_mem fun x hx => by have := crt_le (b := 1) (q := q + 1) (by decide) x hx; omega
  have HC01 := Lib.hid hc01
  have hsl : (sentf [2] (q + 1)) = (crt 1 (q + 1), 0) := by rw [sentf_other (by decide)]; simp [sentf]
  have HSE := Lib.hid (fun (W : World) (A9 : Option Addr) (n9 c9 : Nat) (hW : Rd W A9 n9 c9 (ncells [2])) => sent_any hW (by decide) (by decide) (q := q + 1) (by omega) (crt 1 (q + 1)) 0 (by rw [hsl]) (by rw [hsl]) ((q : Int) + 1) (by omega))
  rw [← hkf] at HFI
  have HKF := Lib.hid hkf
  have hlk : decide (lo < 16384) = false := by simpa using hlast
  obtain ⟨LO, hLO⟩ : ∃ LO, LO = (stp lo hi 1 p).1 := ⟨_, rfl⟩
  obtain ⟨HI, hHI⟩ : ∃ HI, HI = (stp lo hi 1 p).2.1 := ⟨_, rfl⟩
  obtain ⟨R, hR⟩ : ∃ R, R = (stp lo hi 1 p).2.2 := ⟨_, rfl⟩
  obtain ⟨S, hS⟩ : ∃ S, S = (sentf (stp lo hi 1 p).2.2 q).1 := ⟨_, rfl⟩
  obtain ⟨Q, hQ⟩ : ∃ Q, Q = (sentf (stp lo hi 1 p).2.2 q).2 := ⟨_, rfl⟩
  obtain ⟨f1, f2, f3, f4⟩ := stp_facts 1 hok.1 hp1 hp2
  have hcnt : S.length + Q = (stp lo hi 1 p).2.2.length + q := by rw [hS, hQ]; exact sentf_count _ _
  have HS01 := Lib.hid (show Is01 S from Is01.of_mem fun x hx => by have := sentf_le _ f3 q x (by rw [← hS]; exact hx); omega)
  rw [← hQ] at hbig
  have HST := Lib.hid (fun (W : World) => steps_any hok.1 hp1 hp2 (b := 1) (by decide) LO HI R hLO hHI hR (1 : Int) rfl W)
  have HPU := Lib.hid (fun (W : World) => put_ok hok hp1 hp2 (b := 1) (by decide) LO HI S Q hLO hHI hS hQ hbig W)
  rw [← hR] at hS hQ f2 f3 hcnt
  have hSl : S.length ≤ 140000 := by omega
  have HS2 := Lib.hid (fun (W : World) (A9 : Option Addr) (n9 c9 : Nat) (hW : Rd W A9 n9 c9 (ncells R)) => sent_any hW f3 (by omega) (q := q) (by omega) S Q hS hQ (q : Nat) rfl)
  obtain ⟨ks, hks⟩ : ∃ ks, ks = S.length := ⟨_, rfl⟩
  have HKS := Lib.hid hks
  rw [← hks] at hSl
  rw [← hks] at HPU
  have kbig : decide ((131056 : Int) < (Q : Int)) = false := by simp; omega
  have HP1 := Lib.hid hp1
  have HP2 := Lib.hid hp2
  have k0 : (((1 : Nat) : Int) != 0) = true := rfl
  have k1 : (((1 : Nat) : Int) != 1) = false := rfl
  clear hok hlast hb9 hkf hc01 hsl hLO hHI hS hQ hR f1 f3 f4 hcnt hp1 hp2 hks
  have P_0 := (Three.new w 50 (.int .i64 lo) (.int .i64 hi) (.int .i64 (q : Nat)))
  have Z0 := (Below.refl w.heap.size w).alloc (by simp) (.cells #[.int .i64 lo, .int .i64 hi, .int .i64 (q : Nat)] 50)
  have P_0_c0 := P_0.c0
  have P_0_c1 := P_0.c1
  have P_0_c2 := P_0.c2
  go_enter Try.func8, Try.ntmps8
  go_wp2_with fail
  refine (HPU.out _).mono ?_
  rintro e w1 ⟨A1, n1, c1, rfl, R1, y1⟩
  have P_1 := (((P_0.on y1).alloc (.cells #[.int .i64 LO, .int .i64 HI, .int .i64 (Q : Nat)] 50)).alloc (.cells #[.slice A1 n1 c1, .int .i64 (ks : Nat)] 25)).alloc (.cells #[.int .i64 0, .int .i64 0] 27)
  have R_1 := (((R1).alloc (.cells #[.int .i64 LO, .int .i64 HI, .int .i64 (Q : Nat)] 50)).alloc (.cells #[.slice A1 n1 c1, .int .i64 (ks : Nat)] 25)).alloc (.cells #[.int .i64 0, .int .i64 0] 27)
  have X_1 := (((Three.new w1 50 (.int .i64 LO) (.int .i64 HI) (.int .i64 (Q : Nat)))).alloc (.cells #[.slice A1 n1 c1, .int .i64 (ks : Nat)] 25)).alloc (.cells #[.int .i64 0, .int .i64 0] 27)
  have B_1 := ((Two.new1 w1 (.cells #[.int .i64 LO, .int .i64 HI, .int .i64 (Q : Nat)] 50) 25 (.slice A1 n1 c1) (.int .i64 (ks : Nat)))).alloc (.cells #[.int .i64 0, .int .i64 0] 27)
  have F_1 := (Two.new2 w1 (.cells #[.int .i64 LO, .int .i64 HI, .int .i64 (Q : Nat)] 50) (.cells #[.slice A1 n1 c1, .int .i64 (ks : Nat)] 25) 27 (.int .i64 0) (.int .i64 0))
  clear P_0 P_0_c0 P_0_c1 P_0_c2
  have z1 := Z0.trans (y1.mono Z0.size)
  have Z1 := (((z1).alloc (by have := z1.size; omega) (.cells #[.int .i64 LO, .int .i64 HI, .int .i64 (Q : Nat)] 50)).alloc (by have := z1.size; simp; omega) (.cells #[.slice A1 n1 c1, .int .i64 (ks : Nat)] 25)).alloc (by have := z1.size; simp; omega) (.cells #[.int .i64 0, .int .i64 0] 27)
  have P_1_c0 := P_1.c0
  have P_1_c1 := P_1.c1
  have P_1_c2 := P_1.c2
  have X_1_c0 := X_1.c0
  have X_1_c1 := X_1.c1
  have X_1_c2 := X_1.c2
  have B_1_c0 := B_1.c0
  have B_1_c1 := B_1.c1
  have F_1_c0 := F_1.c0
  have F_1_c1 := F_1.c1
  go_wp2_with fail
  refine (HFI.out _).mono ?_
  rintro e w2 ⟨A2, n2, c2, rfl, R2, y2⟩
  have P_2 := ((P_1.on y2).alloc (.cells #[.slice A2 n2 c2, .int .i64 (kf : Nat)] 25)).alloc (.cells #[.int .i64 0, .int .i64 0] 27)
  have R_2 := ((R_1.on y2).alloc (.cells #[.slice A2 n2 c2, .int .i64 (kf : Nat)] 25)).alloc (.cells #[.int .i64 0, .int .i64 0] 27)
  have X_2 := ((X_1.on y2).alloc (.cells #[.slice A2 n2 c2, .int .i64 (kf : Nat)] 25)).alloc (.cells #[.int .i64 0, .int .i64 0] 27)
  have B_2 := ((B_1.on y2).alloc (.cells #[.slice A2 n2 c2, .int .i64 (kf : Nat)] 25)).alloc (.cells #[.int .i64 0, .int .i64 0] 27)
  have F_2 := ((F_1.on y2).alloc (.cells #[.slice A2 n2 c2, .int .i64 (kf : Nat)] 25)).alloc (.cells #[.int .i64 0, .int .i64 0] 27)
  have E1_2 := ((R2).alloc (.cells #[.slice A2 n2 c2, .int .i64 (kf : Nat)] 25)).alloc (.cells #[.int .i64 0, .int .i64 0] 27)
  have E_2 := ((Two.new w2 25 (.slice A2 n2 c2) (.int .i64 (kf : Nat)))).alloc (.cells #[.int .i64 0, .int .i64 0] 27)
  have G_2 := (Two.new1 w2 (.cells #[.slice A2 n2 c2, .int .i64 (kf : Nat)] 25) 27 (.int .i64 0) (.int .i64 0))
  clear P_1 P_1_c0 P_1_c1 P_1_c2 R_1 X_1 X_1_c0 X_1_c1 X_1_c2 B_1 B_1_c0 B_1_c1 F_1 F_1_c0 F_1_c1
  have z2 := Z1.trans (y2.mono Z1.size)
  have Z2 := ((z2).alloc (by have := z2.size; omega) (.cells #[.slice A2 n2 c2, .int .i64 (kf : Nat)] 25)).alloc (by have := z2.size; simp; omega) (.cells #[.int .i64 0, .int .i64 0] 27)
  have P_2_c0 := P_2.c0
  have P_2_c1 := P_2.c1
  have P_2_c2 := P_2.c2
  have X_2_c0 := X_2.c0
  have X_2_c1 := X_2.c1
  have X_2_c2 := X_2.c2
  have B_2_c0 := B_2.c0
  have B_2_c1 := B_2.c1
  have F_2_c0 := F_2.c0
  have F_2_c1 := F_2.c1
  have E_2_c0 := E_2.c0
  have E_2_c1 := E_2.c1
  have G_2_c0 := G_2.c0
  have G_2_c1 := G_2.c1
  go_wp2_with fail
  refine (codes_true _).mono ?_
  rintro e w3 ⟨rfl, y3⟩
  have P_3 := P_2.on y3
  have R_3 := R_2.on y3
  have X_3 := X_2.on y3
  have B_3 := B_2.on y3
  have F_3 := F_2.on y3
  have E1_3 := E1_2.on y3
  have E_3 := E_2.on y3
  have G_3 := G_2.on y3
  clear P_2 P_2_c0 P_2_c1 P_2_c2 R_2 X_2 X_2_c0 X_2_c1 X_2_c2 B_2 B_2_c0 B_2_c1 F_2 F_2_c0 F_2_c1 E1_2 E_2 E_2_c0 E_2_c1 G_2 G_2_c0 G_2_c1
  have z3 := Z2.trans (y3.mono Z2.size)
  have Z3 := z3
  have P_3_c0 := P_3.c0
  have P_3_c1 := P_3.c1
  have P_3_c2 := P_3.c2
  have X_3_c0 := X_3.c0
  have X_3_c1 := X_3.c1
  have X_3_c2 := X_3.c2
  have B_3_c0 := B_3.c0
  have B_3_c1 := B_3.c1
  have F_3_c0 := F_3.c0
  have F_3_c1 := F_3.c1
  have E_3_c0 := E_3.c0
  have E_3_c1 := E_3.c1
  have G_3_c0 := G_3.c0
  have G_3_c1 := G_3.c1
  go_wp2_with fail
  refine (start_any _).mono ?_
  rintro e w4 ⟨rfl, y4⟩
  have P_4 := P_3.on y4
  have R_4 := R_3.on y4
  have X_4 := X_3.on y4
  have B_4 := B_3.on y4
  have F_4 := F_3.on y4
  have E1_4 := E1_3.on y4
  have E_4 := E_3.on y4
  have G_4 := G_3.on y4
  clear P_3 P_3_c0 P_3_c1 P_3_c2 R_3 X_3 X_3_c0 X_3_c1 X_3_c2 B_3 B_3_c0 B_3_c1 F_3 F_3_c0 F_3_c1 E1_3 E_3 E_3_c0 E_3_c1 G_3 G_3_c0 G_3_c1
  have z4 := Z3.trans (y4.mono Z3.size)
  have Z4 := z4
  have P_4_c0 := P_4.c0
  have P_4_c1 := P_4.c1
  have P_4_c2 := P_4.c2
  have X_4_c0 := X_4.c0
  have X_4_c1 := X_4.c1
  have X_4_c2 := X_4.c2
  have B_4_c0 := B_4.c0
  have B_4_c1 := B_4.c1
  have F_4_c0 := F_4.c0
  have F_4_c1 := F_4.c1
  have E_4_c0 := E_4.c0
  have E_4_c1 := E_4.c1
  have G_4_c0 := G_4.c0
  have G_4_c1 := G_4.c1
  go_wp2_with fail
  refine (HCK.out _).mono ?_
  rintro e w5 ⟨rfl, y5⟩
  have P_5 := P_4.on y5
  have R_5 := R_4.on y5
  have X_5 := X_4.on y5
  have B_5 := B_4.on y5
  have F_5 := F_4.on y5
  have E1_5 := E1_4.on y5
  have E_5 := E_4.on y5
  have G_5 := G_4.on y5
  clear P_4 P_4_c0 P_4_c1 P_4_c2 R_4 X_4 X_4_c0 X_4_c1 X_4_c2 B_4 B_4_c0 B_4_c1 F_4 F_4_c0 F_4_c1 E1_4 E_4 E_4_c0 E_4_c1 G_4 G_4_c0 G_4_c1
  have z5 := Z4.trans (y5.mono Z4.size)
  have Z5 := z5
  have P_5_c0 := P_5.c0
  have P_5_c1 := P_5.c1
  have P_5_c2 := P_5.c2
  have X_5_c0 := X_5.c0
  have X_5_c1 := X_5.c1
  have X_5_c2 := X_5.c2
  have B_5_c0 := B_5.c0
  have B_5_c1 := B_5.c1
  have F_5_c0 := F_5.c0
  have F_5_c1 := F_5.c1
  have E_5_c0 := E_5.c0
  have E_5_c1 := E_5.c1
  have G_5_c0 := G_5.c0
  have G_5_c1 := G_5.c1
  have P_6 := P_5.alloc (.cells #[.int .i64 2] 3)
  have R_6 := R_5.alloc (.cells #[.int .i64 2] 3)
  have X_6 := X_5.alloc (.cells #[.int .i64 2] 3)
  have B_6 := B_5.alloc (.cells #[.int .i64 2] 3)
  have F_6 := F_5.alloc (.cells #[.int .i64 2] 3)
  have E1_6 := E1_5.alloc (.cells #[.int .i64 2] 3)
  have E_6 := E_5.alloc (.cells #[.int .i64 2] 3)
  have G_6 := G_5.alloc (.cells #[.int .i64 2] 3)
  have K_6 := (show Rd (w5.alloc (.cells #[.int .i64 2] 3)) (some ⟨w5.heap.size, 0, none⟩) 1 1 (ncells [2]) from Rd.lit1 w5 rfl 2 3)
  have Z6 := Z5.alloc Z5.size (.cells #[.int .i64 2] 3)
  have P_6_c0 := P_6.c0
  have P_6_c1 := P_6.c1
  have P_6_c2 := P_6.c2
  have X_6_c0 := X_6.c0
  have X_6_c1 := X_6.c1
  have X_6_c2 := X_6.c2
  have B_6_c0 := B_6.c0
  have B_6_c1 := B_6.c1
  have F_6_c0 := F_6.c0
  have F_6_c1 := F_6.c1
  have E_6_c0 := E_6.c0
  have E_6_c1 := E_6.c1
  have G_6_c0 := G_6.c0
  have G_6_c1 := G_6.c1
  go_wp2_with fail
  refine (HSE.out _ _ _ _ K_6).mono ?_
  rintro e w7 ⟨A3, n3, c3, rfl, hn3, o3, y7⟩
  have P_7 := P_6.on y7
  have R_7 := R_6.on y7
  have X_7 := X_6.on y7
  have B_7 := B_6.on y7
  have F_7 := F_6.on y7
  have E1_7 := E1_6.on y7
  have E_7 := E_6.on y7
  have G_7 := G_6.on y7
  have O_7 := o3
  clear P_5 P_5_c0 P_5_c1 P_5_c2 R_5 X_5 X_5_c0 X_5_c1 X_5_c2 B_5 B_5_c0 B_5_c1 F_5 F_5_c0 F_5_c1 E1_5 E_5 E_5_c0 E_5_c1 G_5 G_5_c0 G_5_c1 P_6 P_6_c0 P_6_c1 P_6_c2 R_6 X_6 X_6_c0 X_6_c1 X_6_c2 B_6 B_6_c0 B_6_c1 F_6 F_6_c0 F_6_c1 E1_6 E_6 E_6_c0 E_6_c1 G_6 G_6_c0 G_6_c1 K_6
  have z7 := Z6.trans (y7.mono Z6.size)
  have Z7 := z7
  have P_7_c0 := P_7.c0
  have P_7_c1 := P_7.c1
  have P_7_c2 := P_7.c2
  have X_7_c0 := X_7.c0
  have X_7_c1 := X_7.c1
  have X_7_c2 := X_7.c2
  have B_7_c0 := B_7.c0
  have B_7_c1 := B_7.c1
  have F_7_c0 := F_7.c0
  have F_7_c1 := F_7.c1
  have E_7_c0 := E_7.c0
  have E_7_c1 := E_7.c1
  have G_7_c0 := G_7.c0
  have G_7_c1 := G_7.c1
  go_wp2_with fail
  go_region_held3 (fun w' => w'.cell? ⟨w2.heap.size + 1, 0, none⟩ = some (.int .i64 0) ∧ w'.cell? ⟨w2.heap.size + 1, 1, none⟩ = some (.int .i64 0) ∧ w'.cell? ⟨w2.heap.size, 0, none⟩ = some (.slice A2 n2 c2) ∧ w'.cell? ⟨w2.heap.size, 1, none⟩ = some (.int .i64 (kf : Nat))) (go_keep) (first | (go_at_call 15; refine (arpacked hn3 (Rd.own (own_drew O_7)) HC01.out (by rw [← HKF.out]; omega)).mono ?_; rintro e w8 ⟨A4, n4, c4, rfl, RP, y8⟩; have Y8 : Below w7.heap.size w7.drew w8 := y8; have G_8_c0 := ((Two.on (w := w7.drew) G_7 Y8)).c0; have G_8_c1 := ((Two.on (w := w7.drew) G_7 Y8)).c1; have E_8_c0 := ((Two.on (w := w7.drew) E_7 Y8)).c0; have E_8_c1 := ((Two.on (w := w7.drew) E_7 Y8)).c1) | (go_at_call 14; refine (api_same (Rd.on (w := w7.drew) E1_7 Y8) RP HC01.out HC01.out true (by simp) _ _ (by rw [← HKF.out]) (by rw [hn3])).mono ?_; rintro e w9 ⟨rfl, y9⟩; have Y9 := Y8.trans (y9.mono Y8.size); have G_9_c0 := ((Two.on (w := w7.drew) G_7 Y9)).c0; have G_9_c1 := ((Two.on (w := w7.drew) G_7 Y9)).c1; have E_9_c0 := ((Two.on (w := w7.drew) E_7 Y9)).c0; have E_9_c1 := ((Two.on (w := w7.drew) E_7 Y9)).c1))
  have P_9 := (Three.on (w := w7.drew) P_7 Y9)
  have R_9 := (Rd.on (w := w7.drew) R_7 Y9)
  have X_9 := (Three.on (w := w7.drew) X_7 Y9)
  have B_9 := (Two.on (w := w7.drew) B_7 Y9)
  have F_9 := (Two.on (w := w7.drew) F_7 Y9)
  have E1_9 := (Rd.on (w := w7.drew) E1_7 Y9)
  have E_9 := (Two.on (w := w7.drew) E_7 Y9)
  have G_9 := (Two.on (w := w7.drew) G_7 Y9)
  have O_9 := (own_on (w := w7.drew) O_7 Y9)
  have Z9 := (belowD Z7).trans (Y9.mono (belowD Z7).size)
  clear G_8_c0 G_8_c1 E_8_c0 E_8_c1 G_9_c0 G_9_c1 E_9_c0 E_9_c1
  clear P_7 P_7_c0 P_7_c1 P_7_c2 R_7 X_7 X_7_c0 X_7_c1 X_7_c2 B_7 B_7_c0 B_7_c1 F_7 F_7_c0 F_7_c1 E1_7 E_7 E_7_c0 E_7_c1 G_7 G_7_c0 G_7_c1 O_7
  have P_9_c0 := P_9.c0
  have P_9_c1 := P_9.c1
  have P_9_c2 := P_9.c2
  have X_9_c0 := X_9.c0
  have X_9_c1 := X_9.c1
  have X_9_c2 := X_9.c2
  have B_9_c0 := B_9.c0
  have B_9_c1 := B_9.c1
  have F_9_c0 := F_9.c0
  have F_9_c1 := F_9.c1
  have E_9_c0 := E_9.c0
  have E_9_c1 := E_9.c1
  have G_9_c0 := G_9.c0
  have G_9_c1 := G_9.c1
  clear G_9 G_9_c0 G_9_c1 E_9 E_9_c0 E_9_c1 E1_9 O_9
  have z9 := Z9
  have P_b := P_9
  have P_9q := P_9.alloc (.cells #[.int .i64 0, .int .i64 0] 27)
  have R_b := R_9
  have R_9q := R_9.alloc (.cells #[.int .i64 0, .int .i64 0] 27)
  have X_b := X_9
  have X_9q := X_9.alloc (.cells #[.int .i64 0, .int .i64 0] 27)
  have B_b := B_9
  have B_9q := B_9.alloc (.cells #[.int .i64 0, .int .i64 0] 27)
  have F_b := F_9
  have F_9q := F_9.alloc (.cells #[.int .i64 0, .int .i64 0] 27)
  have M_9q := Two.new w9 27 (.int .i64 0) (.int .i64 0)
  have CM_9q := (Below.refl w9.heap.size w9).alloc (Nat.le_refl _) (.cells #[.int .i64 0, .int .i64 0] 27)
  have Z9q := Z9.alloc Z9.size (.cells #[.int .i64 0, .int .i64 0] 27)
  clear P_9 P_9_c0 P_9_c1 P_9_c2 R_9 X_9 X_9_c0 X_9_c1 X_9_c2 B_9 B_9_c0 B_9_c1 F_9 F_9_c0 F_9_c1
  have P_9q_c0 := P_9q.c0
  have P_9q_c1 := P_9q.c1
  have P_9q_c2 := P_9q.c2
  have X_9q_c0 := X_9q.c0
  have X_9q_c1 := X_9q.c1
  have X_9q_c2 := X_9q.c2
  have B_9q_c0 := B_9q.c0
  have B_9q_c1 := B_9q.c1
  have F_9q_c0 := F_9q.c0
  have F_9q_c1 := F_9q.c1
  have M_9q_c0 := M_9q.c0
  have M_9q_c1 := M_9q.c1
  have M_9q_f0 := M_9q.f0
  have M_9q_f1 := M_9q.f1
  go_wp2_with fail
  refine (in_yes _ _ _ _ HP1.out HP2.out).mono ?_
  rintro e w9_1 ⟨rfl, rfl⟩
  go_wp2_with fail
  refine (HST.out _).mono ?_
  rintro e w10 ⟨A5, n5, c5, rfl, hn5, o5, y10⟩
  have P_10 := P_9q.on y10
  have R_10 := R_9q.on y10
  have X_10 := X_9q.on y10
  have B_10 := B_9q.on y10
  have F_10 := F_9q.on y10
  have M_10 := M_9q.on y10
  have T_10 := o5
  clear P_9q P_9q_c0 P_9q_c1 P_9q_c2 R_9q X_9q X_9q_c0 X_9q_c1 X_9q_c2 B_9q B_9q_c0 B_9q_c1 F_9q F_9q_c0 F_9q_c1 M_9q M_9q_c0 M_9q_c1 M_9q_f0 M_9q_f1
  have z10 := Z9q.trans (y10.mono Z9q.size)
  have Z10 := z10
  have cM10 := CM_9q.trans (y10.mono CM_9q.size)
  have CM_10 := cM10
  have P_10_c0 := P_10.c0
  have P_10_c1 := P_10.c1
  have P_10_c2 := P_10.c2
  have X_10_c0 := X_10.c0
  have X_10_c1 := X_10.c1
  have X_10_c2 := X_10.c2
  have B_10_c0 := B_10.c0
  have B_10_c1 := B_10.c1
  have F_10_c0 := F_10.c0
  have F_10_c1 := F_10.c1
  have M_10_c0 := M_10.c0
  have M_10_c1 := M_10.c1
  have M_10_f0 := M_10.f0
  have M_10_f1 := M_10.f1
  go_wp2_with fail
  refine (HS2.out _ _ _ _ (Rd.own T_10)).mono ?_
  rintro e w11 ⟨A6, n6, c6, rfl, hn6, o6, y11⟩
  have P_11 := P_10.on y11
  have R_11 := R_10.on y11
  have X_11 := X_10.on y11
  have B_11 := B_10.on y11
  have F_11 := F_10.on y11
  have M_11 := M_10.on y11
  have U_11 := o6
  clear P_10 P_10_c0 P_10_c1 P_10_c2 R_10 X_10 X_10_c0 X_10_c1 X_10_c2 B_10 B_10_c0 B_10_c1 F_10 F_10_c0 F_10_c1 M_10 M_10_c0 M_10_c1 M_10_f0 M_10_f1 T_10
  have z11 := Z10.trans (y11.mono Z10.size)
  have Z11 := z11
  have cM11 := CM_10.trans (y11.mono CM_10.size)
  have CM_11 := cM11
  have P_11_c0 := P_11.c0
  have P_11_c1 := P_11.c1
  have P_11_c2 := P_11.c2
  have X_11_c0 := X_11.c0
  have X_11_c1 := X_11.c1
  have X_11_c2 := X_11.c2
  have B_11_c0 := B_11.c0
  have B_11_c1 := B_11.c1
  have F_11_c0 := F_11.c0
  have F_11_c1 := F_11.c1
  have M_11_c0 := M_11.c0
  have M_11_c1 := M_11.c1
  have M_11_f0 := M_11.f0
  have M_11_f1 := M_11.f1
  go_wp2_with fail
  go_region_held3 (fun w' => w'.cell? ⟨w1.heap.size + 2, 0, none⟩ = some (.int .i64 0) ∧ w'.cell? ⟨w1.heap.size + 2, 1, none⟩ = some (.int .i64 0) ∧ w'.cell? ⟨w1.heap.size, 0, none⟩ = some (.int .i64 LO) ∧ w'.cell? ⟨w1.heap.size, 1, none⟩ = some (.int .i64 HI) ∧ w'.cell? ⟨w1.heap.size, 2, none⟩ = some (.int .i64 (Q : Nat)) ∧ w'.cell? ⟨w1.heap.size + 1, 0, none⟩ = some (.slice A1 n1 c1) ∧ w'.cell? ⟨w1.heap.size + 1, 1, none⟩ = some (.int .i64 (ks : Nat))) (go_keep) (first | (go_at_call 15; refine (arpacked (hn6) (Rd.own (own_drew U_11)) HS01.out (by rw [← HKS.out]; omega)).mono ?_; rintro e w12 ⟨A7, n7, c7, rfl, RQ, y12⟩; have Y12 : Below w11.heap.size w11.drew w12 := y12; have F_12_c0 := ((Two.on (w := w11.drew) F_11 Y12)).c0; have F_12_c1 := ((Two.on (w := w11.drew) F_11 Y12)).c1; have X_12_c0 := ((Three.on (w := w11.drew) X_11 Y12)).c0; have X_12_c1 := ((Three.on (w := w11.drew) X_11 Y12)).c1; have X_12_c2 := ((Three.on (w := w11.drew) X_11 Y12)).c2; have B_12_c0 := ((Two.on (w := w11.drew) B_11 Y12)).c0; have B_12_c1 := ((Two.on (w := w11.drew) B_11 Y12)).c1) | (go_at_call 14; refine (api_same (Rd.on (w := w11.drew) R_11 Y12) RQ HS01.out HS01.out true (by simp) _ _ (by rw [← HKS.out]) (by rw [hn6])).mono ?_; rintro e w13 ⟨rfl, y13⟩; have Y13 := Y12.trans (y13.mono Y12.size); have F_13_c0 := ((Two.on (w := w11.drew) F_11 Y13)).c0; have F_13_c1 := ((Two.on (w := w11.drew) F_11 Y13)).c1; have X_13_c0 := ((Three.on (w := w11.drew) X_11 Y13)).c0; have X_13_c1 := ((Three.on (w := w11.drew) X_11 Y13)).c1; have X_13_c2 := ((Three.on (w := w11.drew) X_11 Y13)).c2; have B_13_c0 := ((Two.on (w := w11.drew) B_11 Y13)).c0; have B_13_c1 := ((Two.on (w := w11.drew) B_11 Y13)).c1))
  have P_13 := (Three.on (w := w11.drew) P_11 Y13)
  have R_13 := (Rd.on (w := w11.drew) R_11 Y13)
  have X_13 := (Three.on (w := w11.drew) X_11 Y13)
  have B_13 := (Two.on (w := w11.drew) B_11 Y13)
  have F_13 := (Two.on (w := w11.drew) F_11 Y13)
  have M_13 := (Two.on (w := w11.drew) M_11 Y13)
  have U_13 := (own_on (w := w11.drew) U_11 Y13)
  have Z13 := (belowD Z11).trans (Y13.mono (belowD Z11).size)
  have CM_13 := (belowD CM_11).trans (Y13.mono (belowD CM_11).size)
  clear F_12_c0 F_12_c1 X_12_c0 X_12_c1 X_12_c2 B_12_c0 B_12_c1 F_13_c0 F_13_c1 X_13_c0 X_13_c1 X_13_c2 B_13_c0 B_13_c1
  clear P_11 P_11_c0 P_11_c1 P_11_c2 R_11 X_11 X_11_c0 X_11_c1 X_11_c2 B_11 B_11_c0 B_11_c1 F_11 F_11_c0 F_11_c1 M_11 M_11_c0 M_11_c1 M_11_f0 M_11_f1 U_11
  have P_13_c0 := P_13.c0
  have P_13_c1 := P_13.c1
  have P_13_c2 := P_13.c2
  have X_13_c0 := X_13.c0
  have X_13_c1 := X_13.c1
  have X_13_c2 := X_13.c2
  have B_13_c0 := B_13.c0
  have B_13_c1 := B_13.c1
  have F_13_c0 := F_13.c0
  have F_13_c1 := F_13.c1
  have M_13_c0 := M_13.c0
  have M_13_c1 := M_13.c1
  have M_13_f0 := M_13.f0
  have M_13_f1 := M_13.f1
  go_wp2
  go_ret
  exact ⟨rfl, Z13⟩
theorem ap_all {lo hi q b p : Int} (w : World) : Calls Try.prog 8 #[.agg #[.int .i64 lo, .int .i64 hi, .int .i64 q], .int .i64 b, .int .i64 p] w fun e w' => e = .returned (.bool true) ∧ Below w.heap.size w w' := by
  by_cases hok : COk lo hi q
  · obtain ⟨m, rfl⟩ : ∃ m : Nat, q = (m : Nat) := ⟨q.toNat, by have := hok.2.1; omega⟩
    by_cases hlast : lo < 16384
    · by_cases hb : b ≠ 0 ∧ b ≠ 1
      · exact ap_bit_l hok hb hlast w
      · by_cases hp : 1 ≤ p ∧ p ≤ 4095
        · rcases (by omega : b = 0 ∨ b = 1) with rfl | rfl
          · by_cases hbig : 131056 < (sentf (stp lo hi 0 p).2.2 m).2
            · exact ap_big0_l hok hp.1 hp.2 hbig hlast w
            · exact ap_ok0_l hok hp.1 hp.2 (by omega) hlast w
          · by_cases hbig : 131056 < (sentf (stp lo hi 1 p).2.2 m).2
            · exact ap_big1_l hok hp.1 hp.2 hbig hlast w
            · exact ap_ok1_l hok hp.1 hp.2 (by omega) hlast w
        · rcases (by omega : b = 0 ∨ b = 1) with rfl | rfl
          · exact ap_prob0_l hok hp hlast w
          · exact ap_prob1_l hok hp hlast w
    · by_cases hb : b ≠ 0 ∧ b ≠ 1
      · exact ap_bit_h hok hb hlast w
      · by_cases hp : 1 ≤ p ∧ p ≤ 4095
        · rcases (by omega : b = 0 ∨ b = 1) with rfl | rfl
          · by_cases hbig : 131056 < (sentf (stp lo hi 0 p).2.2 m).2
            · exact ap_big0_h hok hp.1 hp.2 hbig hlast w
            · exact ap_ok0_h hok hp.1 hp.2 (by omega) hlast w
          · by_cases hbig : 131056 < (sentf (stp lo hi 1 p).2.2 m).2
            · exact ap_big1_h hok hp.1 hp.2 hbig hlast w
            · exact ap_ok1_h hok hp.1 hp.2 (by omega) hlast w
        · rcases (by omega : b = 0 ∨ b = 1) with rfl | rfl
          · exact ap_prob0_h hok hp hlast w
          · exact ap_prob1_h hok hp hlast w
  · exact ap_form hok b p w
end PB
end Go.Proofs.Ytnnpkajmheglgaa
