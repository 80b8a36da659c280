/-
  Ranks and positions are as specified: the walk of the statement RankMatchesSpec.
-/
import Derived.Test.YtckimocmppdecaaRows
import Derived.Test.YtckimocmppdecaaRankBuildLaw
import Derived.Deep.RegionHeld3
import Derived.Deep.DrawnRows
namespace Go.Proofs.Ytckimocmppdecaa
open Go.RowKit
attribute [local go_sem ↓] Go.wp_at_zero Go.wp_at_succ
set_option linter.unusedVariables false
set_option linter.unusedSimpArgs false
namespace PB
theorem noplace_big {l : List Nat} {q v : Nat} (h : l.length ≤ q) : NoPlace l q v := Nat.le_trans (by unfold cntv; first | exact List.count_le_length | exact List.countP_le_length | exact List.length_filter_le _ _) h
theorem sel_none {A : Option Addr} {n c : Nat} {l : List Nat} {A2 : Option Addr} {n2 c2 : Nat} {k : Nat} {w : World} (hk : k < 9223372036854775808) (hp : NoPlace l k 1) (h : Rd w A n c (bcells (pack l))) (h2 : Rd w A2 n2 c2 (ncells (sumsL l))) (h01 : Is01 l) (hl : l.length ≤ 131072) :
    Calls Try.prog 17 #[.agg #[.slice A n c, .int .i64 (l.length : Nat), .slice A2 n2 c2], .int .i64 (k : Nat)] w fun e w' => e = .returned (.tuple #[.int .i64 0, .agg #[.int .i64 4, .int .i64 (-2)]]) ∧ Below w.heap.size w w' :=
  sel_any (p := 0) hk (.inl ⟨hp, rfl, rfl, rfl⟩) h h2 h01 hl
theorem selz_none {A : Option Addr} {n c : Nat} {l : List Nat} {A2 : Option Addr} {n2 c2 : Nat} {k : Nat} {w : World} (hk : k < 9223372036854775808) (hp : NoPlace l k 0) (h : Rd w A n c (bcells (pack l))) (h2 : Rd w A2 n2 c2 (ncells (sumsL l))) (h01 : Is01 l) (hl : l.length ≤ 131072) :
    Calls Try.prog 18 #[.agg #[.slice A n c, .int .i64 (l.length : Nat), .slice A2 n2 c2], .int .i64 (k : Nat)] w fun e w' => e = .returned (.tuple #[.int .i64 0, .agg #[.int .i64 4, .int .i64 (-2)]]) ∧ Below w.heap.size w w' :=
  selz_any (p := 0) hk (.inl ⟨hp, rfl, rfl, rfl⟩) h h2 h01 hl
set_option maxRecDepth 100000 in
set_option maxHeartbeats 3200000 in
theorem rm_n {A : Option Addr} {n c : Nat} {A2 : Option Addr} {n2 c2 : Nat} {ii : Int} (hilo : -9223372036854775808 ≤ ii) (hihi : ii ≤ 9223372036854775807) {d : List Nat} {cnt : Int} {zs : List Int} (hd : ∀ k, d.getD k 0 < 256) (hlo : -9223372036854775808 ≤ cnt) (hhi : cnt ≤ 9223372036854775807) (hV : VNo d cnt zs)  (w : World) (h : Rd w A n c (bcells d)) (hs : Rd w A2 n2 c2 (icells zs)) :
    Calls Try.prog 4 #[.agg #[.slice A n c, .int .i64 cnt, .slice A2 n2 c2], .int .i64 ii] w fun e w' => e = .returned (.bool true) ∧ Below w.heap.size w w' := by
  have HV := Lib.hid hV
  have HD := Lib.hid hd
  clear hV hd
  have R_0 := (h).alloc (.cells #[.slice A n c, .int .i64 cnt, .slice A2 n2 c2] 27)
  have S_0 := (hs).alloc (.cells #[.slice A n c, .int .i64 cnt, .slice A2 n2 c2] 27)
  have V_0 := (Three.new w 27 (.slice A n c) (.int .i64 cnt) (.slice A2 n2 c2))
  have Z0 := (Below.refl w.heap.size w).alloc (by simp) (.cells #[.slice A n c, .int .i64 cnt, .slice A2 n2 c2] 27)
  have V_0_c0 := V_0.c0
  have V_0_c1 := V_0.c1
  have V_0_c2 := V_0.c2
  go_enter Try.func4, Try.ntmps4
  go_wp2_with fail
  refine (rk_bad R_0 S_0 HV.out).mono ?_
  rintro e w1 ⟨rfl, y1⟩
  have R_1 := (R_0.on y1).alloc (.cells #[.int .i64 6, .int .i64 (-1)] 29)
  have S_1 := (S_0.on y1).alloc (.cells #[.int .i64 6, .int .i64 (-1)] 29)
  have V_1 := (V_0.on y1).alloc (.cells #[.int .i64 6, .int .i64 (-1)] 29)
  have F_1 := (Two.new w1 29 (.int .i64 6) (.int .i64 (-1)))
  clear R_0 S_0 V_0 V_0_c0 V_0_c1 V_0_c2
  have z1 := Z0.trans (y1.mono Z0.size)
  have Z1 := (z1).alloc (by have := z1.size; omega) (.cells #[.int .i64 6, .int .i64 (-1)] 29)
  have V_1_c0 := V_1.c0
  have V_1_c1 := V_1.c1
  have V_1_c2 := V_1.c2
  have F_1_c0 := F_1.c0
  have F_1_c1 := F_1.c1
  go_wp2_with fail
  refine (sel_bad R_1 S_1 HV.out).mono ?_
  rintro e w2 ⟨rfl, y2⟩
  have R_2 := (R_1.on y2).alloc (.cells #[.int .i64 6, .int .i64 (-1)] 29)
  have S_2 := (S_1.on y2).alloc (.cells #[.int .i64 6, .int .i64 (-1)] 29)
  have V_2 := (V_1.on y2).alloc (.cells #[.int .i64 6, .int .i64 (-1)] 29)
  have F_2 := (F_1.on y2).alloc (.cells #[.int .i64 6, .int .i64 (-1)] 29)
  have G_2 := (Two.new w2 29 (.int .i64 6) (.int .i64 (-1)))
  clear R_1 S_1 V_1 V_1_c0 V_1_c1 V_1_c2 F_1 F_1_c0 F_1_c1
  have z2 := Z1.trans (y2.mono Z1.size)
  have Z2 := (z2).alloc (by have := z2.size; omega) (.cells #[.int .i64 6, .int .i64 (-1)] 29)
  have V_2_c0 := V_2.c0
  have V_2_c1 := V_2.c1
  have V_2_c2 := V_2.c2
  have F_2_c0 := F_2.c0
  have F_2_c1 := F_2.c1
  have G_2_c0 := G_2.c0
  have G_2_c1 := G_2.c1
  go_wp2_with fail
  refine (selz_bad R_2 S_2 HV.out).mono ?_
  rintro e w3 ⟨rfl, y3⟩
  have R_3 := (R_2.on y3).alloc (.cells #[.int .i64 6, .int .i64 (-1)] 29)
  have S_3 := (S_2.on y3).alloc (.cells #[.int .i64 6, .int .i64 (-1)] 29)
  have V_3 := (V_2.on y3).alloc (.cells #[.int .i64 6, .int .i64 (-1)] 29)
  have F_3 := (F_2.on y3).alloc (.cells #[.int .i64 6, .int .i64 (-1)] 29)
  have G_3 := (G_2.on y3).alloc (.cells #[.int .i64 6, .int .i64 (-1)] 29)
  have E_3 := (Two.new w3 29 (.int .i64 6) (.int .i64 (-1)))
  clear R_2 S_2 V_2 V_2_c0 V_2_c1 V_2_c2 F_2 F_2_c0 F_2_c1 G_2 G_2_c0 G_2_c1
  have z3 := Z2.trans (y3.mono Z2.size)
  have Z3 := (z3).alloc (by have := z3.size; omega) (.cells #[.int .i64 6, .int .i64 (-1)] 29)
  have V_3_c0 := V_3.c0
  have V_3_c1 := V_3.c1
  have V_3_c2 := V_3.c2
  have F_3_c0 := F_3.c0
  have F_3_c1 := F_3.c1
  have G_3_c0 := G_3.c0
  have G_3_c1 := G_3.c1
  have E_3_c0 := E_3.c0
  have E_3_c1 := E_3.c1
  go_wp2_with fail
  refine (ranks_true _).mono ?_
  rintro e w4 ⟨rfl, y4⟩
  have R_4 := R_3.on y4
  have S_4 := S_3.on y4
  have V_4 := V_3.on y4
  have F_4 := F_3.on y4
  have G_4 := G_3.on y4
  have E_4 := E_3.on y4
  clear R_3 S_3 V_3 V_3_c0 V_3_c1 V_3_c2 F_3 F_3_c0 F_3_c1 G_3 G_3_c0 G_3_c1 E_3 E_3_c0 E_3_c1
  have z4 := Z3.trans (y4.mono Z3.size)
  have Z4 := z4
  have V_4_c0 := V_4.c0
  have V_4_c1 := V_4.c1
  have V_4_c2 := V_4.c2
  have F_4_c0 := F_4.c0
  have F_4_c1 := F_4.c1
  have G_4_c0 := G_4.c0
  have G_4_c1 := G_4.c1
  have E_4_c0 := E_4.c0
  have E_4_c1 := E_4.c1
  go_wp2_with fail
  refine (refat_any _ _ _).mono ?_
  rintro e w5 ⟨rfl, y5⟩
  have R_5 := (R_4.on y5).alloc (.cells #[.int .i64 6, .int .i64 (-1)] 29)
  have S_5 := (S_4.on y5).alloc (.cells #[.int .i64 6, .int .i64 (-1)] 29)
  have V_5 := (V_4.on y5).alloc (.cells #[.int .i64 6, .int .i64 (-1)] 29)
  have F_5 := (F_4.on y5).alloc (.cells #[.int .i64 6, .int .i64 (-1)] 29)
  have G_5 := (G_4.on y5).alloc (.cells #[.int .i64 6, .int .i64 (-1)] 29)
  have E_5 := (E_4.on y5).alloc (.cells #[.int .i64 6, .int .i64 (-1)] 29)
  have W_5 := (Two.new w5 29 (.int .i64 6) (.int .i64 (-1)))
  clear R_4 S_4 V_4 V_4_c0 V_4_c1 V_4_c2 F_4 F_4_c0 F_4_c1 G_4 G_4_c0 G_4_c1 E_4 E_4_c0 E_4_c1
  have z5 := Z4.trans (y5.mono Z4.size)
  have Z5 := (z5).alloc (by have := z5.size; omega) (.cells #[.int .i64 6, .int .i64 (-1)] 29)
  have V_5_c0 := V_5.c0
  have V_5_c1 := V_5.c1
  have V_5_c2 := V_5.c2
  have F_5_c0 := F_5.c0
  have F_5_c1 := F_5.c1
  have G_5_c0 := G_5.c0
  have G_5_c1 := G_5.c1
  have E_5_c0 := E_5.c0
  have E_5_c1 := E_5.c1
  have W_5_c0 := W_5.c0
  have W_5_c1 := W_5.c1
  have W_5_f0 := W_5.f0
  have W_5_f1 := W_5.f1
  go_wp2_with fail
  refine (vectorok_bad R_5 S_5 HD.out hlo hhi HV.out).mono ?_
  rintro e w6 ⟨rfl, y6⟩
  have R_6 := R_5.on y6
  have S_6 := S_5.on y6
  have V_6 := V_5.on y6
  have F_6 := F_5.on y6
  have G_6 := G_5.on y6
  have E_6 := E_5.on y6
  have W_6 := W_5.on y6
  clear R_5 S_5 V_5 V_5_c0 V_5_c1 V_5_c2 F_5 F_5_c0 F_5_c1 G_5 G_5_c0 G_5_c1 E_5 E_5_c0 E_5_c1 W_5 W_5_c0 W_5_c1 W_5_f0 W_5_f1
  have z6 := Z5.trans (y6.mono Z5.size)
  have Z6 := z6
  have V_6_c0 := V_6.c0
  have V_6_c1 := V_6.c1
  have V_6_c2 := V_6.c2
  have F_6_c0 := F_6.c0
  have F_6_c1 := F_6.c1
  have G_6_c0 := G_6.c0
  have G_6_c1 := G_6.c1
  have E_6_c0 := E_6.c0
  have E_6_c1 := E_6.c1
  have W_6_c0 := W_6.c0
  have W_6_c1 := W_6.c1
  have W_6_f0 := W_6.f0
  have W_6_f1 := W_6.f1
  go_wp2
  go_ret
  exact ⟨rfl, Z6⟩
set_option maxRecDepth 100000 in
set_option maxHeartbeats 3200000 in
theorem rm_neg {A : Option Addr} {n c : Nat} {A2 : Option Addr} {n2 c2 : Nat} {ii : Int} (hilo : -9223372036854775808 ≤ ii) (hihi : ii ≤ 9223372036854775807) {l : List Nat} (h01 : Is01 l) (hl : l.length ≤ 131072) (hio : ii < 0)  (w : World) (h : Rd w A n c (bcells (pack l))) (hs : Rd w A2 n2 c2 (ncells (sumsL l))) :
    Calls Try.prog 4 #[.agg #[.slice A n c, .int .i64 (l.length : Nat), .slice A2 n2 c2], .int .i64 ii] w fun e w' => e = .returned (.bool true) ∧ Below w.heap.size w w' := by
  have H01 := Lib.hid h01
  have HLL := Lib.hid hl
  have HOK := Lib.hid (Ok.of_list h01 hl)
  clear h01
  have R_0 := (h).alloc (.cells #[.slice A n c, .int .i64 (l.length : Nat), .slice A2 n2 c2] 27)
  have S_0 := (hs).alloc (.cells #[.slice A n c, .int .i64 (l.length : Nat), .slice A2 n2 c2] 27)
  have V_0 := (Three.new w 27 (.slice A n c) (.int .i64 (l.length : Nat)) (.slice A2 n2 c2))
  have Z0 := (Below.refl w.heap.size w).alloc (by simp) (.cells #[.slice A n c, .int .i64 (l.length : Nat), .slice A2 n2 c2] 27)
  have V_0_c0 := V_0.c0
  have V_0_c1 := V_0.c1
  have V_0_c2 := V_0.c2
  go_enter Try.func4, Try.ntmps4
  go_wp2_with fail
  refine (rk_out (.inl hio) R_0 S_0 H01.out hl).mono ?_
  rintro e w1 ⟨rfl, y1⟩
  have R_1 := (R_0.on y1).alloc (.cells #[.int .i64 4, .int .i64 (-2)] 29)
  have S_1 := (S_0.on y1).alloc (.cells #[.int .i64 4, .int .i64 (-2)] 29)
  have V_1 := (V_0.on y1).alloc (.cells #[.int .i64 4, .int .i64 (-2)] 29)
  have F_1 := (Two.new w1 29 (.int .i64 4) (.int .i64 (-2)))
  clear R_0 S_0 V_0 V_0_c0 V_0_c1 V_0_c2
  have z1 := Z0.trans (y1.mono Z0.size)
  have Z1 := (z1).alloc (by have := z1.size; omega) (.cells #[.int .i64 4, .int .i64 (-2)] 29)
  have V_1_c0 := V_1.c0
  have V_1_c1 := V_1.c1
  have V_1_c2 := V_1.c2
  have F_1_c0 := F_1.c0
  have F_1_c1 := F_1.c1
  go_wp2_with fail
  refine (sel_neg hio R_1 S_1 H01.out hl).mono ?_
  rintro e w2 ⟨rfl, y2⟩
  have R_2 := (R_1.on y2).alloc (.cells #[.int .i64 4, .int .i64 (-2)] 29)
  have S_2 := (S_1.on y2).alloc (.cells #[.int .i64 4, .int .i64 (-2)] 29)
  have V_2 := (V_1.on y2).alloc (.cells #[.int .i64 4, .int .i64 (-2)] 29)
  have F_2 := (F_1.on y2).alloc (.cells #[.int .i64 4, .int .i64 (-2)] 29)
  have G_2 := (Two.new w2 29 (.int .i64 4) (.int .i64 (-2)))
  clear R_1 S_1 V_1 V_1_c0 V_1_c1 V_1_c2 F_1 F_1_c0 F_1_c1
  have z2 := Z1.trans (y2.mono Z1.size)
  have Z2 := (z2).alloc (by have := z2.size; omega) (.cells #[.int .i64 4, .int .i64 (-2)] 29)
  have V_2_c0 := V_2.c0
  have V_2_c1 := V_2.c1
  have V_2_c2 := V_2.c2
  have F_2_c0 := F_2.c0
  have F_2_c1 := F_2.c1
  have G_2_c0 := G_2.c0
  have G_2_c1 := G_2.c1
  go_wp2_with fail
  refine (selz_neg hio R_2 S_2 H01.out hl).mono ?_
  rintro e w3 ⟨rfl, y3⟩
  have R_3 := (R_2.on y3).alloc (.cells #[.int .i64 4, .int .i64 (-2)] 29)
  have S_3 := (S_2.on y3).alloc (.cells #[.int .i64 4, .int .i64 (-2)] 29)
  have V_3 := (V_2.on y3).alloc (.cells #[.int .i64 4, .int .i64 (-2)] 29)
  have F_3 := (F_2.on y3).alloc (.cells #[.int .i64 4, .int .i64 (-2)] 29)
  have G_3 := (G_2.on y3).alloc (.cells #[.int .i64 4, .int .i64 (-2)] 29)
  have E_3 := (Two.new w3 29 (.int .i64 4) (.int .i64 (-2)))
  clear R_2 S_2 V_2 V_2_c0 V_2_c1 V_2_c2 F_2 F_2_c0 F_2_c1 G_2 G_2_c0 G_2_c1
  have z3 := Z2.trans (y3.mono Z2.size)
  have Z3 := (z3).alloc (by have := z3.size; omega) (.cells #[.int .i64 4, .int .i64 (-2)] 29)
  have V_3_c0 := V_3.c0
  have V_3_c1 := V_3.c1
  have V_3_c2 := V_3.c2
  have F_3_c0 := F_3.c0
  have F_3_c1 := F_3.c1
  have G_3_c0 := G_3.c0
  have G_3_c1 := G_3.c1
  have E_3_c0 := E_3.c0
  have E_3_c1 := E_3.c1
  go_wp2_with fail
  refine (ranks_true _).mono ?_
  rintro e w4 ⟨rfl, y4⟩
  have R_4 := R_3.on y4
  have S_4 := S_3.on y4
  have V_4 := V_3.on y4
  have F_4 := F_3.on y4
  have G_4 := G_3.on y4
  have E_4 := E_3.on y4
  clear R_3 S_3 V_3 V_3_c0 V_3_c1 V_3_c2 F_3 F_3_c0 F_3_c1 G_3 G_3_c0 G_3_c1 E_3 E_3_c0 E_3_c1
  have z4 := Z3.trans (y4.mono Z3.size)
  have Z4 := z4
  have V_4_c0 := V_4.c0
  have V_4_c1 := V_4.c1
  have V_4_c2 := V_4.c2
  have F_4_c0 := F_4.c0
  have F_4_c1 := F_4.c1
  have G_4_c0 := G_4.c0
  have G_4_c1 := G_4.c1
  have E_4_c0 := E_4.c0
  have E_4_c1 := E_4.c1
  go_wp2_with fail
  refine (refat_any _ _ _).mono ?_
  rintro e w5 ⟨rfl, y5⟩
  have R_5 := (R_4.on y5).alloc (.cells #[.int .i64 6, .int .i64 (-1)] 29)
  have S_5 := (S_4.on y5).alloc (.cells #[.int .i64 6, .int .i64 (-1)] 29)
  have V_5 := (V_4.on y5).alloc (.cells #[.int .i64 6, .int .i64 (-1)] 29)
  have F_5 := (F_4.on y5).alloc (.cells #[.int .i64 6, .int .i64 (-1)] 29)
  have G_5 := (G_4.on y5).alloc (.cells #[.int .i64 6, .int .i64 (-1)] 29)
  have E_5 := (E_4.on y5).alloc (.cells #[.int .i64 6, .int .i64 (-1)] 29)
  have R_b := R_4.on y5
  have S_b := S_4.on y5
  have V_b := V_4.on y5
  have F_b := F_4.on y5
  have G_b := G_4.on y5
  have E_b := E_4.on y5
  have W_5 := (Two.new w5 29 (.int .i64 6) (.int .i64 (-1)))
  clear R_4 S_4 V_4 V_4_c0 V_4_c1 V_4_c2 F_4 F_4_c0 F_4_c1 G_4 G_4_c0 G_4_c1 E_4 E_4_c0 E_4_c1
  have z5 := Z4.trans (y5.mono Z4.size)
  have Z5 := (z5).alloc (by have := z5.size; omega) (.cells #[.int .i64 6, .int .i64 (-1)] 29)
  have CW_5 := (Below.refl w5.heap.size w5).alloc (by simp) (.cells #[.int .i64 6, .int .i64 (-1)] 29)
  have V_5_c0 := V_5.c0
  have V_5_c1 := V_5.c1
  have V_5_c2 := V_5.c2
  have F_5_c0 := F_5.c0
  have F_5_c1 := F_5.c1
  have G_5_c0 := G_5.c0
  have G_5_c1 := G_5.c1
  have E_5_c0 := E_5.c0
  have E_5_c1 := E_5.c1
  have W_5_c0 := W_5.c0
  have W_5_c1 := W_5.c1
  have W_5_f0 := W_5.f0
  have W_5_f1 := W_5.f1
  go_wp2_with fail
  refine (vectorok_good R_5 S_5 H01.out hl).mono ?_
  rintro e w6 ⟨rfl, y6⟩
  have R_6 := R_5.on y6
  have S_6 := S_5.on y6
  have V_6 := V_5.on y6
  have F_6 := F_5.on y6
  have G_6 := G_5.on y6
  have E_6 := E_5.on y6
  have W_6 := W_5.on y6
  clear R_5 S_5 V_5 V_5_c0 V_5_c1 V_5_c2 F_5 F_5_c0 F_5_c1 G_5 G_5_c0 G_5_c1 E_5 E_5_c0 E_5_c1 W_5 W_5_c0 W_5_c1 W_5_f0 W_5_f1
  have z6 := Z5.trans (y6.mono Z5.size)
  have Z6 := z6
  have cW6 := CW_5.trans (y6.mono CW_5.size)
  have CW_6 := cW6
  have V_6_c0 := V_6.c0
  have V_6_c1 := V_6.c1
  have V_6_c2 := V_6.c2
  have F_6_c0 := F_6.c0
  have F_6_c1 := F_6.c1
  have G_6_c0 := G_6.c0
  have G_6_c1 := G_6.c1
  have E_6_c0 := E_6.c0
  have E_6_c1 := E_6.c1
  have W_6_c0 := W_6.c0
  have W_6_c1 := W_6.c1
  have W_6_f0 := W_6.f0
  have W_6_f1 := W_6.f1
  go_wp2_with fail
  refine (bits_any R_6 H01.out hl _ rfl).mono ?_
  rintro e w7 ⟨Al, cl, rfl, hol, y7⟩
  have R_7 := R_6.on y7
  have S_7 := S_6.on y7
  have V_7 := V_6.on y7
  have F_7 := F_6.on y7
  have G_7 := G_6.on y7
  have E_7 := E_6.on y7
  have W_7 := W_6.on y7
  have L_7 := own_less hol CW_6.size
  clear R_6 S_6 V_6 V_6_c0 V_6_c1 V_6_c2 F_6 F_6_c0 F_6_c1 G_6 G_6_c0 G_6_c1 E_6 E_6_c0 E_6_c1 W_6 W_6_c0 W_6_c1 W_6_f0 W_6_f1
  have z7 := Z6.trans (y7.mono Z6.size)
  have Z7 := z7
  have cW7 := CW_6.trans (y7.mono CW_6.size)
  have CW_7 := cW7
  have V_7_c0 := V_7.c0
  have V_7_c1 := V_7.c1
  have V_7_c2 := V_7.c2
  have F_7_c0 := F_7.c0
  have F_7_c1 := F_7.c1
  have G_7_c0 := G_7.c0
  have G_7_c1 := G_7.c1
  have E_7_c0 := E_7.c0
  have E_7_c1 := E_7.c1
  have W_7_c0 := W_7.c0
  have W_7_c1 := W_7.c1
  have W_7_f0 := W_7.f0
  have W_7_f1 := W_7.f1
  go_wp2_with fail
  refine (refat_any _ _ _).mono ?_
  rintro e w8 ⟨rfl, y8⟩
  have R_8 := R_7.on y8
  have S_8 := S_7.on y8
  have V_8 := V_7.on y8
  have F_8 := F_7.on y8
  have G_8 := G_7.on y8
  have E_8 := E_7.on y8
  have W_8 := W_7.on y8
  have L_8 := own_on L_7 y8
  clear R_7 S_7 V_7 V_7_c0 V_7_c1 V_7_c2 F_7 F_7_c0 F_7_c1 G_7 G_7_c0 G_7_c1 E_7 E_7_c0 E_7_c1 W_7 W_7_c0 W_7_c1 W_7_f0 W_7_f1 L_7
  have z8 := Z7.trans (y8.mono Z7.size)
  have Z8 := z8
  have cW8 := CW_7.trans (y8.mono CW_7.size)
  have CW_8 := cW8
  have V_8_c0 := V_8.c0
  have V_8_c1 := V_8.c1
  have V_8_c2 := V_8.c2
  have F_8_c0 := F_8.c0
  have F_8_c1 := F_8.c1
  have G_8_c0 := G_8.c0
  have G_8_c1 := G_8.c1
  have E_8_c0 := E_8.c0
  have E_8_c1 := E_8.c1
  have W_8_c0 := W_8.c0
  have W_8_c1 := W_8.c1
  have W_8_f0 := W_8.f0
  have W_8_f1 := W_8.f1
  have CW_9 := (CW_8.setCell (p := ⟨w5.heap.size, 0, none⟩) (by simp) (.int .i64 4)).setCell (p := ⟨w5.heap.size, 1, none⟩) (by simp) (.int .i64 (-2))
  have Z9 := (Z8.setCell (p := ⟨w5.heap.size, 0, none⟩) (by have := z5.size; simp; omega) (.int .i64 4)).setCell (p := ⟨w5.heap.size, 1, none⟩) (by have := z5.size; simp; omega) (.int .i64 (-2))
  have R_9 := R_b.on CW_9
  have S_9 := S_b.on CW_9
  have V_9 := V_b.on CW_9
  have F_9 := F_b.on CW_9
  have G_9 := G_b.on CW_9
  have E_9 := E_b.on CW_9
  have W_9 := (W_8.set0 (.int .i64 4)).set1 (.int .i64 (-2))
  have L_9 := own_far_any (own_far_any L_8 (p := ⟨w5.heap.size, 0, none⟩) (own_two_ne L_8 W_8 (by decide)) (.int .i64 4)) (p := ⟨w5.heap.size, 1, none⟩) (own_two_ne L_8 W_8 (by decide)) (.int .i64 (-2))
  have V_9_c0 := V_9.c0
  have V_9_c1 := V_9.c1
  have V_9_c2 := V_9.c2
  have F_9_c0 := F_9.c0
  have F_9_c1 := F_9.c1
  have G_9_c0 := G_9.c0
  have G_9_c1 := G_9.c1
  have E_9_c0 := E_9.c0
  have E_9_c1 := E_9.c1
  have W_9_c0 := W_9.c0
  have W_9_c1 := W_9.c1
  have W_9_f0 := W_9.f0
  have W_9_f1 := W_9.f1
  go_wp2_with fail
  refine (in_no _ _ _ _ (.inl hio)).mono ?_
  rintro e w9_1 ⟨rfl, rfl⟩
  go_wp2
  go_ret
  exact ⟨rfl, Z9⟩
set_option maxRecDepth 100000 in
set_option maxHeartbeats 3200000 in
theorem rm_big {A : Option Addr} {n c : Nat} {A2 : Option Addr} {n2 c2 : Nat} {ii : Int} (hilo : -9223372036854775808 ≤ ii) (hihi : ii ≤ 9223372036854775807) {l : List Nat} (h01 : Is01 l) (hl : l.length ≤ 131072) {q : Nat} (hq : ii = (q : Nat)) (hql : l.length < q)  (w : World) (h : Rd w A n c (bcells (pack l))) (hs : Rd w A2 n2 c2 (ncells (sumsL l))) :
    Calls Try.prog 4 #[.agg #[.slice A n c, .int .i64 (l.length : Nat), .slice A2 n2 c2], .int .i64 ii] w fun e w' => e = .returned (.bool true) ∧ Below w.heap.size w w' := by
  have H01 := Lib.hid h01
  have HLL := Lib.hid hl
  have HOK := Lib.hid (Ok.of_list h01 hl)
  clear h01
  subst hq
  have R_0 := (h).alloc (.cells #[.slice A n c, .int .i64 (l.length : Nat), .slice A2 n2 c2] 27)
  have S_0 := (hs).alloc (.cells #[.slice A n c, .int .i64 (l.length : Nat), .slice A2 n2 c2] 27)
  have V_0 := (Three.new w 27 (.slice A n c) (.int .i64 (l.length : Nat)) (.slice A2 n2 c2))
  have Z0 := (Below.refl w.heap.size w).alloc (by simp) (.cells #[.slice A n c, .int .i64 (l.length : Nat), .slice A2 n2 c2] 27)
  have V_0_c0 := V_0.c0
  have V_0_c1 := V_0.c1
  have V_0_c2 := V_0.c2
  go_enter Try.func4, Try.ntmps4
  go_wp2_with fail
  refine (rk_out (.inr (by omega)) R_0 S_0 H01.out hl).mono ?_
  rintro e w1 ⟨rfl, y1⟩
  have R_1 := (R_0.on y1).alloc (.cells #[.int .i64 4, .int .i64 (-2)] 29)
  have S_1 := (S_0.on y1).alloc (.cells #[.int .i64 4, .int .i64 (-2)] 29)
  have V_1 := (V_0.on y1).alloc (.cells #[.int .i64 4, .int .i64 (-2)] 29)
  have F_1 := (Two.new w1 29 (.int .i64 4) (.int .i64 (-2)))
  clear R_0 S_0 V_0 V_0_c0 V_0_c1 V_0_c2
  have z1 := Z0.trans (y1.mono Z0.size)
  have Z1 := (z1).alloc (by have := z1.size; omega) (.cells #[.int .i64 4, .int .i64 (-2)] 29)
  have V_1_c0 := V_1.c0
  have V_1_c1 := V_1.c1
  have V_1_c2 := V_1.c2
  have F_1_c0 := F_1.c0
  have F_1_c1 := F_1.c1
  go_wp2_with fail
  refine (sel_none (by omega) (noplace_big (by omega)) R_1 S_1 H01.out hl).mono ?_
  rintro e w2 ⟨rfl, y2⟩
  have R_2 := (R_1.on y2).alloc (.cells #[.int .i64 4, .int .i64 (-2)] 29)
  have S_2 := (S_1.on y2).alloc (.cells #[.int .i64 4, .int .i64 (-2)] 29)
  have V_2 := (V_1.on y2).alloc (.cells #[.int .i64 4, .int .i64 (-2)] 29)
  have F_2 := (F_1.on y2).alloc (.cells #[.int .i64 4, .int .i64 (-2)] 29)
  have G_2 := (Two.new w2 29 (.int .i64 4) (.int .i64 (-2)))
  clear R_1 S_1 V_1 V_1_c0 V_1_c1 V_1_c2 F_1 F_1_c0 F_1_c1
  have z2 := Z1.trans (y2.mono Z1.size)
  have Z2 := (z2).alloc (by have := z2.size; omega) (.cells #[.int .i64 4, .int .i64 (-2)] 29)
  have V_2_c0 := V_2.c0
  have V_2_c1 := V_2.c1
  have V_2_c2 := V_2.c2
  have F_2_c0 := F_2.c0
  have F_2_c1 := F_2.c1
  have G_2_c0 := G_2.c0
  have G_2_c1 := G_2.c1
  go_wp2_with fail
  refine (selz_none (by omega) (noplace_big (by omega)) R_2 S_2 H01.out hl).mono ?_
  rintro e w3 ⟨rfl, y3⟩
  have R_3 := (R_2.on y3).alloc (.cells #[.int .i64 4, .int .i64 (-2)] 29)
  have S_3 := (S_2.on y3).alloc (.cells #[.int .i64 4, .int .i64 (-2)] 29)
  have V_3 := (V_2.on y3).alloc (.cells #[.int .i64 4, .int .i64 (-2)] 29)
  have F_3 := (F_2.on y3).alloc (.cells #[.int .i64 4, .int .i64 (-2)] 29)
  have G_3 := (G_2.on y3).alloc (.cells #[.int .i64 4, .int .i64 (-2)] 29)
  have E_3 := (Two.new w3 29 (.int .i64 4) (.int .i64 (-2)))
  clear R_2 S_2 V_2 V_2_c0 V_2_c1 V_2_c2 F_2 F_2_c0 F_2_c1 G_2 G_2_c0 G_2_c1
  have z3 := Z2.trans (y3.mono Z2.size)
  have Z3 := (z3).alloc (by have := z3.size; omega) (.cells #[.int .i64 4, .int .i64 (-2)] 29)
  have V_3_c0 := V_3.c0
  have V_3_c1 := V_3.c1
  have V_3_c2 := V_3.c2
  have F_3_c0 := F_3.c0
  have F_3_c1 := F_3.c1
  have G_3_c0 := G_3.c0
  have G_3_c1 := G_3.c1
  have E_3_c0 := E_3.c0
  have E_3_c1 := E_3.c1
  go_wp2_with fail
  refine (ranks_true _).mono ?_
  rintro e w4 ⟨rfl, y4⟩
  have R_4 := R_3.on y4
  have S_4 := S_3.on y4
  have V_4 := V_3.on y4
  have F_4 := F_3.on y4
  have G_4 := G_3.on y4
  have E_4 := E_3.on y4
  clear R_3 S_3 V_3 V_3_c0 V_3_c1 V_3_c2 F_3 F_3_c0 F_3_c1 G_3 G_3_c0 G_3_c1 E_3 E_3_c0 E_3_c1
  have z4 := Z3.trans (y4.mono Z3.size)
  have Z4 := z4
  have V_4_c0 := V_4.c0
  have V_4_c1 := V_4.c1
  have V_4_c2 := V_4.c2
  have F_4_c0 := F_4.c0
  have F_4_c1 := F_4.c1
  have G_4_c0 := G_4.c0
  have G_4_c1 := G_4.c1
  have E_4_c0 := E_4.c0
  have E_4_c1 := E_4.c1
  go_wp2_with fail
  refine (refat_any _ _ _).mono ?_
  rintro e w5 ⟨rfl, y5⟩
  have R_5 := (R_4.on y5).alloc (.cells #[.int .i64 6, .int .i64 (-1)] 29)
  have S_5 := (S_4.on y5).alloc (.cells #[.int .i64 6, .int .i64 (-1)] 29)
  have V_5 := (V_4.on y5).alloc (.cells #[.int .i64 6, .int .i64 (-1)] 29)
  have F_5 := (F_4.on y5).alloc (.cells #[.int .i64 6, .int .i64 (-1)] 29)
  have G_5 := (G_4.on y5).alloc (.cells #[.int .i64 6, .int .i64 (-1)] 29)
  have E_5 := (E_4.on y5).alloc (.cells #[.int .i64 6, .int .i64 (-1)] 29)
  have R_b := R_4.on y5
  have S_b := S_4.on y5
  have V_b := V_4.on y5
  have F_b := F_4.on y5
  have G_b := G_4.on y5
  have E_b := E_4.on y5
  have W_5 := (Two.new w5 29 (.int .i64 6) (.int .i64 (-1)))
  clear R_4 S_4 V_4 V_4_c0 V_4_c1 V_4_c2 F_4 F_4_c0 F_4_c1 G_4 G_4_c0 G_4_c1 E_4 E_4_c0 E_4_c1
  have z5 := Z4.trans (y5.mono Z4.size)
  have Z5 := (z5).alloc (by have := z5.size; omega) (.cells #[.int .i64 6, .int .i64 (-1)] 29)
  have CW_5 := (Below.refl w5.heap.size w5).alloc (by simp) (.cells #[.int .i64 6, .int .i64 (-1)] 29)
  have V_5_c0 := V_5.c0
  have V_5_c1 := V_5.c1
  have V_5_c2 := V_5.c2
  have F_5_c0 := F_5.c0
  have F_5_c1 := F_5.c1
  have G_5_c0 := G_5.c0
  have G_5_c1 := G_5.c1
  have E_5_c0 := E_5.c0
  have E_5_c1 := E_5.c1
  have W_5_c0 := W_5.c0
  have W_5_c1 := W_5.c1
  have W_5_f0 := W_5.f0
  have W_5_f1 := W_5.f1
  go_wp2_with fail
  refine (vectorok_good R_5 S_5 H01.out hl).mono ?_
  rintro e w6 ⟨rfl, y6⟩
  have R_6 := R_5.on y6
  have S_6 := S_5.on y6
  have V_6 := V_5.on y6
  have F_6 := F_5.on y6
  have G_6 := G_5.on y6
  have E_6 := E_5.on y6
  have W_6 := W_5.on y6
  clear R_5 S_5 V_5 V_5_c0 V_5_c1 V_5_c2 F_5 F_5_c0 F_5_c1 G_5 G_5_c0 G_5_c1 E_5 E_5_c0 E_5_c1 W_5 W_5_c0 W_5_c1 W_5_f0 W_5_f1
  have z6 := Z5.trans (y6.mono Z5.size)
  have Z6 := z6
  have cW6 := CW_5.trans (y6.mono CW_5.size)
  have CW_6 := cW6
  have V_6_c0 := V_6.c0
  have V_6_c1 := V_6.c1
  have V_6_c2 := V_6.c2
  have F_6_c0 := F_6.c0
  have F_6_c1 := F_6.c1
  have G_6_c0 := G_6.c0
  have G_6_c1 := G_6.c1
  have E_6_c0 := E_6.c0
  have E_6_c1 := E_6.c1
  have W_6_c0 := W_6.c0
  have W_6_c1 := W_6.c1
  have W_6_f0 := W_6.f0
  have W_6_f1 := W_6.f1
  go_wp2_with fail
  refine (bits_any R_6 H01.out hl _ rfl).mono ?_
  rintro e w7 ⟨Al, cl, rfl, hol, y7⟩
  have R_7 := R_6.on y7
  have S_7 := S_6.on y7
  have V_7 := V_6.on y7
  have F_7 := F_6.on y7
  have G_7 := G_6.on y7
  have E_7 := E_6.on y7
  have W_7 := W_6.on y7
  have L_7 := own_less hol CW_6.size
  clear R_6 S_6 V_6 V_6_c0 V_6_c1 V_6_c2 F_6 F_6_c0 F_6_c1 G_6 G_6_c0 G_6_c1 E_6 E_6_c0 E_6_c1 W_6 W_6_c0 W_6_c1 W_6_f0 W_6_f1
  have z7 := Z6.trans (y7.mono Z6.size)
  have Z7 := z7
  have cW7 := CW_6.trans (y7.mono CW_6.size)
  have CW_7 := cW7
  have V_7_c0 := V_7.c0
  have V_7_c1 := V_7.c1
  have V_7_c2 := V_7.c2
  have F_7_c0 := F_7.c0
  have F_7_c1 := F_7.c1
  have G_7_c0 := G_7.c0
  have G_7_c1 := G_7.c1
  have E_7_c0 := E_7.c0
  have E_7_c1 := E_7.c1
  have W_7_c0 := W_7.c0
  have W_7_c1 := W_7.c1
  have W_7_f0 := W_7.f0
  have W_7_f1 := W_7.f1
  go_wp2_with fail
  refine (refat_any _ _ _).mono ?_
  rintro e w8 ⟨rfl, y8⟩
  have R_8 := R_7.on y8
  have S_8 := S_7.on y8
  have V_8 := V_7.on y8
  have F_8 := F_7.on y8
  have G_8 := G_7.on y8
  have E_8 := E_7.on y8
  have W_8 := W_7.on y8
  have L_8 := own_on L_7 y8
  clear R_7 S_7 V_7 V_7_c0 V_7_c1 V_7_c2 F_7 F_7_c0 F_7_c1 G_7 G_7_c0 G_7_c1 E_7 E_7_c0 E_7_c1 W_7 W_7_c0 W_7_c1 W_7_f0 W_7_f1 L_7
  have z8 := Z7.trans (y8.mono Z7.size)
  have Z8 := z8
  have cW8 := CW_7.trans (y8.mono CW_7.size)
  have CW_8 := cW8
  have V_8_c0 := V_8.c0
  have V_8_c1 := V_8.c1
  have V_8_c2 := V_8.c2
  have F_8_c0 := F_8.c0
  have F_8_c1 := F_8.c1
  have G_8_c0 := G_8.c0
  have G_8_c1 := G_8.c1
  have E_8_c0 := E_8.c0
  have E_8_c1 := E_8.c1
  have W_8_c0 := W_8.c0
  have W_8_c1 := W_8.c1
  have W_8_f0 := W_8.f0
  have W_8_f1 := W_8.f1
  have CW_9 := (CW_8.setCell (p := ⟨w5.heap.size, 0, none⟩) (by simp) (.int .i64 4)).setCell (p := ⟨w5.heap.size, 1, none⟩) (by simp) (.int .i64 (-2))
  have Z9 := (Z8.setCell (p := ⟨w5.heap.size, 0, none⟩) (by have := z5.size; simp; omega) (.int .i64 4)).setCell (p := ⟨w5.heap.size, 1, none⟩) (by have := z5.size; simp; omega) (.int .i64 (-2))
  have R_9 := R_b.on CW_9
  have S_9 := S_b.on CW_9
  have V_9 := V_b.on CW_9
  have F_9 := F_b.on CW_9
  have G_9 := G_b.on CW_9
  have E_9 := E_b.on CW_9
  have W_9 := (W_8.set0 (.int .i64 4)).set1 (.int .i64 (-2))
  have L_9 := own_far_any (own_far_any L_8 (p := ⟨w5.heap.size, 0, none⟩) (own_two_ne L_8 W_8 (by decide)) (.int .i64 4)) (p := ⟨w5.heap.size, 1, none⟩) (own_two_ne L_8 W_8 (by decide)) (.int .i64 (-2))
  have V_9_c0 := V_9.c0
  have V_9_c1 := V_9.c1
  have V_9_c2 := V_9.c2
  have F_9_c0 := F_9.c0
  have F_9_c1 := F_9.c1
  have G_9_c0 := G_9.c0
  have G_9_c1 := G_9.c1
  have E_9_c0 := E_9.c0
  have E_9_c1 := E_9.c1
  have W_9_c0 := W_9.c0
  have W_9_c1 := W_9.c1
  have W_9_f0 := W_9.f0
  have W_9_f1 := W_9.f1
  go_wp2_with fail
  refine (in_no _ _ _ _ (.inr (by omega))).mono ?_
  rintro e w9_1 ⟨rfl, rfl⟩
  go_wp2
  go_ret
  exact ⟨rfl, Z9⟩
set_option maxRecDepth 100000 in
set_option maxHeartbeats 3200000 in
theorem rm_oo {A : Option Addr} {n c : Nat} {A2 : Option Addr} {n2 c2 : Nat} {ii : Int} (hilo : -9223372036854775808 ≤ ii) (hihi : ii ≤ 9223372036854775807) {l : List Nat} (h01 : Is01 l) (hl : l.length ≤ 131072) {q : Nat} (hq : ii = (q : Nat)) (hql : q ≤ l.length) {px : Nat} (hpx : PlaceAt l q 1 px) {py : Nat} (hpy : PlaceAt l q 0 py)  (w : World) (h : Rd w A n c (bcells (pack l))) (hs : Rd w A2 n2 c2 (ncells (sumsL l))) :
    Calls Try.prog 4 #[.agg #[.slice A n c, .int .i64 (l.length : Nat), .slice A2 n2 c2], .int .i64 ii] w fun e w' => e = .returned (.bool true) ∧ Below w.heap.size w w' := by
  have H01 := Lib.hid h01
  have HLL := Lib.hid hl
  have HOK := Lib.hid (Ok.of_list h01 hl)
  clear h01
  subst hq
  obtain ⟨r, hr⟩ : ∃ r, r = ones (l.take q) := ⟨_, rfl⟩
  have HR := Lib.hid hr
  have HR2 := Lib.hid (show r = ones (l.take ((q : Nat) : Int).toNat) by rw [Int.toNat_natCast]; exact hr)
  clear hr
  have HPx := Lib.hid hpx
  clear hpx
  have HPy := Lib.hid hpy
  clear hpy
  have R_0 := (h).alloc (.cells #[.slice A n c, .int .i64 (l.length : Nat), .slice A2 n2 c2] 27)
  have S_0 := (hs).alloc (.cells #[.slice A n c, .int .i64 (l.length : Nat), .slice A2 n2 c2] 27)
  have V_0 := (Three.new w 27 (.slice A n c) (.int .i64 (l.length : Nat)) (.slice A2 n2 c2))
  have Z0 := (Below.refl w.heap.size w).alloc (by simp) (.cells #[.slice A n c, .int .i64 (l.length : Nat), .slice A2 n2 c2] 27)
  have V_0_c0 := V_0.c0
  have V_0_c1 := V_0.c1
  have V_0_c2 := V_0.c2
  go_enter Try.func4, Try.ntmps4
  go_wp2_with fail
  refine (rk_ok2 rfl rfl rfl hql HR.out R_0 S_0 H01.out hl).mono ?_
  rintro e w1 ⟨rfl, y1⟩
  have R_1 := (R_0.on y1).alloc (.cells #[.int .i64 0, .int .i64 0] 29)
  have S_1 := (S_0.on y1).alloc (.cells #[.int .i64 0, .int .i64 0] 29)
  have V_1 := (V_0.on y1).alloc (.cells #[.int .i64 0, .int .i64 0] 29)
  have F_1 := (Two.new w1 29 (.int .i64 0) (.int .i64 0))
  clear R_0 S_0 V_0 V_0_c0 V_0_c1 V_0_c2
  have z1 := Z0.trans (y1.mono Z0.size)
  have Z1 := (z1).alloc (by have := z1.size; omega) (.cells #[.int .i64 0, .int .i64 0] 29)
  have V_1_c0 := V_1.c0
  have V_1_c1 := V_1.c1
  have V_1_c2 := V_1.c2
  have F_1_c0 := F_1.c0
  have F_1_c1 := F_1.c1
  go_wp2_with fail
  refine (sel_ok2 rfl rfl rfl (by omega) HPx.out R_1 S_1 H01.out hl).mono ?_
  rintro e w2 ⟨rfl, y2⟩
  have R_2 := (R_1.on y2).alloc (.cells #[.int .i64 0, .int .i64 0] 29)
  have S_2 := (S_1.on y2).alloc (.cells #[.int .i64 0, .int .i64 0] 29)
  have V_2 := (V_1.on y2).alloc (.cells #[.int .i64 0, .int .i64 0] 29)
  have F_2 := (F_1.on y2).alloc (.cells #[.int .i64 0, .int .i64 0] 29)
  have G_2 := (Two.new w2 29 (.int .i64 0) (.int .i64 0))
  clear R_1 S_1 V_1 V_1_c0 V_1_c1 V_1_c2 F_1 F_1_c0 F_1_c1
  have z2 := Z1.trans (y2.mono Z1.size)
  have Z2 := (z2).alloc (by have := z2.size; omega) (.cells #[.int .i64 0, .int .i64 0] 29)
  have V_2_c0 := V_2.c0
  have V_2_c1 := V_2.c1
  have V_2_c2 := V_2.c2
  have F_2_c0 := F_2.c0
  have F_2_c1 := F_2.c1
  have G_2_c0 := G_2.c0
  have G_2_c1 := G_2.c1
  go_wp2_with fail
  refine (selz_ok2 rfl rfl rfl (by omega) HPy.out R_2 S_2 H01.out hl).mono ?_
  rintro e w3 ⟨rfl, y3⟩
  have R_3 := (R_2.on y3).alloc (.cells #[.int .i64 0, .int .i64 0] 29)
  have S_3 := (S_2.on y3).alloc (.cells #[.int .i64 0, .int .i64 0] 29)
  have V_3 := (V_2.on y3).alloc (.cells #[.int .i64 0, .int .i64 0] 29)
  have F_3 := (F_2.on y3).alloc (.cells #[.int .i64 0, .int .i64 0] 29)
  have G_3 := (G_2.on y3).alloc (.cells #[.int .i64 0, .int .i64 0] 29)
  have E_3 := (Two.new w3 29 (.int .i64 0) (.int .i64 0))
  clear R_2 S_2 V_2 V_2_c0 V_2_c1 V_2_c2 F_2 F_2_c0 F_2_c1 G_2 G_2_c0 G_2_c1
  have z3 := Z2.trans (y3.mono Z2.size)
  have Z3 := (z3).alloc (by have := z3.size; omega) (.cells #[.int .i64 0, .int .i64 0] 29)
  have V_3_c0 := V_3.c0
  have V_3_c1 := V_3.c1
  have V_3_c2 := V_3.c2
  have F_3_c0 := F_3.c0
  have F_3_c1 := F_3.c1
  have G_3_c0 := G_3.c0
  have G_3_c1 := G_3.c1
  have E_3_c0 := E_3.c0
  have E_3_c1 := E_3.c1
  go_wp2_with fail
  refine (ranks_true _).mono ?_
  rintro e w4 ⟨rfl, y4⟩
  have R_4 := R_3.on y4
  have S_4 := S_3.on y4
  have V_4 := V_3.on y4
  have F_4 := F_3.on y4
  have G_4 := G_3.on y4
  have E_4 := E_3.on y4
  clear R_3 S_3 V_3 V_3_c0 V_3_c1 V_3_c2 F_3 F_3_c0 F_3_c1 G_3 G_3_c0 G_3_c1 E_3 E_3_c0 E_3_c1
  have z4 := Z3.trans (y4.mono Z3.size)
  have Z4 := z4
  have V_4_c0 := V_4.c0
  have V_4_c1 := V_4.c1
  have V_4_c2 := V_4.c2
  have F_4_c0 := F_4.c0
  have F_4_c1 := F_4.c1
  have G_4_c0 := G_4.c0
  have G_4_c1 := G_4.c1
  have E_4_c0 := E_4.c0
  have E_4_c1 := E_4.c1
  go_wp2_with fail
  refine (refat_any _ _ _).mono ?_
  rintro e w5 ⟨rfl, y5⟩
  have R_5 := (R_4.on y5).alloc (.cells #[.int .i64 6, .int .i64 (-1)] 29)
  have S_5 := (S_4.on y5).alloc (.cells #[.int .i64 6, .int .i64 (-1)] 29)
  have V_5 := (V_4.on y5).alloc (.cells #[.int .i64 6, .int .i64 (-1)] 29)
  have F_5 := (F_4.on y5).alloc (.cells #[.int .i64 6, .int .i64 (-1)] 29)
  have G_5 := (G_4.on y5).alloc (.cells #[.int .i64 6, .int .i64 (-1)] 29)
  have E_5 := (E_4.on y5).alloc (.cells #[.int .i64 6, .int .i64 (-1)] 29)
  have R_b := R_4.on y5
  have S_b := S_4.on y5
  have V_b := V_4.on y5
  have F_b := F_4.on y5
  have G_b := G_4.on y5
  have E_b := E_4.on y5
  have W_5 := (Two.new w5 29 (.int .i64 6) (.int .i64 (-1)))
  clear R_4 S_4 V_4 V_4_c0 V_4_c1 V_4_c2 F_4 F_4_c0 F_4_c1 G_4 G_4_c0 G_4_c1 E_4 E_4_c0 E_4_c1
  have z5 := Z4.trans (y5.mono Z4.size)
  have Z5 := (z5).alloc (by have := z5.size; omega) (.cells #[.int .i64 6, .int .i64 (-1)] 29)
  have CW_5 := (Below.refl w5.heap.size w5).alloc (by simp) (.cells #[.int .i64 6, .int .i64 (-1)] 29)
  have V_5_c0 := V_5.c0
  have V_5_c1 := V_5.c1
  have V_5_c2 := V_5.c2
  have F_5_c0 := F_5.c0
  have F_5_c1 := F_5.c1
  have G_5_c0 := G_5.c0
  have G_5_c1 := G_5.c1
  have E_5_c0 := E_5.c0
  have E_5_c1 := E_5.c1
  have W_5_c0 := W_5.c0
  have W_5_c1 := W_5.c1
  have W_5_f0 := W_5.f0
  have W_5_f1 := W_5.f1
  go_wp2_with fail
  refine (vectorok_good R_5 S_5 H01.out hl).mono ?_
  rintro e w6 ⟨rfl, y6⟩
  have R_6 := R_5.on y6
  have S_6 := S_5.on y6
  have V_6 := V_5.on y6
  have F_6 := F_5.on y6
  have G_6 := G_5.on y6
  have E_6 := E_5.on y6
  have W_6 := W_5.on y6
  clear R_5 S_5 V_5 V_5_c0 V_5_c1 V_5_c2 F_5 F_5_c0 F_5_c1 G_5 G_5_c0 G_5_c1 E_5 E_5_c0 E_5_c1 W_5 W_5_c0 W_5_c1 W_5_f0 W_5_f1
  have z6 := Z5.trans (y6.mono Z5.size)
  have Z6 := z6
  have cW6 := CW_5.trans (y6.mono CW_5.size)
  have CW_6 := cW6
  have V_6_c0 := V_6.c0
  have V_6_c1 := V_6.c1
  have V_6_c2 := V_6.c2
  have F_6_c0 := F_6.c0
  have F_6_c1 := F_6.c1
  have G_6_c0 := G_6.c0
  have G_6_c1 := G_6.c1
  have E_6_c0 := E_6.c0
  have E_6_c1 := E_6.c1
  have W_6_c0 := W_6.c0
  have W_6_c1 := W_6.c1
  have W_6_f0 := W_6.f0
  have W_6_f1 := W_6.f1
  go_wp2_with fail
  refine (bits_any R_6 H01.out hl _ rfl).mono ?_
  rintro e w7 ⟨Al, cl, rfl, hol, y7⟩
  have R_7 := R_6.on y7
  have S_7 := S_6.on y7
  have V_7 := V_6.on y7
  have F_7 := F_6.on y7
  have G_7 := G_6.on y7
  have E_7 := E_6.on y7
  have W_7 := W_6.on y7
  have L_7 := own_less hol CW_6.size
  clear R_6 S_6 V_6 V_6_c0 V_6_c1 V_6_c2 F_6 F_6_c0 F_6_c1 G_6 G_6_c0 G_6_c1 E_6 E_6_c0 E_6_c1 W_6 W_6_c0 W_6_c1 W_6_f0 W_6_f1
  have z7 := Z6.trans (y7.mono Z6.size)
  have Z7 := z7
  have cW7 := CW_6.trans (y7.mono CW_6.size)
  have CW_7 := cW7
  have V_7_c0 := V_7.c0
  have V_7_c1 := V_7.c1
  have V_7_c2 := V_7.c2
  have F_7_c0 := F_7.c0
  have F_7_c1 := F_7.c1
  have G_7_c0 := G_7.c0
  have G_7_c1 := G_7.c1
  have E_7_c0 := E_7.c0
  have E_7_c1 := E_7.c1
  have W_7_c0 := W_7.c0
  have W_7_c1 := W_7.c1
  have W_7_f0 := W_7.f0
  have W_7_f1 := W_7.f1
  go_wp2_with fail
  refine (refat_any _ _ _).mono ?_
  rintro e w8 ⟨rfl, y8⟩
  have R_8 := R_7.on y8
  have S_8 := S_7.on y8
  have V_8 := V_7.on y8
  have F_8 := F_7.on y8
  have G_8 := G_7.on y8
  have E_8 := E_7.on y8
  have W_8 := W_7.on y8
  have L_8 := own_on L_7 y8
  clear R_7 S_7 V_7 V_7_c0 V_7_c1 V_7_c2 F_7 F_7_c0 F_7_c1 G_7 G_7_c0 G_7_c1 E_7 E_7_c0 E_7_c1 W_7 W_7_c0 W_7_c1 W_7_f0 W_7_f1 L_7
  have z8 := Z7.trans (y8.mono Z7.size)
  have Z8 := z8
  have cW8 := CW_7.trans (y8.mono CW_7.size)
  have CW_8 := cW8
  have V_8_c0 := V_8.c0
  have V_8_c1 := V_8.c1
  have V_8_c2 := V_8.c2
  have F_8_c0 := F_8.c0
  have F_8_c1 := F_8.c1
  have G_8_c0 := G_8.c0
  have G_8_c1 := G_8.c1
  have E_8_c0 := E_8.c0
  have E_8_c1 := E_8.c1
  have W_8_c0 := W_8.c0
  have W_8_c1 := W_8.c1
  have W_8_f0 := W_8.f0
  have W_8_f1 := W_8.f1
  have CW_9 := (CW_8.setCell (p := ⟨w5.heap.size, 0, none⟩) (by simp) (.int .i64 4)).setCell (p := ⟨w5.heap.size, 1, none⟩) (by simp) (.int .i64 (-2))
  have Z9 := (Z8.setCell (p := ⟨w5.heap.size, 0, none⟩) (by have := z5.size; simp; omega) (.int .i64 4)).setCell (p := ⟨w5.heap.size, 1, none⟩) (by have := z5.size; simp; omega) (.int .i64 (-2))
  have R_9 := R_b.on CW_9
  have S_9 := S_b.on CW_9
  have V_9 := V_b.on CW_9
  have F_9 := F_b.on CW_9
  have G_9 := G_b.on CW_9
  have E_9 := E_b.on CW_9
  have W_9 := (W_8.set0 (.int .i64 4)).set1 (.int .i64 (-2))
  have L_9 := own_far_any (own_far_any L_8 (p := ⟨w5.heap.size, 0, none⟩) (own_two_ne L_8 W_8 (by decide)) (.int .i64 4)) (p := ⟨w5.heap.size, 1, none⟩) (own_two_ne L_8 W_8 (by decide)) (.int .i64 (-2))
  have V_9_c0 := V_9.c0
  have V_9_c1 := V_9.c1
  have V_9_c2 := V_9.c2
  have F_9_c0 := F_9.c0
  have F_9_c1 := F_9.c1
  have G_9_c0 := G_9.c0
  have G_9_c1 := G_9.c1
  have E_9_c0 := E_9.c0
  have E_9_c1 := E_9.c1
  have W_9_c0 := W_9.c0
  have W_9_c1 := W_9.c1
  have W_9_f0 := W_9.f0
  have W_9_f1 := W_9.f1
  go_wp2_with fail
  refine (in_yes _ _ _ _ (by omega) (by omega)).mono ?_
  rintro e w9_1 ⟨rfl, rfl⟩
  go_wp2_with fail
  refine (place_any (Rd.own L_9) hl q 1 (by omega) _ (.inr ⟨px, HPx.out, rfl⟩)).mono ?_
  rintro e w9_2 ⟨rfl, rfl⟩
  go_wp2_with fail
  refine (place_any (Rd.own L_9) hl q 0 (by omega) _ (.inr ⟨py, HPy.out, rfl⟩)).mono ?_
  rintro e w9_3 ⟨rfl, rfl⟩
  go_wp2_with fail
  refine (onesb_any (Rd.own L_9) H01.out hl _ hilo hihi _ HR2.out).mono ?_
  rintro e w9_4 ⟨rfl, rfl⟩
  go_wp2
  go_ret
  exact ⟨rfl, Z9⟩
set_option maxRecDepth 100000 in
set_option maxHeartbeats 3200000 in
theorem rm_ox {A : Option Addr} {n c : Nat} {A2 : Option Addr} {n2 c2 : Nat} {ii : Int} (hilo : -9223372036854775808 ≤ ii) (hihi : ii ≤ 9223372036854775807) {l : List Nat} (h01 : Is01 l) (hl : l.length ≤ 131072) {q : Nat} (hq : ii = (q : Nat)) (hql : q ≤ l.length) {px : Nat} (hpx : PlaceAt l q 1 px) (hpy : NoPlace l q 0)  (w : World) (h : Rd w A n c (bcells (pack l))) (hs : Rd w A2 n2 c2 (ncells (sumsL l))) :
    Calls Try.prog 4 #[.agg #[.slice A n c, .int .i64 (l.length : Nat), .slice A2 n2 c2], .int .i64 ii] w fun e w' => e = .returned (.bool true) ∧ Below w.heap.size w w' := by
  have H01 := Lib.hid h01
  have HLL := Lib.hid hl
  have HOK := Lib.hid (Ok.of_list h01 hl)
  clear h01
  subst hq
  obtain ⟨r, hr⟩ : ∃ r, r = ones (l.take q) := ⟨_, rfl⟩
  have HR := Lib.hid hr
  have HR2 := Lib.hid (show r = ones (l.take ((q : Nat) : Int).toNat) by rw [Int.toNat_natCast]; exact hr)
  clear hr
  have HPx := Lib.hid hpx
  clear hpx
  have HPy := Lib.hid hpy
  clear hpy
  have R_0 := (h).alloc (.cells #[.slice A n c, .int .i64 (l.length : Nat), .slice A2 n2 c2] 27)
  have S_0 := (hs).alloc (.cells #[.slice A n c, .int .i64 (l.length : Nat), .slice A2 n2 c2] 27)
  have V_0 := (Three.new w 27 (.slice A n c) (.int .i64 (l.length : Nat)) (.slice A2 n2 c2))
  have Z0 := (Below.refl w.heap.size w).alloc (by simp) (.cells #[.slice A n c, .int .i64 (l.length : Nat), .slice A2 n2 c2] 27)
  have V_0_c0 := V_0.c0
  have V_0_c1 := V_0.c1
  have V_0_c2 := V_0.c2
  go_enter Try.func4, Try.ntmps4
  go_wp2_with fail
  refine (rk_ok2 rfl rfl rfl hql HR.out R_0 S_0 H01.out hl).mono ?_
  rintro e w1 ⟨rfl, y1⟩
  have R_1 := (R_0.on y1).alloc (.cells #[.int .i64 0, .int .i64 0] 29)
  have S_1 := (S_0.on y1).alloc (.cells #[.int .i64 0, .int .i64 0] 29)
  have V_1 := (V_0.on y1).alloc (.cells #[.int .i64 0, .int .i64 0] 29)
  have F_1 := (Two.new w1 29 (.int .i64 0) (.int .i64 0))
  clear R_0 S_0 V_0 V_0_c0 V_0_c1 V_0_c2
  have z1 := Z0.trans (y1.mono Z0.size)
  have Z1 := (z1).alloc (by have := z1.size; omega) (.cells #[.int .i64 0, .int .i64 0] 29)
  have V_1_c0 := V_1.c0
  have V_1_c1 := V_1.c1
  have V_1_c2 := V_1.c2
  have F_1_c0 := F_1.c0
  have F_1_c1 := F_1.c1
  go_wp2_with fail
  refine (sel_ok2 rfl rfl rfl (by omega) HPx.out R_1 S_1 H01.out hl).mono ?_
  rintro e w2 ⟨rfl, y2⟩
  have R_2 := (R_1.on y2).alloc (.cells #[.int .i64 0, .int .i64 0] 29)
  have S_2 := (S_1.on y2).alloc (.cells #[.int .i64 0, .int .i64 0] 29)
  have V_2 := (V_1.on y2).alloc (.cells #[.int .i64 0, .int .i64 0] 29)
  have F_2 := (F_1.on y2).alloc (.cells #[.int .i64 0, .int .i64 0] 29)
  have G_2 := (Two.new w2 29 (.int .i64 0) (.int .i64 0))
  clear R_1 S_1 V_1 V_1_c0 V_1_c1 V_1_c2 F_1 F_1_c0 F_1_c1
  have z2 := Z1.trans (y2.mono Z1.size)
  have Z2 := (z2).alloc (by have := z2.size; omega) (.cells #[.int .i64 0, .int .i64 0] 29)
  have V_2_c0 := V_2.c0
  have V_2_c1 := V_2.c1
  have V_2_c2 := V_2.c2
  have F_2_c0 := F_2.c0
  have F_2_c1 := F_2.c1
  have G_2_c0 := G_2.c0
  have G_2_c1 := G_2.c1
  go_wp2_with fail
  refine (selz_none (by omega) HPy.out R_2 S_2 H01.out hl).mono ?_
  rintro e w3 ⟨rfl, y3⟩
  have R_3 := (R_2.on y3).alloc (.cells #[.int .i64 4, .int .i64 (-2)] 29)
  have S_3 := (S_2.on y3).alloc (.cells #[.int .i64 4, .int .i64 (-2)] 29)
  have V_3 := (V_2.on y3).alloc (.cells #[.int .i64 4, .int .i64 (-2)] 29)
  have F_3 := (F_2.on y3).alloc (.cells #[.int .i64 4, .int .i64 (-2)] 29)
  have G_3 := (G_2.on y3).alloc (.cells #[.int .i64 4, .int .i64 (-2)] 29)
  have E_3 := (Two.new w3 29 (.int .i64 4) (.int .i64 (-2)))
  clear R_2 S_2 V_2 V_2_c0 V_2_c1 V_2_c2 F_2 F_2_c0 F_2_c1 G_2 G_2_c0 G_2_c1
  have z3 := Z2.trans (y3.mono Z2.size)
  have Z3 := (z3).alloc (by have := z3.size; omega) (.cells #[.int .i64 4, .int .i64 (-2)] 29)
  have V_3_c0 := V_3.c0
  have V_3_c1 := V_3.c1
  have V_3_c2 := V_3.c2
  have F_3_c0 := F_3.c0
  have F_3_c1 := F_3.c1
  have G_3_c0 := G_3.c0
  have G_3_c1 := G_3.c1
  have E_3_c0 := E_3.c0
  have E_3_c1 := E_3.c1
  go_wp2_with fail
  refine (ranks_true _).mono ?_
  rintro e w4 ⟨rfl, y4⟩
  have R_4 := R_3.on y4
  have S_4 := S_3.on y4
  have V_4 := V_3.on y4
  have F_4 := F_3.on y4
  have G_4 := G_3.on y4
  have E_4 := E_3.on y4
  clear R_3 S_3 V_3 V_3_c0 V_3_c1 V_3_c2 F_3 F_3_c0 F_3_c1 G_3 G_3_c0 G_3_c1 E_3 E_3_c0 E_3_c1
  have z4 := Z3.trans (y4.mono Z3.size)
  have Z4 := z4
  have V_4_c0 := V_4.c0
  have V_4_c1 := V_4.c1
  have V_4_c2 := V_4.c2
  have F_4_c0 := F_4.c0
  have F_4_c1 := F_4.c1
  have G_4_c0 := G_4.c0
  have G_4_c1 := G_4.c1
  have E_4_c0 := E_4.c0
  have E_4_c1 := E_4.c1
  go_wp2_with fail
  refine (refat_any _ _ _).mono ?_
  rintro e w5 ⟨rfl, y5⟩
  have R_5 := (R_4.on y5).alloc (.cells #[.int .i64 6, .int .i64 (-1)] 29)
  have S_5 := (S_4.on y5).alloc (.cells #[.int .i64 6, .int .i64 (-1)] 29)
  have V_5 := (V_4.on y5).alloc (.cells #[.int .i64 6, .int .i64 (-1)] 29)
  have F_5 := (F_4.on y5).alloc (.cells #[.int .i64 6, .int .i64 (-1)] 29)
  have G_5 := (G_4.on y5).alloc (.cells #[.int .i64 6, .int .i64 (-1)] 29)
  have E_5 := (E_4.on y5).alloc (.cells #[.int .i64 6, .int .i64 (-1)] 29)
  have R_b := R_4.on y5
  have S_b := S_4.on y5
  have V_b := V_4.on y5
  have F_b := F_4.on y5
  have G_b := G_4.on y5
  have E_b := E_4.on y5
  have W_5 := (Two.new w5 29 (.int .i64 6) (.int .i64 (-1)))
  clear R_4 S_4 V_4 V_4_c0 V_4_c1 V_4_c2 F_4 F_4_c0 F_4_c1 G_4 G_4_c0 G_4_c1 E_4 E_4_c0 E_4_c1
  have z5 := Z4.trans (y5.mono Z4.size)
  have Z5 := (z5).alloc (by have := z5.size; omega) (.cells #[.int .i64 6, .int .i64 (-1)] 29)
  have CW_5 := (Below.refl w5.heap.size w5).alloc (by simp) (.cells #[.int .i64 6, .int .i64 (-1)] 29)
  have V_5_c0 := V_5.c0
  have V_5_c1 := V_5.c1
  have V_5_c2 := V_5.c2
  have F_5_c0 := F_5.c0
  have F_5_c1 := F_5.c1
  have G_5_c0 := G_5.c0
  have G_5_c1 := G_5.c1
  have E_5_c0 := E_5.c0
  have E_5_c1 := E_5.c1
  have W_5_c0 := W_5.c0
  have W_5_c1 := W_5.c1
  have W_5_f0 := W_5.f0
  have W_5_f1 := W_5.f1
  go_wp2_with fail
  refine (vectorok_good R_5 S_5 H01.out hl).mono ?_
  rintro e w6 ⟨rfl, y6⟩
  have R_6 := R_5.on y6
  have S_6 := S_5.on y6
  have V_6 := V_5.on y6
  have F_6 := F_5.on y6
  have G_6 := G_5.on y6
  have E_6 := E_5.on y6
  have W_6 := W_5.on y6
  clear R_5 S_5 V_5 V_5_c0 V_5_c1 V_5_c2 F_5 F_5_c0 F_5_c1 G_5 G_5_c0 G_5_c1 E_5 E_5_c0 E_5_c1 W_5 W_5_c0 W_5_c1 W_5_f0 W_5_f1
  have z6 := Z5.trans (y6.mono Z5.size)
  have Z6 := z6
  have cW6 := CW_5.trans (y6.mono CW_5.size)
  have CW_6 := cW6
  have V_6_c0 := V_6.c0
  have V_6_c1 := V_6.c1
  have V_6_c2 := V_6.c2
  have F_6_c0 := F_6.c0
  have F_6_c1 := F_6.c1
  have G_6_c0 := G_6.c0
  have G_6_c1 := G_6.c1
  have E_6_c0 := E_6.c0
  have E_6_c1 := E_6.c1
  have W_6_c0 := W_6.c0
  have W_6_c1 := W_6.c1
  have W_6_f0 := W_6.f0
  have W_6_f1 := W_6.f1
  go_wp2_with fail
  refine (bits_any R_6 H01.out hl _ rfl).mono ?_
  rintro e w7 ⟨Al, cl, rfl, hol, y7⟩
  have R_7 := R_6.on y7
  have S_7 := S_6.on y7
  have V_7 := V_6.on y7
  have F_7 := F_6.on y7
  have G_7 := G_6.on y7
  have E_7 := E_6.on y7
  have W_7 := W_6.on y7
  have L_7 := own_less hol CW_6.size
  clear R_6 S_6 V_6 V_6_c0 V_6_c1 V_6_c2 F_6 F_6_c0 F_6_c1 G_6 G_6_c0 G_6_c1 E_6 E_6_c0 E_6_c1 W_6 W_6_c0 W_6_c1 W_6_f0 W_6_f1
  have z7 := Z6.trans (y7.mono Z6.size)
  have Z7 := z7
  have cW7 := CW_6.trans (y7.mono CW_6.size)
  have CW_7 := cW7
  have V_7_c0 := V_7.c0
  have V_7_c1 := V_7.c1
  have V_7_c2 := V_7.c2
  have F_7_c0 := F_7.c0
  have F_7_c1 := F_7.c1
  have G_7_c0 := G_7.c0
  have G_7_c1 := G_7.c1
  have E_7_c0 := E_7.c0
  have E_7_c1 := E_7.c1
  have W_7_c0 := W_7.c0
  have W_7_c1 := W_7.c1
  have W_7_f0 := W_7.f0
  have W_7_f1 := W_7.f1
  go_wp2_with fail
  refine (refat_any _ _ _).mono ?_
  rintro e w8 ⟨rfl, y8⟩
  have R_8 := R_7.on y8
  have S_8 := S_7.on y8
  have V_8 := V_7.on y8
  have F_8 := F_7.on y8
  have G_8 := G_7.on y8
  have E_8 := E_7.on y8
  have W_8 := W_7.on y8
  have L_8 := own_on L_7 y8
  clear R_7 S_7 V_7 V_7_c0 V_7_c1 V_7_c2 F_7 F_7_c0 F_7_c1 G_7 G_7_c0 G_7_c1 E_7 E_7_c0 E_7_c1 W_7 W_7_c0 W_7_c1 W_7_f0 W_7_f1 L_7
  have z8 := Z7.trans (y8.mono Z7.size)
  have Z8 := z8
  have cW8 := CW_7.trans (y8.mono CW_7.size)
  have CW_8 := cW8
  have V_8_c0 := V_8.c0
  have V_8_c1 := V_8.c1
  have V_8_c2 := V_8.c2
  have F_8_c0 := F_8.c0
  have F_8_c1 := F_8.c1
  have G_8_c0 := G_8.c0
  have G_8_c1 := G_8.c1
  have E_8_c0 := E_8.c0
  have E_8_c1 := E_8.c1
  have W_8_c0 := W_8.c0
  have W_8_c1 := W_8.c1
  have W_8_f0 := W_8.f0
  have W_8_f1 := W_8.f1
  have CW_9 := (CW_8.setCell (p := ⟨w5.heap.size, 0, none⟩) (by simp) (.int .i64 4)).setCell (p := ⟨w5.heap.size, 1, none⟩) (by simp) (.int .i64 (-2))
  have Z9 := (Z8.setCell (p := ⟨w5.heap.size, 0, none⟩) (by have := z5.size; simp; omega) (.int .i64 4)).setCell (p := ⟨w5.heap.size, 1, none⟩) (by have := z5.size; simp; omega) (.int .i64 (-2))
  have R_9 := R_b.on CW_9
  have S_9 := S_b.on CW_9
  have V_9 := V_b.on CW_9
  have F_9 := F_b.on CW_9
  have G_9 := G_b.on CW_9
  have E_9 := E_b.on CW_9
  have W_9 := (W_8.set0 (.int .i64 4)).set1 (.int .i64 (-2))
  have L_9 := own_far_any (own_far_any L_8 (p := ⟨w5.heap.size, 0, none⟩) (own_two_ne L_8 W_8 (by decide)) (.int .i64 4)) (p := ⟨w5.heap.size, 1, none⟩) (own_two_ne L_8 W_8 (by decide)) (.int .i64 (-2))
  have V_9_c0 := V_9.c0
  have V_9_c1 := V_9.c1
  have V_9_c2 := V_9.c2
  have F_9_c0 := F_9.c0
  have F_9_c1 := F_9.c1
  have G_9_c0 := G_9.c0
  have G_9_c1 := G_9.c1
  have E_9_c0 := E_9.c0
  have E_9_c1 := E_9.c1
  have W_9_c0 := W_9.c0
  have W_9_c1 := W_9.c1
  have W_9_f0 := W_9.f0
  have W_9_f1 := W_9.f1
  go_wp2_with fail
  refine (in_yes _ _ _ _ (by omega) (by omega)).mono ?_
  rintro e w9_1 ⟨rfl, rfl⟩
  go_wp2_with fail
  refine (place_any (Rd.own L_9) hl q 1 (by omega) _ (.inr ⟨px, HPx.out, rfl⟩)).mono ?_
  rintro e w9_2 ⟨rfl, rfl⟩
  go_wp2_with fail
  refine (place_any (Rd.own L_9) hl q 0 (by omega) _ (.inl ⟨HPy.out, rfl⟩)).mono ?_
  rintro e w9_3 ⟨rfl, rfl⟩
  go_wp2_with fail
  refine (onesb_any (Rd.own L_9) H01.out hl _ hilo hihi _ HR2.out).mono ?_
  rintro e w9_4 ⟨rfl, rfl⟩
  go_wp2
  go_ret
  exact ⟨rfl, Z9⟩
set_option maxRecDepth 100000 in
set_option maxHeartbeats 3200000 in
theorem rm_xo {A : Option Addr} {n c : Nat} {A2 : Option Addr} {n2 c2 : Nat} {ii : Int} (hilo : -9223372036854775808 ≤ ii) (hihi : ii ≤ 9223372036854775807) {l : List Nat} (h01 : Is01 l) (hl : l.length ≤ 131072) {q : Nat} (hq : ii = (q : Nat)) (hql : q ≤ l.length) (hpx : NoPlace l q 1) {py : Nat} (hpy : PlaceAt l q 0 py)  (w : World) (h : Rd w A n c (bcells (pack l))) (hs : Rd w A2 n2 c2 (ncells (sumsL l))) :
    Calls Try.prog 4 #[.agg #[.slice A n c, .int .i64 (l.length : Nat), .slice A2 n2 c2], .int .i64 ii] w fun e w' => e = .returned (.bool true) ∧ Below w.heap.size w w' := by
  have H01 := Lib.hid h01
  have HLL := Lib.hid hl
  have HOK := Lib.hid (Ok.of_list h01 hl)
  clear h01
  subst hq
  obtain ⟨r, hr⟩ : ∃ r, r = ones (l.take q) := ⟨_, rfl⟩
  have HR := Lib.hid hr
  have HR2 := Lib.hid (show r = ones (l.take ((q : Nat) : Int).toNat) by rw [Int.toNat_natCast]; exact hr)
  clear hr
  have HPx := Lib.hid hpx
  clear hpx
  have HPy := Lib.hid hpy
  clear hpy
  have R_0 := (h).alloc (.cells #[.slice A n c, .int .i64 (l.length : Nat), .slice A2 n2 c2] 27)
  have S_0 := (hs).alloc (.cells #[.slice A n c, .int .i64 (l.length : Nat), .slice A2 n2 c2] 27)
  have V_0 := (Three.new w 27 (.slice A n c) (.int .i64 (l.length : Nat)) (.slice A2 n2 c2))
  have Z0 := (Below.refl w.heap.size w).alloc (by simp) (.cells #[.slice A n c, .int .i64 (l.length : Nat), .slice A2 n2 c2] 27)
  have V_0_c0 := V_0.c0
  have V_0_c1 := V_0.c1
  have V_0_c2 := V_0.c2
  go_enter Try.func4, Try.ntmps4
  go_wp2_with fail
  refine (rk_ok2 rfl rfl rfl hql HR.out R_0 S_0 H01.out hl).mono ?_
  rintro e w1 ⟨rfl, y1⟩
  have R_1 := (R_0.on y1).alloc (.cells #[.int .i64 0, .int .i64 0] 29)
  have S_1 := (S_0.on y1).alloc (.cells #[.int .i64 0, .int .i64 0] 29)
  have V_1 := (V_0.on y1).alloc (.cells #[.int .i64 0, .int .i64 0] 29)
  have F_1 := (Two.new w1 29 (.int .i64 0) (.int .i64 0))
  clear R_0 S_0 V_0 V_0_c0 V_0_c1 V_0_c2
  have z1 := Z0.trans (y1.mono Z0.size)
  have Z1 := (z1).alloc (by have := z1.size; omega) (.cells #[.int .i64 0, .int .i64 0] 29)
  have V_1_c0 := V_1.c0
  have V_1_c1 := V_1.c1
  have V_1_c2 := V_1.c2
  have F_1_c0 := F_1.c0
  have F_1_c1 := F_1.c1
  go_wp2_with fail
  refine (sel_none (by omega) HPx.out R_1 S_1 H01.out hl).mono ?_
  rintro e w2 ⟨rfl, y2⟩
  have R_2 := (R_1.on y2).alloc (.cells #[.int .i64 4, .int .i64 (-2)] 29)
  have S_2 := (S_1.on y2).alloc (.cells #[.int .i64 4, .int .i64 (-2)] 29)
  have V_2 := (V_1.on y2).alloc (.cells #[.int .i64 4, .int .i64 (-2)] 29)
  have F_2 := (F_1.on y2).alloc (.cells #[.int .i64 4, .int .i64 (-2)] 29)
  have G_2 := (Two.new w2 29 (.int .i64 4) (.int .i64 (-2)))
  clear R_1 S_1 V_1 V_1_c0 V_1_c1 V_1_c2 F_1 F_1_c0 F_1_c1
  have z2 := Z1.trans (y2.mono Z1.size)
  have Z2 := (z2).alloc (by have := z2.size; omega) (.cells #[.int .i64 4, .int .i64 (-2)] 29)
  have V_2_c0 := V_2.c0
  have V_2_c1 := V_2.c1
  have V_2_c2 := V_2.c2
  have F_2_c0 := F_2.c0
  have F_2_c1 := F_2.c1
  have G_2_c0 := G_2.c0
  have G_2_c1 := G_2.c1
  go_wp2_with fail
  refine (selz_ok2 rfl rfl rfl (by omega) HPy.out R_2 S_2 H01.out hl).mono ?_
  rintro e w3 ⟨rfl, y3⟩
  have R_3 := (R_2.on y3).alloc (.cells #[.int .i64 0, .int .i64 0] 29)
  have S_3 := (S_2.on y3).alloc (.cells #[.int .i64 0, .int .i64 0] 29)
  have V_3 := (V_2.on y3).alloc (.cells #[.int .i64 0, .int .i64 0] 29)
  have F_3 := (F_2.on y3).alloc (.cells #[.int .i64 0, .int .i64 0] 29)
  have G_3 := (G_2.on y3).alloc (.cells #[.int .i64 0, .int .i64 0] 29)
  have E_3 := (Two.new w3 29 (.int .i64 0) (.int .i64 0))
  clear R_2 S_2 V_2 V_2_c0 V_2_c1 V_2_c2 F_2 F_2_c0 F_2_c1 G_2 G_2_c0 G_2_c1
  have z3 := Z2.trans (y3.mono Z2.size)
  have Z3 := (z3).alloc (by have := z3.size; omega) (.cells #[.int .i64 0, .int .i64 0] 29)
  have V_3_c0 := V_3.c0
  have V_3_c1 := V_3.c1
  have V_3_c2 := V_3.c2
  have F_3_c0 := F_3.c0
  have F_3_c1 := F_3.c1
  have G_3_c0 := G_3.c0
  have G_3_c1 := G_3.c1
  have E_3_c0 := E_3.c0
  have E_3_c1 := E_3.c1
  go_wp2_with fail
  refine (ranks_true _).mono ?_
  rintro e w4 ⟨rfl, y4⟩
  have R_4 := R_3.on y4
  have S_4 := S_3.on y4
  have V_4 := V_3.on y4
  have F_4 := F_3.on y4
  have G_4 := G_3.on y4
  have E_4 := E_3.on y4
  clear R_3 S_3 V_3 V_3_c0 V_3_c1 V_3_c2 F_3 F_3_c0 F_3_c1 G_3 G_3_c0 G_3_c1 E_3 E_3_c0 E_3_c1
  have z4 := Z3.trans (y4.mono Z3.size)
  have Z4 := z4
  have V_4_c0 := V_4.c0
  have V_4_c1 := V_4.c1
  have V_4_c2 := V_4.c2
  have F_4_c0 := F_4.c0
  have F_4_c1 := F_4.c1
  have G_4_c0 := G_4.c0
  have G_4_c1 := G_4.c1
  have E_4_c0 := E_4.c0
  have E_4_c1 := E_4.c1
  go_wp2_with fail
  refine (refat_any _ _ _).mono ?_
  rintro e w5 ⟨rfl, y5⟩
  have R_5 := (R_4.on y5).alloc (.cells #[.int .i64 6, .int .i64 (-1)] 29)
  have S_5 := (S_4.on y5).alloc (.cells #[.int .i64 6, .int .i64 (-1)] 29)
  have V_5 := (V_4.on y5).alloc (.cells #[.int .i64 6, .int .i64 (-1)] 29)
  have F_5 := (F_4.on y5).alloc (.cells #[.int .i64 6, .int .i64 (-1)] 29)
  have G_5 := (G_4.on y5).alloc (.cells #[.int .i64 6, .int .i64 (-1)] 29)
  have E_5 := (E_4.on y5).alloc (.cells #[.int .i64 6, .int .i64 (-1)] 29)
  have R_b := R_4.on y5
  have S_b := S_4.on y5
  have V_b := V_4.on y5
  have F_b := F_4.on y5
  have G_b := G_4.on y5
  have E_b := E_4.on y5
  have W_5 := (Two.new w5 29 (.int .i64 6) (.int .i64 (-1)))
  clear R_4 S_4 V_4 V_4_c0 V_4_c1 V_4_c2 F_4 F_4_c0 F_4_c1 G_4 G_4_c0 G_4_c1 E_4 E_4_c0 E_4_c1
  have z5 := Z4.trans (y5.mono Z4.size)
  have Z5 := (z5).alloc (by have := z5.size; omega) (.cells #[.int .i64 6, .int .i64 (-1)] 29)
  have CW_5 := (Below.refl w5.heap.size w5).alloc (by simp) (.cells #[.int .i64 6, .int .i64 (-1)] 29)
  have V_5_c0 := V_5.c0
  have V_5_c1 := V_5.c1
  have V_5_c2 := V_5.c2
  have F_5_c0 := F_5.c0
  have F_5_c1 := F_5.c1
  have G_5_c0 := G_5.c0
  have G_5_c1 := G_5.c1
  have E_5_c0 := E_5.c0
  have E_5_c1 := E_5.c1
  have W_5_c0 := W_5.c0
  have W_5_c1 := W_5.c1
  have W_5_f0 := W_5.f0
  have W_5_f1 := W_5.f1
  go_wp2_with fail
  refine (vectorok_good R_5 S_5 H01.out hl).mono ?_
  rintro e w6 ⟨rfl, y6⟩
  have R_6 := R_5.on y6
  have S_6 := S_5.on y6
  have V_6 := V_5.on y6
  have F_6 := F_5.on y6
  have G_6 := G_5.on y6
  have E_6 := E_5.on y6
  have W_6 := W_5.on y6
  clear R_5 S_5 V_5 V_5_c0 V_5_c1 V_5_c2 F_5 F_5_c0 F_5_c1 G_5 G_5_c0 G_5_c1 E_5 E_5_c0 E_5_c1 W_5 W_5_c0 W_5_c1 W_5_f0 W_5_f1
  have z6 := Z5.trans (y6.mono Z5.size)
  have Z6 := z6
  have cW6 := CW_5.trans (y6.mono CW_5.size)
  have CW_6 := cW6
  have V_6_c0 := V_6.c0
  have V_6_c1 := V_6.c1
  have V_6_c2 := V_6.c2
  have F_6_c0 := F_6.c0
  have F_6_c1 := F_6.c1
  have G_6_c0 := G_6.c0
  have G_6_c1 := G_6.c1
  have E_6_c0 := E_6.c0
  have E_6_c1 := E_6.c1
  have W_6_c0 := W_6.c0
  have W_6_c1 := W_6.c1
  have W_6_f0 := W_6.f0
  have W_6_f1 := W_6.f1
  go_wp2_with fail
  refine (bits_any R_6 H01.out hl _ rfl).mono ?_
  rintro e w7 ⟨Al, cl, rfl, hol, y7⟩
  have R_7 := R_6.on y7
  have S_7 := S_6.on y7
  have V_7 := V_6.on y7
  have F_7 := F_6.on y7
  have G_7 := G_6.on y7
  have E_7 := E_6.on y7
  have W_7 := W_6.on y7
  have L_7 := own_less hol CW_6.size
  clear R_6 S_6 V_6 V_6_c0 V_6_c1 V_6_c2 F_6 F_6_c0 F_6_c1 G_6 G_6_c0 G_6_c1 E_6 E_6_c0 E_6_c1 W_6 W_6_c0 W_6_c1 W_6_f0 W_6_f1
  have z7 := Z6.trans (y7.mono Z6.size)
  have Z7 := z7
  have cW7 := CW_6.trans (y7.mono CW_6.size)
  have CW_7 := cW7
  have V_7_c0 := V_7.c0
  have V_7_c1 := V_7.c1
  have V_7_c2 := V_7.c2
  have F_7_c0 := F_7.c0
  have F_7_c1 := F_7.c1
  have G_7_c0 := G_7.c0
  have G_7_c1 := G_7.c1
  have E_7_c0 := E_7.c0
  have E_7_c1 := E_7.c1
  have W_7_c0 := W_7.c0
  have W_7_c1 := W_7.c1
  have W_7_f0 := W_7.f0
  have W_7_f1 := W_7.f1
  go_wp2_with fail
  refine (refat_any _ _ _).mono ?_
  rintro e w8 ⟨rfl, y8⟩
  have R_8 := R_7.on y8
  have S_8 := S_7.on y8
  have V_8 := V_7.on y8
  have F_8 := F_7.on y8
  have G_8 := G_7.on y8
  have E_8 := E_7.on y8
  have W_8 := W_7.on y8
  have L_8 := own_on L_7 y8
  clear R_7 S_7 V_7 V_7_c0 V_7_c1 V_7_c2 F_7 F_7_c0 F_7_c1 G_7 G_7_c0 G_7_c1 E_7 E_7_c0 E_7_c1 W_7 W_7_c0 W_7_c1 W_7_f0 W_7_f1 L_7
  have z8 := Z7.trans (y8.mono Z7.size)
  have Z8 := z8
  have cW8 := CW_7.trans (y8.mono CW_7.size)
  have CW_8 := cW8
  have V_8_c0 := V_8.c0
  have V_8_c1 := V_8.c1
  have V_8_c2 := V_8.c2
  have F_8_c0 := F_8.c0
  have F_8_c1 := F_8.c1
  have G_8_c0 := G_8.c0
  have G_8_c1 := G_8.c1
  have E_8_c0 := E_8.c0
  have E_8_c1 := E_8.c1
  have W_8_c0 := W_8.c0
  have W_8_c1 := W_8.c1
  have W_8_f0 := W_8.f0
  have W_8_f1 := W_8.f1
  have CW_9 := (CW_8.setCell (p := ⟨w5.heap.size, 0, none⟩) (by simp) (.int .i64 4)).setCell (p := ⟨w5.heap.size, 1, none⟩) (by simp) (.int .i64 (-2))
  have Z9 := (Z8.setCell (p := ⟨w5.heap.size, 0, none⟩) (by have := z5.size; simp; omega) (.int .i64 4)).setCell (p := ⟨w5.heap.size, 1, none⟩) (by have := z5.size; simp; omega) (.int .i64 (-2))
  have R_9 := R_b.on CW_9
  have S_9 := S_b.on CW_9
  have V_9 := V_b.on CW_9
  have F_9 := F_b.on CW_9
  have G_9 := G_b.on CW_9
  have E_9 := E_b.on CW_9
  have W_9 := (W_8.set0 (.int .i64 4)).set1 (.int .i64 (-2))
  have L_9 := own_far_any (own_far_any L_8 (p := ⟨w5.heap.size, 0, none⟩) (own_two_ne L_8 W_8 (by decide)) (.int .i64 4)) (p := ⟨w5.heap.size, 1, none⟩) (own_two_ne L_8 W_8 (by decide)) (.int .i64 (-2))
  have V_9_c0 := V_9.c0
  have V_9_c1 := V_9.c1
  have V_9_c2 := V_9.c2
  have F_9_c0 := F_9.c0
  have F_9_c1 := F_9.c1
  have G_9_c0 := G_9.c0
  have G_9_c1 := G_9.c1
  have E_9_c0 := E_9.c0
  have E_9_c1 := E_9.c1
  have W_9_c0 := W_9.c0
  have W_9_c1 := W_9.c1
  have W_9_f0 := W_9.f0
  have W_9_f1 := W_9.f1
  go_wp2_with fail
  refine (in_yes _ _ _ _ (by omega) (by omega)).mono ?_
  rintro e w9_1 ⟨rfl, rfl⟩
  go_wp2_with fail
  refine (place_any (Rd.own L_9) hl q 1 (by omega) _ (.inl ⟨HPx.out, rfl⟩)).mono ?_
  rintro e w9_2 ⟨rfl, rfl⟩
  go_wp2_with fail
  refine (place_any (Rd.own L_9) hl q 0 (by omega) _ (.inr ⟨py, HPy.out, rfl⟩)).mono ?_
  rintro e w9_3 ⟨rfl, rfl⟩
  go_wp2_with fail
  refine (onesb_any (Rd.own L_9) H01.out hl _ hilo hihi _ HR2.out).mono ?_
  rintro e w9_4 ⟨rfl, rfl⟩
  go_wp2
  go_ret
  exact ⟨rfl, Z9⟩
set_option maxRecDepth 100000 in
set_option maxHeartbeats 3200000 in
theorem rm_xx {A : Option Addr} {n c : Nat} {A2 : Option Addr} {n2 c2 : Nat} {ii : Int} (hilo : -9223372036854775808 ≤ ii) (hihi : ii ≤ 9223372036854775807) {l : List Nat} (h01 : Is01 l) (hl : l.length ≤ 131072) {q : Nat} (hq : ii = (q : Nat)) (hql : q ≤ l.length) (hpx : NoPlace l q 1) (hpy : NoPlace l q 0)  (w : World) (h : Rd w A n c (bcells (pack l))) (hs : Rd w A2 n2 c2 (ncells (sumsL l))) :
    Calls Try.prog 4 #[.agg #[.slice A n c, .int .i64 (l.length : Nat), .slice A2 n2 c2], .int .i64 ii] w fun e w' => e = .returned (.bool true) ∧ Below w.heap.size w w' := by
  have H01 := Lib.hid h01
  have HLL := Lib.hid hl
  have HOK := Lib.hid (Ok.of_list h01 hl)
  clear h01
  subst hq
  obtain ⟨r, hr⟩ : ∃ r, r = ones (l.take q) := ⟨_, rfl⟩
  have HR := Lib.hid hr
  have HR2 := Lib.hid (show r = ones (l.take ((q : Nat) : Int).toNat) by rw [Int.toNat_natCast]; exact hr)
  clear hr
  have HPx := Lib.hid hpx
  clear hpx
  have HPy := Lib.hid hpy
  clear hpy
  have R_0 := (h).alloc (.cells #[.slice A n c, .int .i64 (l.length : Nat), .slice A2 n2 c2] 27)
  have S_0 := (hs).alloc (.cells #[.slice A n c, .int .i64 (l.length : Nat), .slice A2 n2 c2] 27)
  have V_0 := (Three.new w 27 (.slice A n c) (.int .i64 (l.length : Nat)) (.slice A2 n2 c2))
  have Z0 := (Below.refl w.heap.size w).alloc (by simp) (.cells #[.slice A n c, .int .i64 (l.length : Nat), .slice A2 n2 c2] 27)
  have V_0_c0 := V_0.c0
  have V_0_c1 := V_0.c1
  have V_0_c2 := V_0.c2
  go_enter Try.func4, Try.ntmps4
  go_wp2_with fail
  refine (rk_ok2 rfl rfl rfl hql HR.out R_0 S_0 H01.out hl).mono ?_
  rintro e w1 ⟨rfl, y1⟩
  have R_1 := (R_0.on y1).alloc (.cells #[.int .i64 0, .int .i64 0] 29)
  have S_1 := (S_0.on y1).alloc (.cells #[.int .i64 0, .int .i64 0] 29)
  have V_1 := (V_0.on y1).alloc (.cells #[.int .i64 0, .int .i64 0] 29)
  have F_1 := (Two.new w1 29 (.int .i64 0) (.int .i64 0))
  clear R_0 S_0 V_0 V_0_c0 V_0_c1 V_0_c2
  have z1 := Z0.trans (y1.mono Z0.size)
  have Z1 := (z1).alloc (by have := z1.size; omega) (.cells #[.int .i64 0, .int .i64 0] 29)
  have V_1_c0 := V_1.c0
  have V_1_c1 := V_1.c1
  have V_1_c2 := V_1.c2
  have F_1_c0 := F_1.c0
  have F_1_c1 := F_1.c1
  go_wp2_with fail
  refine (sel_none (by omega) HPx.out R_1 S_1 H01.out hl).mono ?_
  rintro e w2 ⟨rfl, y2⟩
  have R_2 := (R_1.on y2).alloc (.cells #[.int .i64 4, .int .i64 (-2)] 29)
  have S_2 := (S_1.on y2).alloc (.cells #[.int .i64 4, .int .i64 (-2)] 29)
  have V_2 := (V_1.on y2).alloc (.cells #[.int .i64 4, .int .i64 (-2)] 29)
  have F_2 := (F_1.on y2).alloc (.cells #[.int .i64 4, .int .i64 (-2)] 29)
  have G_2 := (Two.new w2 29 (.int .i64 4) (.int .i64 (-2)))
  clear R_1 S_1 V_1 V_1_c0 V_1_c1 V_1_c2 F_1 F_1_c0 F_1_c1
  have z2 := Z1.trans (y2.mono Z1.size)
  have Z2 := (z2).alloc (by have := z2.size; omega) (.cells #[.int .i64 4, .int .i64 (-2)] 29)
  have V_2_c0 := V_2.c0
  have V_2_c1 := V_2.c1
  have V_2_c2 := V_2.c2
  have F_2_c0 := F_2.c0
  have F_2_c1 := F_2.c1
  have G_2_c0 := G_2.c0
  have G_2_c1 := G_2.c1
  go_wp2_with fail
  refine (selz_none (by omega) HPy.out R_2 S_2 H01.out hl).mono ?_
  rintro e w3 ⟨rfl, y3⟩
  have R_3 := (R_2.on y3).alloc (.cells #[.int .i64 4, .int .i64 (-2)] 29)
  have S_3 := (S_2.on y3).alloc (.cells #[.int .i64 4, .int .i64 (-2)] 29)
  have V_3 := (V_2.on y3).alloc (.cells #[.int .i64 4, .int .i64 (-2)] 29)
  have F_3 := (F_2.on y3).alloc (.cells #[.int .i64 4, .int .i64 (-2)] 29)
  have G_3 := (G_2.on y3).alloc (.cells #[.int .i64 4, .int .i64 (-2)] 29)
  have E_3 := (Two.new w3 29 (.int .i64 4) (.int .i64 (-2)))
  clear R_2 S_2 V_2 V_2_c0 V_2_c1 V_2_c2 F_2 F_2_c0 F_2_c1 G_2 G_2_c0 G_2_c1
  have z3 := Z2.trans (y3.mono Z2.size)
  have Z3 := (z3).alloc (by have := z3.size; omega) (.cells #[.int .i64 4, .int .i64 (-2)] 29)
  have V_3_c0 := V_3.c0
  have V_3_c1 := V_3.c1
  have V_3_c2 := V_3.c2
  have F_3_c0 := F_3.c0
  have F_3_c1 := F_3.c1
  have G_3_c0 := G_3.c0
  have G_3_c1 := G_3.c1
  have E_3_c0 := E_3.c0
  have E_3_c1 := E_3.c1
  go_wp2_with fail
  refine (ranks_true _).mono ?_
  rintro e w4 ⟨rfl, y4⟩
  have R_4 := R_3.on y4
  have S_4 := S_3.on y4
  have V_4 := V_3.on y4
  have F_4 := F_3.on y4
  have G_4 := G_3.on y4
  have E_4 := E_3.on y4
  clear R_3 S_3 V_3 V_3_c0 V_3_c1 V_3_c2 F_3 F_3_c0 F_3_c1 G_3 G_3_c0 G_3_c1 E_3 E_3_c0 E_3_c1
  have z4 := Z3.trans (y4.mono Z3.size)
  have Z4 := z4
  have V_4_c0 := V_4.c0
  have V_4_c1 := V_4.c1
  have V_4_c2 := V_4.c2
  have F_4_c0 := F_4.c0
  have F_4_c1 := F_4.c1
  have G_4_c0 := G_4.c0
  have G_4_c1 := G_4.c1
  have E_4_c0 := E_4.c0
  have E_4_c1 := E_4.c1
  go_wp2_with fail
  refine (refat_any _ _ _).mono ?_
  rintro e w5 ⟨rfl, y5⟩
  have R_5 := (R_4.on y5).alloc (.cells #[.int .i64 6, .int .i64 (-1)] 29)
  have S_5 := (S_4.on y5).alloc (.cells #[.int .i64 6, .int .i64 (-1)] 29)
  have V_5 := (V_4.on y5).alloc (.cells #[.int .i64 6, .int .i64 (-1)] 29)
  have F_5 := (F_4.on y5).alloc (.cells #[.int .i64 6, .int .i64 (-1)] 29)
  have G_5 := (G_4.on y5).alloc (.cells #[.int .i64 6, .int .i64 (-1)] 29)
  have E_5 := (E_4.on y5).alloc (.cells #[.int .i64 6, .int .i64 (-1)] 29)
  have R_b := R_4.on y5
  have S_b := S_4.on y5
  have V_b := V_4.on y5
  have F_b := F_4.on y5
  have G_b := G_4.on y5
  have E_b := E_4.on y5
  have W_5 := (Two.new w5 29 (.int .i64 6) (.int .i64 (-1)))
  clear R_4 S_4 V_4 V_4_c0 V_4_c1 V_4_c2 F_4 F_4_c0 F_4_c1 G_4 G_4_c0 G_4_c1 E_4 E_4_c0 E_4_c1
  have z5 := Z4.trans (y5.mono Z4.size)
  have Z5 := (z5).alloc (by have := z5.size; omega) (.cells #[.int .i64 6, .int .i64 (-1)] 29)
  have CW_5 := (Below.refl w5.heap.size w5).alloc (by simp) (.cells #[.int .i64 6, .int .i64 (-1)] 29)
  have V_5_c0 := V_5.c0
  have V_5_c1 := V_5.c1
  have V_5_c2 := V_5.c2
  have F_5_c0 := F_5.c0
  have F_5_c1 := F_5.c1
  have G_5_c0 := G_5.c0
  have G_5_c1 := G_5.c1
  have E_5_c0 := E_5.c0
  have E_5_c1 := E_5.c1
  have W_5_c0 := W_5.c0
  have W_5_c1 := W_5.c1
  have W_5_f0 := W_5.f0
  have W_5_f1 := W_5.f1
  go_wp2_with fail
  refine (vectorok_good R_5 S_5 H01.out hl).mono ?_
  rintro e w6 ⟨rfl, y6⟩
  have R_6 := R_5.on y6
  have S_6 := S_5.on y6
  have V_6 := V_5.on y6
  have F_6 := F_5.on y6
  have G_6 := G_5.on y6
  have E_6 := E_5.on y6
  have W_6 := W_5.on y6
  clear R_5 S_5 V_5 V_5_c0 V_5_c1 V_5_c2 F_5 F_5_c0 F_5_c1 G_5 G_5_c0 G_5_c1 E_5 E_5_c0 E_5_c1 W_5 W_5_c0 W_5_c1 W_5_f0 W_5_f1
  have z6 := Z5.trans (y6.mono Z5.size)
  have Z6 := z6
  have cW6 := CW_5.trans (y6.mono CW_5.size)
  have CW_6 := cW6
  have V_6_c0 := V_6.c0
  have V_6_c1 := V_6.c1
  have V_6_c2 := V_6.c2
  have F_6_c0 := F_6.c0
  have F_6_c1 := F_6.c1
  have G_6_c0 := G_6.c0
  have G_6_c1 := G_6.c1
  have E_6_c0 := E_6.c0
  have E_6_c1 := E_6.c1
  have W_6_c0 := W_6.c0
  have W_6_c1 := W_6.c1
  have W_6_f0 := W_6.f0
  have W_6_f1 := W_6.f1
  go_wp2_with fail
  refine (bits_any R_6 H01.out hl _ rfl).mono ?_
  rintro e w7 ⟨Al, cl, rfl, hol, y7⟩
  have R_7 := R_6.on y7
  have S_7 := S_6.on y7
  have V_7 := V_6.on y7
  have F_7 := F_6.on y7
  have G_7 := G_6.on y7
  have E_7 := E_6.on y7
  have W_7 := W_6.on y7
  have L_7 := own_less hol CW_6.size
  clear R_6 S_6 V_6 V_6_c0 V_6_c1 V_6_c2 F_6 F_6_c0 F_6_c1 G_6 G_6_c0 G_6_c1 E_6 E_6_c0 E_6_c1 W_6 W_6_c0 W_6_c1 W_6_f0 W_6_f1
  have z7 := Z6.trans (y7.mono Z6.size)
  have Z7 := z7
  have cW7 := CW_6.trans (y7.mono CW_6.size)
  have CW_7 := cW7
  have V_7_c0 := V_7.c0
  have V_7_c1 := V_7.c1
  have V_7_c2 := V_7.c2
  have F_7_c0 := F_7.c0
  have F_7_c1 := F_7.c1
  have G_7_c0 := G_7.c0
  have G_7_c1 := G_7.c1
  have E_7_c0 := E_7.c0
  have E_7_c1 := E_7.c1
  have W_7_c0 := W_7.c0
  have W_7_c1 := W_7.c1
  have W_7_f0 := W_7.f0
  have W_7_f1 := W_7.f1
  go_wp2_with fail
  refine (refat_any _ _ _).mono ?_
  rintro e w8 ⟨rfl, y8⟩
  have R_8 := R_7.on y8
  have S_8 := S_7.on y8
  have V_8 := V_7.on y8
  have F_8 := F_7.on y8
  have G_8 := G_7.on y8
  have E_8 := E_7.on y8
  have W_8 := W_7.on y8
  have L_8 := own_on L_7 y8
  clear R_7 S_7 V_7 V_7_c0 V_7_c1 V_7_c2 F_7 F_7_c0 F_7_c1 G_7 G_7_c0 G_7_c1 E_7 E_7_c0 E_7_c1 W_7 W_7_c0 W_7_c1 W_7_f0 W_7_f1 L_7
  have z8 := Z7.trans (y8.mono Z7.size)
  have Z8 := z8
  have cW8 := CW_7.trans (y8.mono CW_7.size)
  have CW_8 := cW8
  have V_8_c0 := V_8.c0
  have V_8_c1 := V_8.c1
  have V_8_c2 := V_8.c2
  have F_8_c0 := F_8.c0
  have F_8_c1 := F_8.c1
  have G_8_c0 := G_8.c0
  have G_8_c1 := G_8.c1
  have E_8_c0 := E_8.c0
  have E_8_c1 := E_8.c1
  have W_8_c0 := W_8.c0
  have W_8_c1 := W_8.c1
  have W_8_f0 := W_8.f0
  have W_8_f1 := W_8.f1
  have CW_9 := (CW_8.setCell (p := ⟨w5.heap.size, 0, none⟩) (by simp) (.int .i64 4)).setCell (p := ⟨w5.heap.size, 1, none⟩) (by simp) (.int .i64 (-2))
  have Z9 := (Z8.setCell (p := ⟨w5.heap.size, 0, none⟩) (by have := z5.size; simp; omega) (.int .i64 4)).setCell (p := ⟨w5.heap.size, 1, none⟩) (by have := z5.size; simp; omega) (.int .i64 (-2))
  have R_9 := R_b.on CW_9
  have S_9 := S_b.on CW_9
  have V_9 := V_b.on CW_9
  have F_9 := F_b.on CW_9
  have G_9 := G_b.on CW_9
  have E_9 := E_b.on CW_9
  have W_9 := (W_8.set0 (.int .i64 4)).set1 (.int .i64 (-2))
  have L_9 := own_far_any (own_far_any L_8 (p := ⟨w5.heap.size, 0, none⟩) (own_two_ne L_8 W_8 (by decide)) (.int .i64 4)) (p := ⟨w5.heap.size, 1, none⟩) (own_two_ne L_8 W_8 (by decide)) (.int .i64 (-2))
  have V_9_c0 := V_9.c0
  have V_9_c1 := V_9.c1
  have V_9_c2 := V_9.c2
  have F_9_c0 := F_9.c0
  have F_9_c1 := F_9.c1
  have G_9_c0 := G_9.c0
  have G_9_c1 := G_9.c1
  have E_9_c0 := E_9.c0
  have E_9_c1 := E_9.c1
  have W_9_c0 := W_9.c0
  have W_9_c1 := W_9.c1
  have W_9_f0 := W_9.f0
  have W_9_f1 := W_9.f1
  go_wp2_with fail
  refine (in_yes _ _ _ _ (by omega) (by omega)).mono ?_
  rintro e w9_1 ⟨rfl, rfl⟩
  go_wp2_with fail
  refine (place_any (Rd.own L_9) hl q 1 (by omega) _ (.inl ⟨HPx.out, rfl⟩)).mono ?_
  rintro e w9_2 ⟨rfl, rfl⟩
  go_wp2_with fail
  refine (place_any (Rd.own L_9) hl q 0 (by omega) _ (.inl ⟨HPy.out, rfl⟩)).mono ?_
  rintro e w9_3 ⟨rfl, rfl⟩
  go_wp2_with fail
  refine (onesb_any (Rd.own L_9) H01.out hl _ hilo hihi _ HR2.out).mono ?_
  rintro e w9_4 ⟨rfl, rfl⟩
  go_wp2
  go_ret
  exact ⟨rfl, Z9⟩
theorem rm_all {A : Option Addr} {n c : Nat} {A2 : Option Addr} {n2 c2 : Nat} {ii : Int} {d : List Nat} {cnt : Int} {zs : List Int} (hilo : -9223372036854775808 ≤ ii) (hihi : ii ≤ 9223372036854775807) (hd : ∀ k, d.getD k 0 < 256) (hlo : -9223372036854775808 ≤ cnt) (hhi : cnt ≤ 9223372036854775807) (w : World) (h : Rd w A n c (bcells d)) (hs : Rd w A2 n2 c2 (icells zs)) :
    Calls Try.prog 4 #[.agg #[.slice A n c, .int .i64 cnt, .slice A2 n2 c2], .int .i64 ii] w fun e w' => e = .returned (.bool true) ∧ Below w.heap.size w w' := by
  rcases vector_cases d cnt zs hd with hV | ⟨l, g1, g2, rfl, rfl, rfl⟩
  · exact rm_n hilo hihi hd hlo hhi hV w h hs
  · rw [← isums_cells] at hs
    by_cases hneg : ii < 0
    · exact rm_neg hilo hihi g1 g2 hneg w h hs
    obtain ⟨q, rfl⟩ := Int.eq_ofNat_of_zero_le (show 0 ≤ ii by omega)
    by_cases hbig : l.length < q
    · exact rm_big hilo hihi g1 g2 rfl hbig w h hs
    have hql : q ≤ l.length := by omega
    rcases place_or l q 1 with hx | ⟨px, hx⟩
    · rcases place_or l q 0 with hy | ⟨py, hy⟩
      · exact rm_xx hilo hihi g1 g2 rfl hql hx hy w h hs
      · exact rm_xo hilo hihi g1 g2 rfl hql hx hy w h hs
    · rcases place_or l q 0 with hy | ⟨py, hy⟩
      · exact rm_ox hilo hihi g1 g2 rfl hql hx hy w h hs
      · exact rm_oo hilo hihi g1 g2 rfl hql hx hy w h hs
end PB
end Go.Proofs.Ytckimocmppdecaa
