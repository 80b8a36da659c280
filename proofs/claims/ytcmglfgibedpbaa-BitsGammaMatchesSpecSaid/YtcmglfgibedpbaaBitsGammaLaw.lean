/-
  Gamma codes that are added to a bit string and read from it, with all errors, are as specified: the walk of the statement BitsGammaMatchesSpec.
-/
import Derived.Test.YtcmglfgibedpbaaRows
import Derived.Test.YtcmglfgibedpbaaBitsApi
import Derived.Test.YtcmglfgibedpbaaBitsRef4
import Derived.Deep.RegionHeld3
import Derived.Deep.DrawnRows
namespace Go.Proofs.Ytcmglfgibedpbaa
open Go.RowKit
attribute [local go_sem ↓] Go.wp_at_zero Go.wp_at_succ
set_option linter.unusedVariables false
set_option linter.unusedSimpArgs false
namespace PB
theorem rg_bad {A : Option Addr} {n c : Nat} {l : List Nat} {f cd : Nat} {w : World} (h : Rd w A n c (bcells (pack l))) (h01 : Is01 l) (hl : l.length ≤ 131072) (hf : f ≤ l.length) (hG : GAt l f 0 0 cd) (hc : cd ≠ 0) :
    Calls Try.prog 20 #[.agg #[.slice A n c, .int .i64 l.length], .int .i64 (f : Nat)] w fun e w' => e = .returned (.tuple #[.int .i64 0, .int .i64 0, .agg #[.int .i64 (cd : Nat), .int .i64 (-2)]]) ∧ Below w.heap.size w w' := by
  rcases hG with ⟨h1, _, _, rfl⟩ | ⟨h1, h2, _, _, rfl⟩ | ⟨_, _, _, _, h3⟩
  · exact rgamma_corrupt A n c l f _ w h (Nat.le_refl _) h01 hl hf h1
  · exact rgamma_trunc A n c l f _ w h (Nat.le_refl _) h01 hl hf h1 h2
  · exact absurd h3 hc
theorem rg_ok {A : Option Addr} {n c : Nat} {l : List Nat} {f v e1 : Nat} {w : World} (h : Rd w A n c (bcells (pack l))) (h01 : Is01 l) (hl : l.length ≤ 131072) (hf : f ≤ l.length) (hG : GAt l f v e1 0) :
    Calls Try.prog 20 #[.agg #[.slice A n c, .int .i64 l.length], .int .i64 (f : Nat)] w fun e w' => e = .returned (.tuple #[.int .i64 (v : Nat), .int .i64 (e1 : Nat), .agg #[.int .i64 0, .int .i64 0]]) ∧ Below w.heap.size w w' := by
  rcases hG with ⟨_, _, _, h3⟩ | ⟨_, _, _, _, h3⟩ | ⟨h1, h2, rfl, rfl, _⟩
  · cases h3
  · cases h3
  · exact rgamma_ok A n c l f _ w h (Nat.le_refl _) h01 hl hf h1 h2
set_option maxRecDepth 100000 in
set_option maxHeartbeats 3200000 in
theorem gm_b0 {A : Option Addr} {n c : Nat} {d : List Nat} {cnt : Int} (hd : ∀ k, d.getD k 0 < 256) (hlo : -9223372036854775808 ≤ cnt) (hhi : cnt ≤ 9223372036854775807) (hno : ¬ Ok d cnt) {x : Int} (hx : x < 1) {f : Int}  (w : World) (h : Rd w A n c (bcells d)) :
    Calls Try.prog 4 #[.agg #[.slice A n c, .int .i64 cnt], .int .i64 x, .int .i64 f] w fun e w' => e = .returned (.bool true) ∧ Below w.heap.size w w' := by
  obtain ⟨i0, hi, hz0, hz1, hz2⟩ := info_parts int_info
  have HD := Lib.hid hd
  have HNO := Lib.hid hno
  clear hd hno
  have R_0 := (h).alloc (.cells #[.slice A n c, .int .i64 cnt] 24)
  have B_0 := (Two.new w 24 (.slice A n c) (.int .i64 cnt))
  have Z0 := (Below.refl w.heap.size w).alloc (by simp) (.cells #[.slice A n c, .int .i64 cnt] 24)
  have B_0_c0 := B_0.c0
  have B_0_c1 := B_0.c1
  go_enter Try.func4, Try.ntmps4
  go_wp2_with fail
  refine (agamma_form A n c d cnt x _ _ R_0 (Nat.le_refl _) HNO.out).mono ?_
  unfold flt noBits
  rintro e w1 ⟨rfl, y1⟩
  have R_1 := ((R_0.on y1).alloc (.cells #[.slice none 0 0, .int .i64 0] 24)).alloc (.cells #[.int .i64 6, .int .i64 (-1)] 26)
  have B_1 := ((B_0.on y1).alloc (.cells #[.slice none 0 0, .int .i64 0] 24)).alloc (.cells #[.int .i64 6, .int .i64 (-1)] 26)
  have RX_1 := ((Rd.none_ w1).alloc (.cells #[.slice none 0 0, .int .i64 0] 24)).alloc (.cells #[.int .i64 6, .int .i64 (-1)] 26)
  have X_1 := ((Two.new w1 24 (.slice none 0 0) (.int .i64 0))).alloc (.cells #[.int .i64 6, .int .i64 (-1)] 26)
  have F_1 := (Two.new1 w1 (.cells #[.slice none 0 0, .int .i64 0] 24) 26 (.int .i64 6) (.int .i64 (-1)))
  clear R_0 B_0 B_0_c0 B_0_c1
  have z1 := Z0.trans (y1.mono Z0.size)
  have Z1 := ((z1).alloc (by have := z1.size; omega) (.cells #[.slice none 0 0, .int .i64 0] 24)).alloc (by have := z1.size; simp; omega) (.cells #[.int .i64 6, .int .i64 (-1)] 26)
  have B_1_c0 := B_1.c0
  have B_1_c1 := B_1.c1
  have X_1_c0 := X_1.c0
  have X_1_c1 := X_1.c1
  have F_1_c0 := F_1.c0
  have F_1_c1 := F_1.c1
  go_wp2_with fail
  refine (rgamma_form A n c d cnt f _ _ R_1 (Nat.le_refl _) HNO.out).mono ?_
  unfold flt
  rintro e w2 ⟨rfl, y2⟩
  have R_2 := (R_1.on y2).alloc (.cells #[.int .i64 6, .int .i64 (-1)] 26)
  have B_2 := (B_1.on y2).alloc (.cells #[.int .i64 6, .int .i64 (-1)] 26)
  have RX_2 := (RX_1.on y2).alloc (.cells #[.int .i64 6, .int .i64 (-1)] 26)
  have X_2 := (X_1.on y2).alloc (.cells #[.int .i64 6, .int .i64 (-1)] 26)
  have F_2 := (F_1.on y2).alloc (.cells #[.int .i64 6, .int .i64 (-1)] 26)
  have G_2 := (Two.new w2 26 (.int .i64 6) (.int .i64 (-1)))
  clear R_1 B_1 B_1_c0 B_1_c1 RX_1 X_1 X_1_c0 X_1_c1 F_1 F_1_c0 F_1_c1
  have z2 := Z1.trans (y2.mono Z1.size)
  have Z2 := (z2).alloc (by have := z2.size; omega) (.cells #[.int .i64 6, .int .i64 (-1)] 26)
  have B_2_c0 := B_2.c0
  have B_2_c1 := B_2.c1
  have X_2_c0 := X_2.c0
  have X_2_c1 := X_2.c1
  have F_2_c0 := F_2.c0
  have F_2_c1 := F_2.c1
  have G_2_c0 := G_2.c0
  have G_2_c1 := G_2.c1
  go_wp2_with fail
  refine (strings_true _).mono ?_
  rintro e w3 ⟨rfl, y3⟩
  have R_3 := R_2.on y3
  have B_3 := B_2.on y3
  have RX_3 := RX_2.on y3
  have X_3 := X_2.on y3
  have F_3 := F_2.on y3
  have G_3 := G_2.on y3
  clear R_2 B_2 B_2_c0 B_2_c1 RX_2 X_2 X_2_c0 X_2_c1 F_2 F_2_c0 F_2_c1 G_2 G_2_c0 G_2_c1
  have z3 := Z2.trans (y3.mono Z2.size)
  have Z3 := z3
  have B_3_c0 := B_3.c0
  have B_3_c1 := B_3.c1
  have X_3_c0 := X_3.c0
  have X_3_c1 := X_3.c1
  have F_3_c0 := F_3.c0
  have F_3_c1 := F_3.c1
  have G_3_c0 := G_3.c0
  have G_3_c1 := G_3.c1
  go_wp2_with fail
  refine ((gsize_zero x _ hx)).mono ?_
  rintro e w9_1 ⟨rfl, rfl⟩
  go_wp2_with fail
  refine (refat_any _ _ _).mono ?_
  rintro e w4 ⟨rfl, y4⟩
  have R_4 := (R_3.on y4).alloc (.cells #[.int .i64 6, .int .i64 (-1)] 26)
  have B_4 := (B_3.on y4).alloc (.cells #[.int .i64 6, .int .i64 (-1)] 26)
  have RX_4 := (RX_3.on y4).alloc (.cells #[.int .i64 6, .int .i64 (-1)] 26)
  have X_4 := (X_3.on y4).alloc (.cells #[.int .i64 6, .int .i64 (-1)] 26)
  have F_4 := (F_3.on y4).alloc (.cells #[.int .i64 6, .int .i64 (-1)] 26)
  have G_4 := (G_3.on y4).alloc (.cells #[.int .i64 6, .int .i64 (-1)] 26)
  have R_b := R_3.on y4
  have B_b := B_3.on y4
  have RX_b := RX_3.on y4
  have X_b := X_3.on y4
  have F_b := F_3.on y4
  have G_b := G_3.on y4
  have W_4 := (Two.new w4 26 (.int .i64 6) (.int .i64 (-1)))
  clear R_3 B_3 B_3_c0 B_3_c1 RX_3 X_3 X_3_c0 X_3_c1 F_3 F_3_c0 F_3_c1 G_3 G_3_c0 G_3_c1
  have z4 := Z3.trans (y4.mono Z3.size)
  have Z4 := (z4).alloc (by have := z4.size; omega) (.cells #[.int .i64 6, .int .i64 (-1)] 26)
  have CW_4 := (Below.refl w4.heap.size w4).alloc (by simp) (.cells #[.int .i64 6, .int .i64 (-1)] 26)
  have B_4_c0 := B_4.c0
  have B_4_c1 := B_4.c1
  have X_4_c0 := X_4.c0
  have X_4_c1 := X_4.c1
  have F_4_c0 := F_4.c0
  have F_4_c1 := F_4.c1
  have G_4_c0 := G_4.c0
  have G_4_c1 := G_4.c1
  have W_4_c0 := W_4.c0
  have W_4_c1 := W_4.c1
  have W_4_f0 := W_4.f0
  have W_4_f1 := W_4.f1
  go_wp2_with fail
  refine (bitsok_any R_4 HD.out hlo hhi false ⟨(fun h => by cases h), fun h => absurd h HNO.out⟩).mono ?_
  rintro e w5 ⟨rfl, y5⟩
  have R_5 := R_4.on y5
  have B_5 := B_4.on y5
  have RX_5 := RX_4.on y5
  have X_5 := X_4.on y5
  have F_5 := F_4.on y5
  have G_5 := G_4.on y5
  have W_5 := W_4.on y5
  clear R_4 B_4 B_4_c0 B_4_c1 RX_4 X_4 X_4_c0 X_4_c1 F_4 F_4_c0 F_4_c1 G_4 G_4_c0 G_4_c1 W_4 W_4_c0 W_4_c1 W_4_f0 W_4_f1
  have z5 := Z4.trans (y5.mono Z4.size)
  have Z5 := z5
  have cW5 := CW_4.trans (y5.mono CW_4.size)
  have CW_5 := cW5
  have B_5_c0 := B_5.c0
  have B_5_c1 := B_5.c1
  have X_5_c0 := X_5.c0
  have X_5_c1 := X_5.c1
  have F_5_c0 := F_5.c0
  have F_5_c1 := F_5.c1
  have G_5_c0 := G_5.c0
  have G_5_c1 := G_5.c1
  have W_5_c0 := W_5.c0
  have W_5_c1 := W_5.c1
  have W_5_f0 := W_5.f0
  have W_5_f1 := W_5.f1
  go_wp2_with fail
  refine (api_same (l := []) (l2 := []) RX_5 (Rd.none_ _) Is01.nil Is01.nil true (by decide) _ _ rfl rfl).mono ?_
  rintro e w6 ⟨rfl, y6⟩
  have R_6 := R_5.on y6
  have B_6 := B_5.on y6
  have RX_6 := RX_5.on y6
  have X_6 := X_5.on y6
  have F_6 := F_5.on y6
  have G_6 := G_5.on y6
  have W_6 := W_5.on y6
  clear R_5 B_5 B_5_c0 B_5_c1 RX_5 X_5 X_5_c0 X_5_c1 F_5 F_5_c0 F_5_c1 G_5 G_5_c0 G_5_c1 W_5 W_5_c0 W_5_c1 W_5_f0 W_5_f1
  have z6 := Z5.trans (y6.mono Z5.size)
  have Z6 := z6
  have cW6 := CW_5.trans (y6.mono CW_5.size)
  have CW_6 := cW6
  have B_6_c0 := B_6.c0
  have B_6_c1 := B_6.c1
  have X_6_c0 := X_6.c0
  have X_6_c1 := X_6.c1
  have F_6_c0 := F_6.c0
  have F_6_c1 := F_6.c1
  have G_6_c0 := G_6.c0
  have G_6_c1 := G_6.c1
  have W_6_c0 := W_6.c0
  have W_6_c1 := W_6.c1
  have W_6_f0 := W_6.f0
  have W_6_f1 := W_6.f1
  go_wp2
  go_ret
  exact ⟨rfl, Z6⟩
set_option maxRecDepth 100000 in
set_option maxHeartbeats 3200000 in
theorem gm_b1 {A : Option Addr} {n c : Nat} {d : List Nat} {cnt : Int} (hd : ∀ k, d.getD k 0 < 256) (hlo : -9223372036854775808 ≤ cnt) (hhi : cnt ≤ 9223372036854775807) (hno : ¬ Ok d cnt) {x : Nat} (hx1 : 1 ≤ x) (hx2 : x < 9223372036854775808) {f : Int}  (w : World) (h : Rd w A n c (bcells d)) :
    Calls Try.prog 4 #[.agg #[.slice A n c, .int .i64 cnt], .int .i64 (x : Nat), .int .i64 f] w fun e w' => e = .returned (.bool true) ∧ Below w.heap.size w w' := by
  obtain ⟨i0, hi, hz0, hz1, hz2⟩ := info_parts int_info
  have HD := Lib.hid hd
  have HNO := Lib.hid hno
  clear hd hno
  have hgz : gsz x ≤ 125 := by have := bitLen_le64 x (by omega); unfold gsz; omega
  have HG := Lib.hid (fun W => gammaref_any x _ rfl hx1 hx2 W)
  have R_0 := (h).alloc (.cells #[.slice A n c, .int .i64 cnt] 24)
  have B_0 := (Two.new w 24 (.slice A n c) (.int .i64 cnt))
  have Z0 := (Below.refl w.heap.size w).alloc (by simp) (.cells #[.slice A n c, .int .i64 cnt] 24)
  have B_0_c0 := B_0.c0
  have B_0_c1 := B_0.c1
  go_enter Try.func4, Try.ntmps4
  go_wp2_with fail
  refine (agamma_form A n c d cnt (x : Nat) _ _ R_0 (Nat.le_refl _) HNO.out).mono ?_
  unfold flt noBits
  rintro e w1 ⟨rfl, y1⟩
  have R_1 := ((R_0.on y1).alloc (.cells #[.slice none 0 0, .int .i64 0] 24)).alloc (.cells #[.int .i64 6, .int .i64 (-1)] 26)
  have B_1 := ((B_0.on y1).alloc (.cells #[.slice none 0 0, .int .i64 0] 24)).alloc (.cells #[.int .i64 6, .int .i64 (-1)] 26)
  have RX_1 := ((Rd.none_ w1).alloc (.cells #[.slice none 0 0, .int .i64 0] 24)).alloc (.cells #[.int .i64 6, .int .i64 (-1)] 26)
  have X_1 := ((Two.new w1 24 (.slice none 0 0) (.int .i64 0))).alloc (.cells #[.int .i64 6, .int .i64 (-1)] 26)
  have F_1 := (Two.new1 w1 (.cells #[.slice none 0 0, .int .i64 0] 24) 26 (.int .i64 6) (.int .i64 (-1)))
  clear R_0 B_0 B_0_c0 B_0_c1
  have z1 := Z0.trans (y1.mono Z0.size)
  have Z1 := ((z1).alloc (by have := z1.size; omega) (.cells #[.slice none 0 0, .int .i64 0] 24)).alloc (by have := z1.size; simp; omega) (.cells #[.int .i64 6, .int .i64 (-1)] 26)
  have B_1_c0 := B_1.c0
  have B_1_c1 := B_1.c1
  have X_1_c0 := X_1.c0
  have X_1_c1 := X_1.c1
  have F_1_c0 := F_1.c0
  have F_1_c1 := F_1.c1
  go_wp2_with fail
  refine (rgamma_form A n c d cnt f _ _ R_1 (Nat.le_refl _) HNO.out).mono ?_
  unfold flt
  rintro e w2 ⟨rfl, y2⟩
  have R_2 := (R_1.on y2).alloc (.cells #[.int .i64 6, .int .i64 (-1)] 26)
  have B_2 := (B_1.on y2).alloc (.cells #[.int .i64 6, .int .i64 (-1)] 26)
  have RX_2 := (RX_1.on y2).alloc (.cells #[.int .i64 6, .int .i64 (-1)] 26)
  have X_2 := (X_1.on y2).alloc (.cells #[.int .i64 6, .int .i64 (-1)] 26)
  have F_2 := (F_1.on y2).alloc (.cells #[.int .i64 6, .int .i64 (-1)] 26)
  have G_2 := (Two.new w2 26 (.int .i64 6) (.int .i64 (-1)))
  clear R_1 B_1 B_1_c0 B_1_c1 RX_1 X_1 X_1_c0 X_1_c1 F_1 F_1_c0 F_1_c1
  have z2 := Z1.trans (y2.mono Z1.size)
  have Z2 := (z2).alloc (by have := z2.size; omega) (.cells #[.int .i64 6, .int .i64 (-1)] 26)
  have B_2_c0 := B_2.c0
  have B_2_c1 := B_2.c1
  have X_2_c0 := X_2.c0
  have X_2_c1 := X_2.c1
  have F_2_c0 := F_2.c0
  have F_2_c1 := F_2.c1
  have G_2_c0 := G_2.c0
  have G_2_c1 := G_2.c1
  go_wp2_with fail
  refine (strings_true _).mono ?_
  rintro e w3 ⟨rfl, y3⟩
  have R_3 := R_2.on y3
  have B_3 := B_2.on y3
  have RX_3 := RX_2.on y3
  have X_3 := X_2.on y3
  have F_3 := F_2.on y3
  have G_3 := G_2.on y3
  clear R_2 B_2 B_2_c0 B_2_c1 RX_2 X_2 X_2_c0 X_2_c1 F_2 F_2_c0 F_2_c1 G_2 G_2_c0 G_2_c1
  have z3 := Z2.trans (y3.mono Z2.size)
  have Z3 := z3
  have B_3_c0 := B_3.c0
  have B_3_c1 := B_3.c1
  have X_3_c0 := X_3.c0
  have X_3_c1 := X_3.c1
  have F_3_c0 := F_3.c0
  have F_3_c1 := F_3.c1
  have G_3_c0 := G_3.c0
  have G_3_c1 := G_3.c1
  go_wp2_with fail
  refine (api_gsize hx1 hx2).mono ?_
  rintro e w9_1 ⟨rfl, rfl⟩
  go_wp2_with fail
  refine (HG.out _).mono ?_
  rintro e w4 ⟨Ag, cg, rfl, og, y4⟩
  have R_4 := R_3.on y4
  have B_4 := B_3.on y4
  have RX_4 := RX_3.on y4
  have X_4 := X_3.on y4
  have F_4 := F_3.on y4
  have G_4 := G_3.on y4
  clear R_3 B_3 B_3_c0 B_3_c1 RX_3 X_3 X_3_c0 X_3_c1 F_3 F_3_c0 F_3_c1 G_3 G_3_c0 G_3_c1
  have z4 := Z3.trans (y4.mono Z3.size)
  have Z4 := z4
  have B_4_c0 := B_4.c0
  have B_4_c1 := B_4.c1
  have X_4_c0 := X_4.c0
  have X_4_c1 := X_4.c1
  have F_4_c0 := F_4.c0
  have F_4_c1 := F_4.c1
  have G_4_c0 := G_4.c0
  have G_4_c1 := G_4.c1
  go_wp2_with fail
  refine (refat_any _ _ _).mono ?_
  rintro e w5 ⟨rfl, y5⟩
  have R_5 := (R_4.on y5).alloc (.cells #[.int .i64 6, .int .i64 (-1)] 26)
  have B_5 := (B_4.on y5).alloc (.cells #[.int .i64 6, .int .i64 (-1)] 26)
  have RX_5 := (RX_4.on y5).alloc (.cells #[.int .i64 6, .int .i64 (-1)] 26)
  have X_5 := (X_4.on y5).alloc (.cells #[.int .i64 6, .int .i64 (-1)] 26)
  have F_5 := (F_4.on y5).alloc (.cells #[.int .i64 6, .int .i64 (-1)] 26)
  have G_5 := (G_4.on y5).alloc (.cells #[.int .i64 6, .int .i64 (-1)] 26)
  have R_b := R_4.on y5
  have B_b := B_4.on y5
  have RX_b := RX_4.on y5
  have X_b := X_4.on y5
  have F_b := F_4.on y5
  have G_b := G_4.on y5
  have W_5 := (Two.new w5 26 (.int .i64 6) (.int .i64 (-1)))
  clear R_4 B_4 B_4_c0 B_4_c1 RX_4 X_4 X_4_c0 X_4_c1 F_4 F_4_c0 F_4_c1 G_4 G_4_c0 G_4_c1
  have z5 := Z4.trans (y5.mono Z4.size)
  have Z5 := (z5).alloc (by have := z5.size; omega) (.cells #[.int .i64 6, .int .i64 (-1)] 26)
  have CW_5 := (Below.refl w5.heap.size w5).alloc (by simp) (.cells #[.int .i64 6, .int .i64 (-1)] 26)
  have B_5_c0 := B_5.c0
  have B_5_c1 := B_5.c1
  have X_5_c0 := X_5.c0
  have X_5_c1 := X_5.c1
  have F_5_c0 := F_5.c0
  have F_5_c1 := F_5.c1
  have G_5_c0 := G_5.c0
  have G_5_c1 := G_5.c1
  have W_5_c0 := W_5.c0
  have W_5_c1 := W_5.c1
  have W_5_f0 := W_5.f0
  have W_5_f1 := W_5.f1
  go_wp2_with fail
  refine (bitsok_any R_5 HD.out hlo hhi false ⟨(fun h => by cases h), fun h => absurd h HNO.out⟩).mono ?_
  rintro e w6 ⟨rfl, y6⟩
  have R_6 := R_5.on y6
  have B_6 := B_5.on y6
  have RX_6 := RX_5.on y6
  have X_6 := X_5.on y6
  have F_6 := F_5.on y6
  have G_6 := G_5.on y6
  have W_6 := W_5.on y6
  clear R_5 B_5 B_5_c0 B_5_c1 RX_5 X_5 X_5_c0 X_5_c1 F_5 F_5_c0 F_5_c1 G_5 G_5_c0 G_5_c1 W_5 W_5_c0 W_5_c1 W_5_f0 W_5_f1
  have z6 := Z5.trans (y6.mono Z5.size)
  have Z6 := z6
  have cW6 := CW_5.trans (y6.mono CW_5.size)
  have CW_6 := cW6
  have B_6_c0 := B_6.c0
  have B_6_c1 := B_6.c1
  have X_6_c0 := X_6.c0
  have X_6_c1 := X_6.c1
  have F_6_c0 := F_6.c0
  have F_6_c1 := F_6.c1
  have G_6_c0 := G_6.c0
  have G_6_c1 := G_6.c1
  have W_6_c0 := W_6.c0
  have W_6_c1 := W_6.c1
  have W_6_f0 := W_6.f0
  have W_6_f1 := W_6.f1
  go_wp2_with fail
  refine (api_same (l := []) (l2 := []) RX_6 (Rd.none_ _) Is01.nil Is01.nil true (by decide) _ _ rfl rfl).mono ?_
  rintro e w7 ⟨rfl, y7⟩
  have R_7 := R_6.on y7
  have B_7 := B_6.on y7
  have RX_7 := RX_6.on y7
  have X_7 := X_6.on y7
  have F_7 := F_6.on y7
  have G_7 := G_6.on y7
  have W_7 := W_6.on y7
  clear R_6 B_6 B_6_c0 B_6_c1 RX_6 X_6 X_6_c0 X_6_c1 F_6 F_6_c0 F_6_c1 G_6 G_6_c0 G_6_c1 W_6 W_6_c0 W_6_c1 W_6_f0 W_6_f1
  have z7 := Z6.trans (y7.mono Z6.size)
  have Z7 := z7
  have cW7 := CW_6.trans (y7.mono CW_6.size)
  have CW_7 := cW7
  have B_7_c0 := B_7.c0
  have B_7_c1 := B_7.c1
  have X_7_c0 := X_7.c0
  have X_7_c1 := X_7.c1
  have F_7_c0 := F_7.c0
  have F_7_c1 := F_7.c1
  have G_7_c0 := G_7.c0
  have G_7_c1 := G_7.c1
  have W_7_c0 := W_7.c0
  have W_7_c1 := W_7.c1
  have W_7_f0 := W_7.f0
  have W_7_f1 := W_7.f1
  go_wp2
  go_ret
  exact ⟨rfl, Z7⟩
set_option maxRecDepth 100000 in
set_option maxHeartbeats 3200000 in
theorem gm_00 {A : Option Addr} {n c : Nat} {l : List Nat} (h01 : Is01 l) (hl : l.length ≤ 131072) {x : Int} (hx : x < 1) {f : Int} (hf : f < 0 ∨ (l.length : Int) < f)  (w : World) (h : Rd w A n c (bcells (pack l))) :
    Calls Try.prog 4 #[.agg #[.slice A n c, .int .i64 (l.length : Nat)], .int .i64 x, .int .i64 f] w fun e w' => e = .returned (.bool true) ∧ Below w.heap.size w w' := by
  obtain ⟨i0, hi, hz0, hz1, hz2⟩ := info_parts int_info
  have H01 := Lib.hid h01
  have HLL := Lib.hid hl
  have HOK := Lib.hid (Ok.of_list h01 hl)
  clear h01
  have HRG := Lib.hid (show ∀ W, Rd W A n c (bcells (pack l)) → Calls Try.prog 20 #[.agg #[.slice A n c, .int .i64 (l.length : Nat)], .int .i64 f] W fun e w' => e = .returned (.tuple #[.int .i64 0, .int .i64 0, .agg #[.int .i64 4, .int .i64 (-2)]]) ∧ Below W.heap.size W w' from fun W hW => by
    rcases hf with hf | hf
    · exact rgamma_low A n c l f _ W hW (Nat.le_refl _) H01.out HLL.out hf
    · exact rgamma_high A n c l f _ W hW (Nat.le_refl _) H01.out HLL.out hf)
  have HF := Lib.hid hf
  clear hf
  have R_0 := (h).alloc (.cells #[.slice A n c, .int .i64 (l.length : Nat)] 24)
  have B_0 := (Two.new w 24 (.slice A n c) (.int .i64 (l.length : Nat)))
  have Z0 := (Below.refl w.heap.size w).alloc (by simp) (.cells #[.slice A n c, .int .i64 (l.length : Nat)] 24)
  have B_0_c0 := B_0.c0
  have B_0_c1 := B_0.c1
  go_enter Try.func4, Try.ntmps4
  go_wp2_with fail
  refine (agamma_low A n c l x _ _ R_0 (Nat.le_refl _) H01.out HLL.out (by omega)).mono ?_
  unfold flt noBits
  rintro e w1 ⟨rfl, y1⟩
  have R_1 := ((R_0.on y1).alloc (.cells #[.slice none 0 0, .int .i64 0] 24)).alloc (.cells #[.int .i64 4, .int .i64 (-2)] 26)
  have B_1 := ((B_0.on y1).alloc (.cells #[.slice none 0 0, .int .i64 0] 24)).alloc (.cells #[.int .i64 4, .int .i64 (-2)] 26)
  have RX_1 := ((Rd.none_ w1).alloc (.cells #[.slice none 0 0, .int .i64 0] 24)).alloc (.cells #[.int .i64 4, .int .i64 (-2)] 26)
  have X_1 := ((Two.new w1 24 (.slice none 0 0) (.int .i64 0))).alloc (.cells #[.int .i64 4, .int .i64 (-2)] 26)
  have F_1 := (Two.new1 w1 (.cells #[.slice none 0 0, .int .i64 0] 24) 26 (.int .i64 4) (.int .i64 (-2)))
  clear R_0 B_0 B_0_c0 B_0_c1
  have z1 := Z0.trans (y1.mono Z0.size)
  have Z1 := ((z1).alloc (by have := z1.size; omega) (.cells #[.slice none 0 0, .int .i64 0] 24)).alloc (by have := z1.size; simp; omega) (.cells #[.int .i64 4, .int .i64 (-2)] 26)
  have B_1_c0 := B_1.c0
  have B_1_c1 := B_1.c1
  have X_1_c0 := X_1.c0
  have X_1_c1 := X_1.c1
  have F_1_c0 := F_1.c0
  have F_1_c1 := F_1.c1
  go_wp2_with fail
  refine (HRG.out _ R_1).mono ?_
  rintro e w2 ⟨rfl, y2⟩
  have R_2 := (R_1.on y2).alloc (.cells #[.int .i64 4, .int .i64 (-2)] 26)
  have B_2 := (B_1.on y2).alloc (.cells #[.int .i64 4, .int .i64 (-2)] 26)
  have RX_2 := (RX_1.on y2).alloc (.cells #[.int .i64 4, .int .i64 (-2)] 26)
  have X_2 := (X_1.on y2).alloc (.cells #[.int .i64 4, .int .i64 (-2)] 26)
  have F_2 := (F_1.on y2).alloc (.cells #[.int .i64 4, .int .i64 (-2)] 26)
  have G_2 := (Two.new w2 26 (.int .i64 4) (.int .i64 (-2)))
  clear R_1 B_1 B_1_c0 B_1_c1 RX_1 X_1 X_1_c0 X_1_c1 F_1 F_1_c0 F_1_c1
  have z2 := Z1.trans (y2.mono Z1.size)
  have Z2 := (z2).alloc (by have := z2.size; omega) (.cells #[.int .i64 4, .int .i64 (-2)] 26)
  have B_2_c0 := B_2.c0
  have B_2_c1 := B_2.c1
  have X_2_c0 := X_2.c0
  have X_2_c1 := X_2.c1
  have F_2_c0 := F_2.c0
  have F_2_c1 := F_2.c1
  have G_2_c0 := G_2.c0
  have G_2_c1 := G_2.c1
  go_wp2_with fail
  refine (strings_true _).mono ?_
  rintro e w3 ⟨rfl, y3⟩
  have R_3 := R_2.on y3
  have B_3 := B_2.on y3
  have RX_3 := RX_2.on y3
  have X_3 := X_2.on y3
  have F_3 := F_2.on y3
  have G_3 := G_2.on y3
  clear R_2 B_2 B_2_c0 B_2_c1 RX_2 X_2 X_2_c0 X_2_c1 F_2 F_2_c0 F_2_c1 G_2 G_2_c0 G_2_c1
  have z3 := Z2.trans (y3.mono Z2.size)
  have Z3 := z3
  have B_3_c0 := B_3.c0
  have B_3_c1 := B_3.c1
  have X_3_c0 := X_3.c0
  have X_3_c1 := X_3.c1
  have F_3_c0 := F_3.c0
  have F_3_c1 := F_3.c1
  have G_3_c0 := G_3.c0
  have G_3_c1 := G_3.c1
  go_wp2_with fail
  refine ((gsize_zero x _ hx)).mono ?_
  rintro e w9_1 ⟨rfl, rfl⟩
  go_wp2_with fail
  refine (refat_any _ _ _).mono ?_
  rintro e w4 ⟨rfl, y4⟩
  have R_4 := (R_3.on y4).alloc (.cells #[.int .i64 6, .int .i64 (-1)] 26)
  have B_4 := (B_3.on y4).alloc (.cells #[.int .i64 6, .int .i64 (-1)] 26)
  have RX_4 := (RX_3.on y4).alloc (.cells #[.int .i64 6, .int .i64 (-1)] 26)
  have X_4 := (X_3.on y4).alloc (.cells #[.int .i64 6, .int .i64 (-1)] 26)
  have F_4 := (F_3.on y4).alloc (.cells #[.int .i64 6, .int .i64 (-1)] 26)
  have G_4 := (G_3.on y4).alloc (.cells #[.int .i64 6, .int .i64 (-1)] 26)
  have R_b := R_3.on y4
  have B_b := B_3.on y4
  have RX_b := RX_3.on y4
  have X_b := X_3.on y4
  have F_b := F_3.on y4
  have G_b := G_3.on y4
  have W_4 := (Two.new w4 26 (.int .i64 6) (.int .i64 (-1)))
  clear R_3 B_3 B_3_c0 B_3_c1 RX_3 X_3 X_3_c0 X_3_c1 F_3 F_3_c0 F_3_c1 G_3 G_3_c0 G_3_c1
  have z4 := Z3.trans (y4.mono Z3.size)
  have Z4 := (z4).alloc (by have := z4.size; omega) (.cells #[.int .i64 6, .int .i64 (-1)] 26)
  have CW_4 := (Below.refl w4.heap.size w4).alloc (by simp) (.cells #[.int .i64 6, .int .i64 (-1)] 26)
  have B_4_c0 := B_4.c0
  have B_4_c1 := B_4.c1
  have X_4_c0 := X_4.c0
  have X_4_c1 := X_4.c1
  have F_4_c0 := F_4.c0
  have F_4_c1 := F_4.c1
  have G_4_c0 := G_4.c0
  have G_4_c1 := G_4.c1
  have W_4_c0 := W_4.c0
  have W_4_c1 := W_4.c1
  have W_4_f0 := W_4.f0
  have W_4_f1 := W_4.f1
  go_wp2_with fail
  refine (bitsok_any R_4 (pack_lt H01.out) (by omega) (by have := HLL.out; omega) true ⟨fun _ => HOK.out, fun _ => rfl⟩).mono ?_
  rintro e w5 ⟨rfl, y5⟩
  have R_5 := R_4.on y5
  have B_5 := B_4.on y5
  have RX_5 := RX_4.on y5
  have X_5 := X_4.on y5
  have F_5 := F_4.on y5
  have G_5 := G_4.on y5
  have W_5 := W_4.on y5
  clear R_4 B_4 B_4_c0 B_4_c1 RX_4 X_4 X_4_c0 X_4_c1 F_4 F_4_c0 F_4_c1 G_4 G_4_c0 G_4_c1 W_4 W_4_c0 W_4_c1 W_4_f0 W_4_f1
  have z5 := Z4.trans (y5.mono Z4.size)
  have Z5 := z5
  have cW5 := CW_4.trans (y5.mono CW_4.size)
  have CW_5 := cW5
  have B_5_c0 := B_5.c0
  have B_5_c1 := B_5.c1
  have X_5_c0 := X_5.c0
  have X_5_c1 := X_5.c1
  have F_5_c0 := F_5.c0
  have F_5_c1 := F_5.c1
  have G_5_c0 := G_5.c0
  have G_5_c1 := G_5.c1
  have W_5_c0 := W_5.c0
  have W_5_c1 := W_5.c1
  have W_5_f0 := W_5.f0
  have W_5_f1 := W_5.f1
  go_wp2_with fail
  refine (bits_any R_5 H01.out HLL.out _ rfl).mono ?_
  rintro e w6 ⟨Al, cl, rfl, hol, y6⟩
  have R_6 := R_5.on y6
  have B_6 := B_5.on y6
  have RX_6 := RX_5.on y6
  have X_6 := X_5.on y6
  have F_6 := F_5.on y6
  have G_6 := G_5.on y6
  have W_6 := W_5.on y6
  have L_6 := own_less hol CW_5.size
  clear R_5 B_5 B_5_c0 B_5_c1 RX_5 X_5 X_5_c0 X_5_c1 F_5 F_5_c0 F_5_c1 G_5 G_5_c0 G_5_c1 W_5 W_5_c0 W_5_c1 W_5_f0 W_5_f1
  have z6 := Z5.trans (y6.mono Z5.size)
  have Z6 := z6
  have cW6 := CW_5.trans (y6.mono CW_5.size)
  have CW_6 := cW6
  have B_6_c0 := B_6.c0
  have B_6_c1 := B_6.c1
  have X_6_c0 := X_6.c0
  have X_6_c1 := X_6.c1
  have F_6_c0 := F_6.c0
  have F_6_c1 := F_6.c1
  have G_6_c0 := G_6.c0
  have G_6_c1 := G_6.c1
  have W_6_c0 := W_6.c0
  have W_6_c1 := W_6.c1
  have W_6_f0 := W_6.f0
  have W_6_f1 := W_6.f1
  have CW_7 := (CW_6.setCell (p := ⟨w4.heap.size, 0, none⟩) (by simp) (.int .i64 0)).setCell (p := ⟨w4.heap.size, 1, none⟩) (by simp) (.int .i64 0)
  have Z7 := (Z6.setCell (p := ⟨w4.heap.size, 0, none⟩) (by have := z4.size; simp; omega) (.int .i64 0)).setCell (p := ⟨w4.heap.size, 1, none⟩) (by have := z4.size; simp; omega) (.int .i64 0)
  have R_7 := R_b.on CW_7
  have B_7 := B_b.on CW_7
  have RX_7 := RX_b.on CW_7
  have X_7 := X_b.on CW_7
  have F_7 := F_b.on CW_7
  have G_7 := G_b.on CW_7
  have W_7 := (W_6.set0 (.int .i64 0)).set1 (.int .i64 0)
  have L_7 := own_far_any (own_far_any L_6 (p := ⟨w4.heap.size, 0, none⟩) (own_two_ne L_6 W_6 (by decide)) (.int .i64 0)) (p := ⟨w4.heap.size, 1, none⟩) (own_two_ne L_6 W_6 (by decide)) (.int .i64 0)
  have B_7_c0 := B_7.c0
  have B_7_c1 := B_7.c1
  have X_7_c0 := X_7.c0
  have X_7_c1 := X_7.c1
  have F_7_c0 := F_7.c0
  have F_7_c1 := F_7.c1
  have G_7_c0 := G_7.c0
  have G_7_c1 := G_7.c1
  have W_7_c0 := W_7.c0
  have W_7_c1 := W_7.c1
  have W_7_f0 := W_7.f0
  have W_7_f1 := W_7.f1
  go_wp2_with fail
  refine (in_no x 1 2147483647 _ (by omega)).mono ?_
  rintro e w9_2 ⟨rfl, rfl⟩
  go_wp2_with fail
  refine (refat_any _ _ _).mono ?_
  rintro e w8 ⟨rfl, y8⟩
  have R_8 := R_7.on y8
  have B_8 := B_7.on y8
  have RX_8 := RX_7.on y8
  have X_8 := X_7.on y8
  have F_8 := F_7.on y8
  have G_8 := G_7.on y8
  have W_8 := W_7.on y8
  have L_8 := own_on L_7 y8
  clear R_6 B_6 B_6_c0 B_6_c1 RX_6 X_6 X_6_c0 X_6_c1 F_6 F_6_c0 F_6_c1 G_6 G_6_c0 G_6_c1 W_6 W_6_c0 W_6_c1 W_6_f0 W_6_f1 L_6 R_7 B_7 B_7_c0 B_7_c1 RX_7 X_7 X_7_c0 X_7_c1 F_7 F_7_c0 F_7_c1 G_7 G_7_c0 G_7_c1 W_7 W_7_c0 W_7_c1 W_7_f0 W_7_f1 L_7
  have z8 := Z7.trans (y8.mono Z7.size)
  have Z8 := z8
  have cW8 := CW_7.trans (y8.mono CW_7.size)
  have CW_8 := cW8
  have B_8_c0 := B_8.c0
  have B_8_c1 := B_8.c1
  have X_8_c0 := X_8.c0
  have X_8_c1 := X_8.c1
  have F_8_c0 := F_8.c0
  have F_8_c1 := F_8.c1
  have G_8_c0 := G_8.c0
  have G_8_c1 := G_8.c1
  have W_8_c0 := W_8.c0
  have W_8_c1 := W_8.c1
  have W_8_f0 := W_8.f0
  have W_8_f1 := W_8.f1
  have CW_9 := (CW_8.setCell (p := ⟨w4.heap.size, 0, none⟩) (by simp) (.int .i64 4)).setCell (p := ⟨w4.heap.size, 1, none⟩) (by simp) (.int .i64 (-2))
  have Z9 := (Z8.setCell (p := ⟨w4.heap.size, 0, none⟩) (by have := z4.size; simp; omega) (.int .i64 4)).setCell (p := ⟨w4.heap.size, 1, none⟩) (by have := z4.size; simp; omega) (.int .i64 (-2))
  have R_9 := R_b.on CW_9
  have B_9 := B_b.on CW_9
  have RX_9 := RX_b.on CW_9
  have X_9 := X_b.on CW_9
  have F_9 := F_b.on CW_9
  have G_9 := G_b.on CW_9
  have W_9 := (W_8.set0 (.int .i64 4)).set1 (.int .i64 (-2))
  have L_9 := own_far_any (own_far_any L_8 (p := ⟨w4.heap.size, 0, none⟩) (own_two_ne L_8 W_8 (by decide)) (.int .i64 4)) (p := ⟨w4.heap.size, 1, none⟩) (own_two_ne L_8 W_8 (by decide)) (.int .i64 (-2))
  have B_9_c0 := B_9.c0
  have B_9_c1 := B_9.c1
  have X_9_c0 := X_9.c0
  have X_9_c1 := X_9.c1
  have F_9_c0 := F_9.c0
  have F_9_c1 := F_9.c1
  have G_9_c0 := G_9.c0
  have G_9_c1 := G_9.c1
  have W_9_c0 := W_9.c0
  have W_9_c1 := W_9.c1
  have W_9_f0 := W_9.f0
  have W_9_f1 := W_9.f1
  go_wp2_with fail
  refine (api_same (l := []) (l2 := []) RX_9 (Rd.none_ _) Is01.nil Is01.nil true (by decide) _ _ rfl rfl).mono ?_
  rintro e w10 ⟨rfl, y10⟩
  have R_10 := R_9.on y10
  have B_10 := B_9.on y10
  have RX_10 := RX_9.on y10
  have X_10 := X_9.on y10
  have F_10 := F_9.on y10
  have G_10 := G_9.on y10
  have W_10 := W_9.on y10
  have L_10 := own_on L_9 y10
  clear R_8 B_8 B_8_c0 B_8_c1 RX_8 X_8 X_8_c0 X_8_c1 F_8 F_8_c0 F_8_c1 G_8 G_8_c0 G_8_c1 W_8 W_8_c0 W_8_c1 W_8_f0 W_8_f1 L_8 R_9 B_9 B_9_c0 B_9_c1 RX_9 X_9 X_9_c0 X_9_c1 F_9 F_9_c0 F_9_c1 G_9 G_9_c0 G_9_c1 W_9 W_9_c0 W_9_c1 W_9_f0 W_9_f1 L_9
  have z10 := Z9.trans (y10.mono Z9.size)
  have Z10 := z10
  have cW10 := CW_9.trans (y10.mono CW_9.size)
  have CW_10 := cW10
  have B_10_c0 := B_10.c0
  have B_10_c1 := B_10.c1
  have X_10_c0 := X_10.c0
  have X_10_c1 := X_10.c1
  have F_10_c0 := F_10.c0
  have F_10_c1 := F_10.c1
  have G_10_c0 := G_10.c0
  have G_10_c1 := G_10.c1
  have W_10_c0 := W_10.c0
  have W_10_c1 := W_10.c1
  have W_10_f0 := W_10.f0
  have W_10_f1 := W_10.f1
  go_wp2_with fail
  refine (in_no _ 0 (l.length : Nat) _ HF.out).mono ?_
  rintro e w9_3 ⟨rfl, rfl⟩
  go_wp2_with fail
  go_region_held3 (fun w' => w'.cell? ⟨w2.heap.size, 0, none⟩ = some (.int .i64 4) ∧ w'.cell? ⟨w2.heap.size, 1, none⟩ = some (.int .i64 (-2))) (go_keep) ((go_at_call 16; refine (refat_any _ _ _).mono ?_; rintro e w11 ⟨rfl, y11⟩; have Y11 : Below w10.heap.size w10.drew w11 := y11; have G_11_c0 := ((Two.on (w := w10.drew) G_10 Y11)).c0; have G_11_c1 := ((Two.on (w := w10.drew) G_10 Y11)).c1))
  have R_11 := (Rd.on (w := w10.drew) R_10 Y11)
  have B_11 := (Two.on (w := w10.drew) B_10 Y11)
  have RX_11 := (Rd.on (w := w10.drew) RX_10 Y11)
  have X_11 := (Two.on (w := w10.drew) X_10 Y11)
  have F_11 := (Two.on (w := w10.drew) F_10 Y11)
  have G_11 := (Two.on (w := w10.drew) G_10 Y11)
  have W_11 := (Two.on (w := w10.drew) W_10 Y11)
  have L_11 := (own_on (w := w10.drew) L_10 Y11)
  have Z11 := (belowD Z10).trans (Y11.mono (belowD Z10).size)
  have CW_11 := (belowD CW_10).trans (Y11.mono (belowD CW_10).size)
  clear G_11_c0 G_11_c1
  clear R_10 B_10 B_10_c0 B_10_c1 RX_10 X_10 X_10_c0 X_10_c1 F_10 F_10_c0 F_10_c1 G_10 G_10_c0 G_10_c1 W_10 W_10_c0 W_10_c1 W_10_f0 W_10_f1 L_10
  have B_11_c0 := B_11.c0
  have B_11_c1 := B_11.c1
  have X_11_c0 := X_11.c0
  have X_11_c1 := X_11.c1
  have F_11_c0 := F_11.c0
  have F_11_c1 := F_11.c1
  have G_11_c0 := G_11.c0
  have G_11_c1 := G_11.c1
  have W_11_c0 := W_11.c0
  have W_11_c1 := W_11.c1
  have W_11_f0 := W_11.f0
  have W_11_f1 := W_11.f1
  go_wp2
  go_ret
  exact ⟨rfl, Z11⟩
set_option maxRecDepth 100000 in
set_option maxHeartbeats 3200000 in
theorem gm_01 {A : Option Addr} {n c : Nat} {l : List Nat} (h01 : Is01 l) (hl : l.length ≤ 131072) {x : Int} (hx : x < 1) {f : Nat} (hf : f ≤ l.length) {cd : Nat} (hG : GAt l f 0 0 cd) (hc : cd ≠ 0)  (w : World) (h : Rd w A n c (bcells (pack l))) :
    Calls Try.prog 4 #[.agg #[.slice A n c, .int .i64 (l.length : Nat)], .int .i64 x, .int .i64 (f : Nat)] w fun e w' => e = .returned (.bool true) ∧ Below w.heap.size w w' := by
  obtain ⟨i0, hi, hz0, hz1, hz2⟩ := info_parts int_info
  have H01 := Lib.hid h01
  have HLL := Lib.hid hl
  have HOK := Lib.hid (Ok.of_list h01 hl)
  clear h01
  have hc1 : ((cd : Int) != 0) = true := by rw [bne_iff_ne]; omega
  have hc2 : ((cd : Int) == 0) = false := by rw [beq_eq_false_iff_ne]; omega
  have HRG := Lib.hid (fun W (hW : Rd W A n c (bcells (pack l))) => rg_bad hW H01.out HLL.out hf hG hc)
  have HGA := Lib.hid hG
  clear hG hc
  have R_0 := (h).alloc (.cells #[.slice A n c, .int .i64 (l.length : Nat)] 24)
  have B_0 := (Two.new w 24 (.slice A n c) (.int .i64 (l.length : Nat)))
  have Z0 := (Below.refl w.heap.size w).alloc (by simp) (.cells #[.slice A n c, .int .i64 (l.length : Nat)] 24)
  have B_0_c0 := B_0.c0
  have B_0_c1 := B_0.c1
  go_enter Try.func4, Try.ntmps4
  go_wp2_with fail
  refine (agamma_low A n c l x _ _ R_0 (Nat.le_refl _) H01.out HLL.out (by omega)).mono ?_
  unfold flt noBits
  rintro e w1 ⟨rfl, y1⟩
  have R_1 := ((R_0.on y1).alloc (.cells #[.slice none 0 0, .int .i64 0] 24)).alloc (.cells #[.int .i64 4, .int .i64 (-2)] 26)
  have B_1 := ((B_0.on y1).alloc (.cells #[.slice none 0 0, .int .i64 0] 24)).alloc (.cells #[.int .i64 4, .int .i64 (-2)] 26)
  have RX_1 := ((Rd.none_ w1).alloc (.cells #[.slice none 0 0, .int .i64 0] 24)).alloc (.cells #[.int .i64 4, .int .i64 (-2)] 26)
  have X_1 := ((Two.new w1 24 (.slice none 0 0) (.int .i64 0))).alloc (.cells #[.int .i64 4, .int .i64 (-2)] 26)
  have F_1 := (Two.new1 w1 (.cells #[.slice none 0 0, .int .i64 0] 24) 26 (.int .i64 4) (.int .i64 (-2)))
  clear R_0 B_0 B_0_c0 B_0_c1
  have z1 := Z0.trans (y1.mono Z0.size)
  have Z1 := ((z1).alloc (by have := z1.size; omega) (.cells #[.slice none 0 0, .int .i64 0] 24)).alloc (by have := z1.size; simp; omega) (.cells #[.int .i64 4, .int .i64 (-2)] 26)
  have B_1_c0 := B_1.c0
  have B_1_c1 := B_1.c1
  have X_1_c0 := X_1.c0
  have X_1_c1 := X_1.c1
  have F_1_c0 := F_1.c0
  have F_1_c1 := F_1.c1
  go_wp2_with fail
  refine (HRG.out _ R_1).mono ?_
  rintro e w2 ⟨rfl, y2⟩
  have R_2 := (R_1.on y2).alloc (.cells #[.int .i64 (cd : Nat), .int .i64 (-2)] 26)
  have B_2 := (B_1.on y2).alloc (.cells #[.int .i64 (cd : Nat), .int .i64 (-2)] 26)
  have RX_2 := (RX_1.on y2).alloc (.cells #[.int .i64 (cd : Nat), .int .i64 (-2)] 26)
  have X_2 := (X_1.on y2).alloc (.cells #[.int .i64 (cd : Nat), .int .i64 (-2)] 26)
  have F_2 := (F_1.on y2).alloc (.cells #[.int .i64 (cd : Nat), .int .i64 (-2)] 26)
  have G_2 := (Two.new w2 26 (.int .i64 (cd : Nat)) (.int .i64 (-2)))
  clear R_1 B_1 B_1_c0 B_1_c1 RX_1 X_1 X_1_c0 X_1_c1 F_1 F_1_c0 F_1_c1
  have z2 := Z1.trans (y2.mono Z1.size)
  have Z2 := (z2).alloc (by have := z2.size; omega) (.cells #[.int .i64 (cd : Nat), .int .i64 (-2)] 26)
  have B_2_c0 := B_2.c0
  have B_2_c1 := B_2.c1
  have X_2_c0 := X_2.c0
  have X_2_c1 := X_2.c1
  have F_2_c0 := F_2.c0
  have F_2_c1 := F_2.c1
  have G_2_c0 := G_2.c0
  have G_2_c1 := G_2.c1
  go_wp2_with fail
  refine (strings_true _).mono ?_
  rintro e w3 ⟨rfl, y3⟩
  have R_3 := R_2.on y3
  have B_3 := B_2.on y3
  have RX_3 := RX_2.on y3
  have X_3 := X_2.on y3
  have F_3 := F_2.on y3
  have G_3 := G_2.on y3
  clear R_2 B_2 B_2_c0 B_2_c1 RX_2 X_2 X_2_c0 X_2_c1 F_2 F_2_c0 F_2_c1 G_2 G_2_c0 G_2_c1
  have z3 := Z2.trans (y3.mono Z2.size)
  have Z3 := z3
  have B_3_c0 := B_3.c0
  have B_3_c1 := B_3.c1
  have X_3_c0 := X_3.c0
  have X_3_c1 := X_3.c1
  have F_3_c0 := F_3.c0
  have F_3_c1 := F_3.c1
  have G_3_c0 := G_3.c0
  have G_3_c1 := G_3.c1
  go_wp2_with fail
  refine ((gsize_zero x _ hx)).mono ?_
  rintro e w9_1 ⟨rfl, rfl⟩
  go_wp2_with fail
  refine (refat_any _ _ _).mono ?_
  rintro e w4 ⟨rfl, y4⟩
  have R_4 := (R_3.on y4).alloc (.cells #[.int .i64 6, .int .i64 (-1)] 26)
  have B_4 := (B_3.on y4).alloc (.cells #[.int .i64 6, .int .i64 (-1)] 26)
  have RX_4 := (RX_3.on y4).alloc (.cells #[.int .i64 6, .int .i64 (-1)] 26)
  have X_4 := (X_3.on y4).alloc (.cells #[.int .i64 6, .int .i64 (-1)] 26)
  have F_4 := (F_3.on y4).alloc (.cells #[.int .i64 6, .int .i64 (-1)] 26)
  have G_4 := (G_3.on y4).alloc (.cells #[.int .i64 6, .int .i64 (-1)] 26)
  have R_b := R_3.on y4
  have B_b := B_3.on y4
  have RX_b := RX_3.on y4
  have X_b := X_3.on y4
  have F_b := F_3.on y4
  have G_b := G_3.on y4
  have W_4 := (Two.new w4 26 (.int .i64 6) (.int .i64 (-1)))
  clear R_3 B_3 B_3_c0 B_3_c1 RX_3 X_3 X_3_c0 X_3_c1 F_3 F_3_c0 F_3_c1 G_3 G_3_c0 G_3_c1
  have z4 := Z3.trans (y4.mono Z3.size)
  have Z4 := (z4).alloc (by have := z4.size; omega) (.cells #[.int .i64 6, .int .i64 (-1)] 26)
  have CW_4 := (Below.refl w4.heap.size w4).alloc (by simp) (.cells #[.int .i64 6, .int .i64 (-1)] 26)
  have B_4_c0 := B_4.c0
  have B_4_c1 := B_4.c1
  have X_4_c0 := X_4.c0
  have X_4_c1 := X_4.c1
  have F_4_c0 := F_4.c0
  have F_4_c1 := F_4.c1
  have G_4_c0 := G_4.c0
  have G_4_c1 := G_4.c1
  have W_4_c0 := W_4.c0
  have W_4_c1 := W_4.c1
  have W_4_f0 := W_4.f0
  have W_4_f1 := W_4.f1
  go_wp2_with fail
  refine (bitsok_any R_4 (pack_lt H01.out) (by omega) (by have := HLL.out; omega) true ⟨fun _ => HOK.out, fun _ => rfl⟩).mono ?_
  rintro e w5 ⟨rfl, y5⟩
  have R_5 := R_4.on y5
  have B_5 := B_4.on y5
  have RX_5 := RX_4.on y5
  have X_5 := X_4.on y5
  have F_5 := F_4.on y5
  have G_5 := G_4.on y5
  have W_5 := W_4.on y5
  clear R_4 B_4 B_4_c0 B_4_c1 RX_4 X_4 X_4_c0 X_4_c1 F_4 F_4_c0 F_4_c1 G_4 G_4_c0 G_4_c1 W_4 W_4_c0 W_4_c1 W_4_f0 W_4_f1
  have z5 := Z4.trans (y5.mono Z4.size)
  have Z5 := z5
  have cW5 := CW_4.trans (y5.mono CW_4.size)
  have CW_5 := cW5
  have B_5_c0 := B_5.c0
  have B_5_c1 := B_5.c1
  have X_5_c0 := X_5.c0
  have X_5_c1 := X_5.c1
  have F_5_c0 := F_5.c0
  have F_5_c1 := F_5.c1
  have G_5_c0 := G_5.c0
  have G_5_c1 := G_5.c1
  have W_5_c0 := W_5.c0
  have W_5_c1 := W_5.c1
  have W_5_f0 := W_5.f0
  have W_5_f1 := W_5.f1
  go_wp2_with fail
  refine (bits_any R_5 H01.out HLL.out _ rfl).mono ?_
  rintro e w6 ⟨Al, cl, rfl, hol, y6⟩
  have R_6 := R_5.on y6
  have B_6 := B_5.on y6
  have RX_6 := RX_5.on y6
  have X_6 := X_5.on y6
  have F_6 := F_5.on y6
  have G_6 := G_5.on y6
  have W_6 := W_5.on y6
  have L_6 := own_less hol CW_5.size
  clear R_5 B_5 B_5_c0 B_5_c1 RX_5 X_5 X_5_c0 X_5_c1 F_5 F_5_c0 F_5_c1 G_5 G_5_c0 G_5_c1 W_5 W_5_c0 W_5_c1 W_5_f0 W_5_f1
  have z6 := Z5.trans (y6.mono Z5.size)
  have Z6 := z6
  have cW6 := CW_5.trans (y6.mono CW_5.size)
  have CW_6 := cW6
  have B_6_c0 := B_6.c0
  have B_6_c1 := B_6.c1
  have X_6_c0 := X_6.c0
  have X_6_c1 := X_6.c1
  have F_6_c0 := F_6.c0
  have F_6_c1 := F_6.c1
  have G_6_c0 := G_6.c0
  have G_6_c1 := G_6.c1
  have W_6_c0 := W_6.c0
  have W_6_c1 := W_6.c1
  have W_6_f0 := W_6.f0
  have W_6_f1 := W_6.f1
  have CW_7 := (CW_6.setCell (p := ⟨w4.heap.size, 0, none⟩) (by simp) (.int .i64 0)).setCell (p := ⟨w4.heap.size, 1, none⟩) (by simp) (.int .i64 0)
  have Z7 := (Z6.setCell (p := ⟨w4.heap.size, 0, none⟩) (by have := z4.size; simp; omega) (.int .i64 0)).setCell (p := ⟨w4.heap.size, 1, none⟩) (by have := z4.size; simp; omega) (.int .i64 0)
  have R_7 := R_b.on CW_7
  have B_7 := B_b.on CW_7
  have RX_7 := RX_b.on CW_7
  have X_7 := X_b.on CW_7
  have F_7 := F_b.on CW_7
  have G_7 := G_b.on CW_7
  have W_7 := (W_6.set0 (.int .i64 0)).set1 (.int .i64 0)
  have L_7 := own_far_any (own_far_any L_6 (p := ⟨w4.heap.size, 0, none⟩) (own_two_ne L_6 W_6 (by decide)) (.int .i64 0)) (p := ⟨w4.heap.size, 1, none⟩) (own_two_ne L_6 W_6 (by decide)) (.int .i64 0)
  have B_7_c0 := B_7.c0
  have B_7_c1 := B_7.c1
  have X_7_c0 := X_7.c0
  have X_7_c1 := X_7.c1
  have F_7_c0 := F_7.c0
  have F_7_c1 := F_7.c1
  have G_7_c0 := G_7.c0
  have G_7_c1 := G_7.c1
  have W_7_c0 := W_7.c0
  have W_7_c1 := W_7.c1
  have W_7_f0 := W_7.f0
  have W_7_f1 := W_7.f1
  go_wp2_with fail
  refine (in_no x 1 2147483647 _ (by omega)).mono ?_
  rintro e w9_2 ⟨rfl, rfl⟩
  go_wp2_with fail
  refine (refat_any _ _ _).mono ?_
  rintro e w8 ⟨rfl, y8⟩
  have R_8 := R_7.on y8
  have B_8 := B_7.on y8
  have RX_8 := RX_7.on y8
  have X_8 := X_7.on y8
  have F_8 := F_7.on y8
  have G_8 := G_7.on y8
  have W_8 := W_7.on y8
  have L_8 := own_on L_7 y8
  clear R_6 B_6 B_6_c0 B_6_c1 RX_6 X_6 X_6_c0 X_6_c1 F_6 F_6_c0 F_6_c1 G_6 G_6_c0 G_6_c1 W_6 W_6_c0 W_6_c1 W_6_f0 W_6_f1 L_6 R_7 B_7 B_7_c0 B_7_c1 RX_7 X_7 X_7_c0 X_7_c1 F_7 F_7_c0 F_7_c1 G_7 G_7_c0 G_7_c1 W_7 W_7_c0 W_7_c1 W_7_f0 W_7_f1 L_7
  have z8 := Z7.trans (y8.mono Z7.size)
  have Z8 := z8
  have cW8 := CW_7.trans (y8.mono CW_7.size)
  have CW_8 := cW8
  have B_8_c0 := B_8.c0
  have B_8_c1 := B_8.c1
  have X_8_c0 := X_8.c0
  have X_8_c1 := X_8.c1
  have F_8_c0 := F_8.c0
  have F_8_c1 := F_8.c1
  have G_8_c0 := G_8.c0
  have G_8_c1 := G_8.c1
  have W_8_c0 := W_8.c0
  have W_8_c1 := W_8.c1
  have W_8_f0 := W_8.f0
  have W_8_f1 := W_8.f1
  have CW_9 := (CW_8.setCell (p := ⟨w4.heap.size, 0, none⟩) (by simp) (.int .i64 4)).setCell (p := ⟨w4.heap.size, 1, none⟩) (by simp) (.int .i64 (-2))
  have Z9 := (Z8.setCell (p := ⟨w4.heap.size, 0, none⟩) (by have := z4.size; simp; omega) (.int .i64 4)).setCell (p := ⟨w4.heap.size, 1, none⟩) (by have := z4.size; simp; omega) (.int .i64 (-2))
  have R_9 := R_b.on CW_9
  have B_9 := B_b.on CW_9
  have RX_9 := RX_b.on CW_9
  have X_9 := X_b.on CW_9
  have F_9 := F_b.on CW_9
  have G_9 := G_b.on CW_9
  have W_9 := (W_8.set0 (.int .i64 4)).set1 (.int .i64 (-2))
  have L_9 := own_far_any (own_far_any L_8 (p := ⟨w4.heap.size, 0, none⟩) (own_two_ne L_8 W_8 (by decide)) (.int .i64 4)) (p := ⟨w4.heap.size, 1, none⟩) (own_two_ne L_8 W_8 (by decide)) (.int .i64 (-2))
  have B_9_c0 := B_9.c0
  have B_9_c1 := B_9.c1
  have X_9_c0 := X_9.c0
  have X_9_c1 := X_9.c1
  have F_9_c0 := F_9.c0
  have F_9_c1 := F_9.c1
  have G_9_c0 := G_9.c0
  have G_9_c1 := G_9.c1
  have W_9_c0 := W_9.c0
  have W_9_c1 := W_9.c1
  have W_9_f0 := W_9.f0
  have W_9_f1 := W_9.f1
  go_wp2_with fail
  refine (api_same (l := []) (l2 := []) RX_9 (Rd.none_ _) Is01.nil Is01.nil true (by decide) _ _ rfl rfl).mono ?_
  rintro e w10 ⟨rfl, y10⟩
  have R_10 := R_9.on y10
  have B_10 := B_9.on y10
  have RX_10 := RX_9.on y10
  have X_10 := X_9.on y10
  have F_10 := F_9.on y10
  have G_10 := G_9.on y10
  have W_10 := W_9.on y10
  have L_10 := own_on L_9 y10
  clear R_8 B_8 B_8_c0 B_8_c1 RX_8 X_8 X_8_c0 X_8_c1 F_8 F_8_c0 F_8_c1 G_8 G_8_c0 G_8_c1 W_8 W_8_c0 W_8_c1 W_8_f0 W_8_f1 L_8 R_9 B_9 B_9_c0 B_9_c1 RX_9 X_9 X_9_c0 X_9_c1 F_9 F_9_c0 F_9_c1 G_9 G_9_c0 G_9_c1 W_9 W_9_c0 W_9_c1 W_9_f0 W_9_f1 L_9
  have z10 := Z9.trans (y10.mono Z9.size)
  have Z10 := z10
  have cW10 := CW_9.trans (y10.mono CW_9.size)
  have CW_10 := cW10
  have B_10_c0 := B_10.c0
  have B_10_c1 := B_10.c1
  have X_10_c0 := X_10.c0
  have X_10_c1 := X_10.c1
  have F_10_c0 := F_10.c0
  have F_10_c1 := F_10.c1
  have G_10_c0 := G_10.c0
  have G_10_c1 := G_10.c1
  have W_10_c0 := W_10.c0
  have W_10_c1 := W_10.c1
  have W_10_f0 := W_10.f0
  have W_10_f1 := W_10.f1
  go_wp2_with fail
  refine (in_yes (f : Nat) 0 (l.length : Nat) _ (by omega) (by omega)).mono ?_
  rintro e w9_3 ⟨rfl, rfl⟩
  go_wp2_with fail
  refine (gammaat_any (Rd.own L_10) H01.out (by have := HLL.out; omega) hf rfl HGA.out).mono ?_
  rintro e w9_4 ⟨rfl, rfl⟩
  go_wp2_with fail
  go_quiet (fail)
  have R_11 := Rd.drewN R_10 nq
  have B_11 := Two.drewN B_10 nq
  have RX_11 := Rd.drewN RX_10 nq
  have X_11 := Two.drewN X_10 nq
  have F_11 := Two.drewN F_10 nq
  have G_11 := Two.drewN G_10 nq
  have W_11 := Two.drewN W_10 nq
  have L_11 := own_drewN L_10 nq
  have Z11 := belowN Z10 nq
  have CW_11 := belowN CW_10 nq
  clear R_10 B_10 B_10_c0 B_10_c1 RX_10 X_10 X_10_c0 X_10_c1 F_10 F_10_c0 F_10_c1 G_10 G_10_c0 G_10_c1 W_10 W_10_c0 W_10_c1 W_10_f0 W_10_f1 L_10
  obtain ⟨w11, hw11⟩ : ∃ w11, w11 = w10.drewN nq := ⟨_, rfl⟩
  rw [← hw11] at R_11 B_11 RX_11 X_11 F_11 G_11 W_11 L_11 Z11 CW_11
  rw [← hw11]
  clear hw11
  have B_11_c0 := B_11.c0
  have B_11_c1 := B_11.c1
  have X_11_c0 := X_11.c0
  have X_11_c1 := X_11.c1
  have F_11_c0 := F_11.c0
  have F_11_c1 := F_11.c1
  have G_11_c0 := G_11.c0
  have G_11_c1 := G_11.c1
  have W_11_c0 := W_11.c0
  have W_11_c1 := W_11.c1
  have W_11_f0 := W_11.f0
  have W_11_f1 := W_11.f1
  go_wp2_with fail
  go_region_held3 (fun w' => w'.cell? ⟨w2.heap.size, 0, none⟩ = some (.int .i64 (cd : Nat)) ∧ w'.cell? ⟨w2.heap.size, 1, none⟩ = some (.int .i64 (-2))) (go_keep) ((go_at_call 16; refine (refat_any _ _ _).mono ?_; rintro e w12 ⟨rfl, y12⟩; have Y12 : Below w11.heap.size w11.drew w12 := y12; have G_12_c0 := ((Two.on (w := w11.drew) G_11 Y12)).c0; have G_12_c1 := ((Two.on (w := w11.drew) G_11 Y12)).c1))
  have R_12 := (Rd.on (w := w11.drew) R_11 Y12)
  have B_12 := (Two.on (w := w11.drew) B_11 Y12)
  have RX_12 := (Rd.on (w := w11.drew) RX_11 Y12)
  have X_12 := (Two.on (w := w11.drew) X_11 Y12)
  have F_12 := (Two.on (w := w11.drew) F_11 Y12)
  have G_12 := (Two.on (w := w11.drew) G_11 Y12)
  have W_12 := (Two.on (w := w11.drew) W_11 Y12)
  have L_12 := (own_on (w := w11.drew) L_11 Y12)
  have Z12 := (belowD Z11).trans (Y12.mono (belowD Z11).size)
  have CW_12 := (belowD CW_11).trans (Y12.mono (belowD CW_11).size)
  clear G_12_c0 G_12_c1
  clear R_11 B_11 B_11_c0 B_11_c1 RX_11 X_11 X_11_c0 X_11_c1 F_11 F_11_c0 F_11_c1 G_11 G_11_c0 G_11_c1 W_11 W_11_c0 W_11_c1 W_11_f0 W_11_f1 L_11
  have B_12_c0 := B_12.c0
  have B_12_c1 := B_12.c1
  have X_12_c0 := X_12.c0
  have X_12_c1 := X_12.c1
  have F_12_c0 := F_12.c0
  have F_12_c1 := F_12.c1
  have G_12_c0 := G_12.c0
  have G_12_c1 := G_12.c1
  have W_12_c0 := W_12.c0
  have W_12_c1 := W_12.c1
  have W_12_f0 := W_12.f0
  have W_12_f1 := W_12.f1
  go_wp2
  go_ret
  exact ⟨rfl, Z12⟩
set_option maxRecDepth 100000 in
set_option maxHeartbeats 3200000 in
theorem gm_02 {A : Option Addr} {n c : Nat} {l : List Nat} (h01 : Is01 l) (hl : l.length ≤ 131072) {x : Int} (hx : x < 1) {f : Nat} (hf : f ≤ l.length) {v e1 : Nat} (hG : GAt l f v e1 0)  (w : World) (h : Rd w A n c (bcells (pack l))) :
    Calls Try.prog 4 #[.agg #[.slice A n c, .int .i64 (l.length : Nat)], .int .i64 x, .int .i64 (f : Nat)] w fun e w' => e = .returned (.bool true) ∧ Below w.heap.size w w' := by
  obtain ⟨i0, hi, hz0, hz1, hz2⟩ := info_parts int_info
  have H01 := Lib.hid h01
  have HLL := Lib.hid hl
  have HOK := Lib.hid (Ok.of_list h01 hl)
  clear h01
  have HRG := Lib.hid (fun W (hW : Rd W A n c (bcells (pack l))) => rg_ok hW H01.out HLL.out hf hG)
  have HGA := Lib.hid hG
  clear hG
  have R_0 := (h).alloc (.cells #[.slice A n c, .int .i64 (l.length : Nat)] 24)
  have B_0 := (Two.new w 24 (.slice A n c) (.int .i64 (l.length : Nat)))
  have Z0 := (Below.refl w.heap.size w).alloc (by simp) (.cells #[.slice A n c, .int .i64 (l.length : Nat)] 24)
  have B_0_c0 := B_0.c0
  have B_0_c1 := B_0.c1
  go_enter Try.func4, Try.ntmps4
  go_wp2_with fail
  refine (agamma_low A n c l x _ _ R_0 (Nat.le_refl _) H01.out HLL.out (by omega)).mono ?_
  unfold flt noBits
  rintro e w1 ⟨rfl, y1⟩
  have R_1 := ((R_0.on y1).alloc (.cells #[.slice none 0 0, .int .i64 0] 24)).alloc (.cells #[.int .i64 4, .int .i64 (-2)] 26)
  have B_1 := ((B_0.on y1).alloc (.cells #[.slice none 0 0, .int .i64 0] 24)).alloc (.cells #[.int .i64 4, .int .i64 (-2)] 26)
  have RX_1 := ((Rd.none_ w1).alloc (.cells #[.slice none 0 0, .int .i64 0] 24)).alloc (.cells #[.int .i64 4, .int .i64 (-2)] 26)
  have X_1 := ((Two.new w1 24 (.slice none 0 0) (.int .i64 0))).alloc (.cells #[.int .i64 4, .int .i64 (-2)] 26)
  have F_1 := (Two.new1 w1 (.cells #[.slice none 0 0, .int .i64 0] 24) 26 (.int .i64 4) (.int .i64 (-2)))
  clear R_0 B_0 B_0_c0 B_0_c1
  have z1 := Z0.trans (y1.mono Z0.size)
  have Z1 := ((z1).alloc (by have := z1.size; omega) (.cells #[.slice none 0 0, .int .i64 0] 24)).alloc (by have := z1.size; simp; omega) (.cells #[.int .i64 4, .int .i64 (-2)] 26)
  have B_1_c0 := B_1.c0
  have B_1_c1 := B_1.c1
  have X_1_c0 := X_1.c0
  have X_1_c1 := X_1.c1
  have F_1_c0 := F_1.c0
  have F_1_c1 := F_1.c1
  go_wp2_with fail
  refine (HRG.out _ R_1).mono ?_
  rintro e w2 ⟨rfl, y2⟩
  have R_2 := (R_1.on y2).alloc (.cells #[.int .i64 0, .int .i64 0] 26)
  have B_2 := (B_1.on y2).alloc (.cells #[.int .i64 0, .int .i64 0] 26)
  have RX_2 := (RX_1.on y2).alloc (.cells #[.int .i64 0, .int .i64 0] 26)
  have X_2 := (X_1.on y2).alloc (.cells #[.int .i64 0, .int .i64 0] 26)
  have F_2 := (F_1.on y2).alloc (.cells #[.int .i64 0, .int .i64 0] 26)
  have G_2 := (Two.new w2 26 (.int .i64 0) (.int .i64 0))
  clear R_1 B_1 B_1_c0 B_1_c1 RX_1 X_1 X_1_c0 X_1_c1 F_1 F_1_c0 F_1_c1
  have z2 := Z1.trans (y2.mono Z1.size)
  have Z2 := (z2).alloc (by have := z2.size; omega) (.cells #[.int .i64 0, .int .i64 0] 26)
  have B_2_c0 := B_2.c0
  have B_2_c1 := B_2.c1
  have X_2_c0 := X_2.c0
  have X_2_c1 := X_2.c1
  have F_2_c0 := F_2.c0
  have F_2_c1 := F_2.c1
  have G_2_c0 := G_2.c0
  have G_2_c1 := G_2.c1
  go_wp2_with fail
  refine (strings_true _).mono ?_
  rintro e w3 ⟨rfl, y3⟩
  have R_3 := R_2.on y3
  have B_3 := B_2.on y3
  have RX_3 := RX_2.on y3
  have X_3 := X_2.on y3
  have F_3 := F_2.on y3
  have G_3 := G_2.on y3
  clear R_2 B_2 B_2_c0 B_2_c1 RX_2 X_2 X_2_c0 X_2_c1 F_2 F_2_c0 F_2_c1 G_2 G_2_c0 G_2_c1
  have z3 := Z2.trans (y3.mono Z2.size)
  have Z3 := z3
  have B_3_c0 := B_3.c0
  have B_3_c1 := B_3.c1
  have X_3_c0 := X_3.c0
  have X_3_c1 := X_3.c1
  have F_3_c0 := F_3.c0
  have F_3_c1 := F_3.c1
  have G_3_c0 := G_3.c0
  have G_3_c1 := G_3.c1
  go_wp2_with fail
  refine ((gsize_zero x _ hx)).mono ?_
  rintro e w9_1 ⟨rfl, rfl⟩
  go_wp2_with fail
  refine (refat_any _ _ _).mono ?_
  rintro e w4 ⟨rfl, y4⟩
  have R_4 := (R_3.on y4).alloc (.cells #[.int .i64 6, .int .i64 (-1)] 26)
  have B_4 := (B_3.on y4).alloc (.cells #[.int .i64 6, .int .i64 (-1)] 26)
  have RX_4 := (RX_3.on y4).alloc (.cells #[.int .i64 6, .int .i64 (-1)] 26)
  have X_4 := (X_3.on y4).alloc (.cells #[.int .i64 6, .int .i64 (-1)] 26)
  have F_4 := (F_3.on y4).alloc (.cells #[.int .i64 6, .int .i64 (-1)] 26)
  have G_4 := (G_3.on y4).alloc (.cells #[.int .i64 6, .int .i64 (-1)] 26)
  have R_b := R_3.on y4
  have B_b := B_3.on y4
  have RX_b := RX_3.on y4
  have X_b := X_3.on y4
  have F_b := F_3.on y4
  have G_b := G_3.on y4
  have W_4 := (Two.new w4 26 (.int .i64 6) (.int .i64 (-1)))
  clear R_3 B_3 B_3_c0 B_3_c1 RX_3 X_3 X_3_c0 X_3_c1 F_3 F_3_c0 F_3_c1 G_3 G_3_c0 G_3_c1
  have z4 := Z3.trans (y4.mono Z3.size)
  have Z4 := (z4).alloc (by have := z4.size; omega) (.cells #[.int .i64 6, .int .i64 (-1)] 26)
  have CW_4 := (Below.refl w4.heap.size w4).alloc (by simp) (.cells #[.int .i64 6, .int .i64 (-1)] 26)
  have B_4_c0 := B_4.c0
  have B_4_c1 := B_4.c1
  have X_4_c0 := X_4.c0
  have X_4_c1 := X_4.c1
  have F_4_c0 := F_4.c0
  have F_4_c1 := F_4.c1
  have G_4_c0 := G_4.c0
  have G_4_c1 := G_4.c1
  have W_4_c0 := W_4.c0
  have W_4_c1 := W_4.c1
  have W_4_f0 := W_4.f0
  have W_4_f1 := W_4.f1
  go_wp2_with fail
  refine (bitsok_any R_4 (pack_lt H01.out) (by omega) (by have := HLL.out; omega) true ⟨fun _ => HOK.out, fun _ => rfl⟩).mono ?_
  rintro e w5 ⟨rfl, y5⟩
  have R_5 := R_4.on y5
  have B_5 := B_4.on y5
  have RX_5 := RX_4.on y5
  have X_5 := X_4.on y5
  have F_5 := F_4.on y5
  have G_5 := G_4.on y5
  have W_5 := W_4.on y5
  clear R_4 B_4 B_4_c0 B_4_c1 RX_4 X_4 X_4_c0 X_4_c1 F_4 F_4_c0 F_4_c1 G_4 G_4_c0 G_4_c1 W_4 W_4_c0 W_4_c1 W_4_f0 W_4_f1
  have z5 := Z4.trans (y5.mono Z4.size)
  have Z5 := z5
  have cW5 := CW_4.trans (y5.mono CW_4.size)
  have CW_5 := cW5
  have B_5_c0 := B_5.c0
  have B_5_c1 := B_5.c1
  have X_5_c0 := X_5.c0
  have X_5_c1 := X_5.c1
  have F_5_c0 := F_5.c0
  have F_5_c1 := F_5.c1
  have G_5_c0 := G_5.c0
  have G_5_c1 := G_5.c1
  have W_5_c0 := W_5.c0
  have W_5_c1 := W_5.c1
  have W_5_f0 := W_5.f0
  have W_5_f1 := W_5.f1
  go_wp2_with fail
  refine (bits_any R_5 H01.out HLL.out _ rfl).mono ?_
  rintro e w6 ⟨Al, cl, rfl, hol, y6⟩
  have R_6 := R_5.on y6
  have B_6 := B_5.on y6
  have RX_6 := RX_5.on y6
  have X_6 := X_5.on y6
  have F_6 := F_5.on y6
  have G_6 := G_5.on y6
  have W_6 := W_5.on y6
  have L_6 := own_less hol CW_5.size
  clear R_5 B_5 B_5_c0 B_5_c1 RX_5 X_5 X_5_c0 X_5_c1 F_5 F_5_c0 F_5_c1 G_5 G_5_c0 G_5_c1 W_5 W_5_c0 W_5_c1 W_5_f0 W_5_f1
  have z6 := Z5.trans (y6.mono Z5.size)
  have Z6 := z6
  have cW6 := CW_5.trans (y6.mono CW_5.size)
  have CW_6 := cW6
  have B_6_c0 := B_6.c0
  have B_6_c1 := B_6.c1
  have X_6_c0 := X_6.c0
  have X_6_c1 := X_6.c1
  have F_6_c0 := F_6.c0
  have F_6_c1 := F_6.c1
  have G_6_c0 := G_6.c0
  have G_6_c1 := G_6.c1
  have W_6_c0 := W_6.c0
  have W_6_c1 := W_6.c1
  have W_6_f0 := W_6.f0
  have W_6_f1 := W_6.f1
  have CW_7 := (CW_6.setCell (p := ⟨w4.heap.size, 0, none⟩) (by simp) (.int .i64 0)).setCell (p := ⟨w4.heap.size, 1, none⟩) (by simp) (.int .i64 0)
  have Z7 := (Z6.setCell (p := ⟨w4.heap.size, 0, none⟩) (by have := z4.size; simp; omega) (.int .i64 0)).setCell (p := ⟨w4.heap.size, 1, none⟩) (by have := z4.size; simp; omega) (.int .i64 0)
  have R_7 := R_b.on CW_7
  have B_7 := B_b.on CW_7
  have RX_7 := RX_b.on CW_7
  have X_7 := X_b.on CW_7
  have F_7 := F_b.on CW_7
  have G_7 := G_b.on CW_7
  have W_7 := (W_6.set0 (.int .i64 0)).set1 (.int .i64 0)
  have L_7 := own_far_any (own_far_any L_6 (p := ⟨w4.heap.size, 0, none⟩) (own_two_ne L_6 W_6 (by decide)) (.int .i64 0)) (p := ⟨w4.heap.size, 1, none⟩) (own_two_ne L_6 W_6 (by decide)) (.int .i64 0)
  have B_7_c0 := B_7.c0
  have B_7_c1 := B_7.c1
  have X_7_c0 := X_7.c0
  have X_7_c1 := X_7.c1
  have F_7_c0 := F_7.c0
  have F_7_c1 := F_7.c1
  have G_7_c0 := G_7.c0
  have G_7_c1 := G_7.c1
  have W_7_c0 := W_7.c0
  have W_7_c1 := W_7.c1
  have W_7_f0 := W_7.f0
  have W_7_f1 := W_7.f1
  go_wp2_with fail
  refine (in_no x 1 2147483647 _ (by omega)).mono ?_
  rintro e w9_2 ⟨rfl, rfl⟩
  go_wp2_with fail
  refine (refat_any _ _ _).mono ?_
  rintro e w8 ⟨rfl, y8⟩
  have R_8 := R_7.on y8
  have B_8 := B_7.on y8
  have RX_8 := RX_7.on y8
  have X_8 := X_7.on y8
  have F_8 := F_7.on y8
  have G_8 := G_7.on y8
  have W_8 := W_7.on y8
  have L_8 := own_on L_7 y8
  clear R_6 B_6 B_6_c0 B_6_c1 RX_6 X_6 X_6_c0 X_6_c1 F_6 F_6_c0 F_6_c1 G_6 G_6_c0 G_6_c1 W_6 W_6_c0 W_6_c1 W_6_f0 W_6_f1 L_6 R_7 B_7 B_7_c0 B_7_c1 RX_7 X_7 X_7_c0 X_7_c1 F_7 F_7_c0 F_7_c1 G_7 G_7_c0 G_7_c1 W_7 W_7_c0 W_7_c1 W_7_f0 W_7_f1 L_7
  have z8 := Z7.trans (y8.mono Z7.size)
  have Z8 := z8
  have cW8 := CW_7.trans (y8.mono CW_7.size)
  have CW_8 := cW8
  have B_8_c0 := B_8.c0
  have B_8_c1 := B_8.c1
  have X_8_c0 := X_8.c0
  have X_8_c1 := X_8.c1
  have F_8_c0 := F_8.c0
  have F_8_c1 := F_8.c1
  have G_8_c0 := G_8.c0
  have G_8_c1 := G_8.c1
  have W_8_c0 := W_8.c0
  have W_8_c1 := W_8.c1
  have W_8_f0 := W_8.f0
  have W_8_f1 := W_8.f1
  have CW_9 := (CW_8.setCell (p := ⟨w4.heap.size, 0, none⟩) (by simp) (.int .i64 4)).setCell (p := ⟨w4.heap.size, 1, none⟩) (by simp) (.int .i64 (-2))
  have Z9 := (Z8.setCell (p := ⟨w4.heap.size, 0, none⟩) (by have := z4.size; simp; omega) (.int .i64 4)).setCell (p := ⟨w4.heap.size, 1, none⟩) (by have := z4.size; simp; omega) (.int .i64 (-2))
  have R_9 := R_b.on CW_9
  have B_9 := B_b.on CW_9
  have RX_9 := RX_b.on CW_9
  have X_9 := X_b.on CW_9
  have F_9 := F_b.on CW_9
  have G_9 := G_b.on CW_9
  have W_9 := (W_8.set0 (.int .i64 4)).set1 (.int .i64 (-2))
  have L_9 := own_far_any (own_far_any L_8 (p := ⟨w4.heap.size, 0, none⟩) (own_two_ne L_8 W_8 (by decide)) (.int .i64 4)) (p := ⟨w4.heap.size, 1, none⟩) (own_two_ne L_8 W_8 (by decide)) (.int .i64 (-2))
  have B_9_c0 := B_9.c0
  have B_9_c1 := B_9.c1
  have X_9_c0 := X_9.c0
  have X_9_c1 := X_9.c1
  have F_9_c0 := F_9.c0
  have F_9_c1 := F_9.c1
  have G_9_c0 := G_9.c0
  have G_9_c1 := G_9.c1
  have W_9_c0 := W_9.c0
  have W_9_c1 := W_9.c1
  have W_9_f0 := W_9.f0
  have W_9_f1 := W_9.f1
  go_wp2_with fail
  refine (api_same (l := []) (l2 := []) RX_9 (Rd.none_ _) Is01.nil Is01.nil true (by decide) _ _ rfl rfl).mono ?_
  rintro e w10 ⟨rfl, y10⟩
  have R_10 := R_9.on y10
  have B_10 := B_9.on y10
  have RX_10 := RX_9.on y10
  have X_10 := X_9.on y10
  have F_10 := F_9.on y10
  have G_10 := G_9.on y10
  have W_10 := W_9.on y10
  have L_10 := own_on L_9 y10
  clear R_8 B_8 B_8_c0 B_8_c1 RX_8 X_8 X_8_c0 X_8_c1 F_8 F_8_c0 F_8_c1 G_8 G_8_c0 G_8_c1 W_8 W_8_c0 W_8_c1 W_8_f0 W_8_f1 L_8 R_9 B_9 B_9_c0 B_9_c1 RX_9 X_9 X_9_c0 X_9_c1 F_9 F_9_c0 F_9_c1 G_9 G_9_c0 G_9_c1 W_9 W_9_c0 W_9_c1 W_9_f0 W_9_f1 L_9
  have z10 := Z9.trans (y10.mono Z9.size)
  have Z10 := z10
  have cW10 := CW_9.trans (y10.mono CW_9.size)
  have CW_10 := cW10
  have B_10_c0 := B_10.c0
  have B_10_c1 := B_10.c1
  have X_10_c0 := X_10.c0
  have X_10_c1 := X_10.c1
  have F_10_c0 := F_10.c0
  have F_10_c1 := F_10.c1
  have G_10_c0 := G_10.c0
  have G_10_c1 := G_10.c1
  have W_10_c0 := W_10.c0
  have W_10_c1 := W_10.c1
  have W_10_f0 := W_10.f0
  have W_10_f1 := W_10.f1
  go_wp2_with fail
  refine (in_yes (f : Nat) 0 (l.length : Nat) _ (by omega) (by omega)).mono ?_
  rintro e w9_3 ⟨rfl, rfl⟩
  go_wp2_with fail
  refine (gammaat_any (Rd.own L_10) H01.out (by have := HLL.out; omega) hf rfl HGA.out).mono ?_
  rintro e w9_4 ⟨rfl, rfl⟩
  go_wp2_with fail
  go_quiet (fail)
  have R_11 := Rd.drewN R_10 nq
  have B_11 := Two.drewN B_10 nq
  have RX_11 := Rd.drewN RX_10 nq
  have X_11 := Two.drewN X_10 nq
  have F_11 := Two.drewN F_10 nq
  have G_11 := Two.drewN G_10 nq
  have W_11 := Two.drewN W_10 nq
  have L_11 := own_drewN L_10 nq
  have Z11 := belowN Z10 nq
  have CW_11 := belowN CW_10 nq
  clear R_10 B_10 B_10_c0 B_10_c1 RX_10 X_10 X_10_c0 X_10_c1 F_10 F_10_c0 F_10_c1 G_10 G_10_c0 G_10_c1 W_10 W_10_c0 W_10_c1 W_10_f0 W_10_f1 L_10
  obtain ⟨w11, hw11⟩ : ∃ w11, w11 = w10.drewN nq := ⟨_, rfl⟩
  rw [← hw11] at R_11 B_11 RX_11 X_11 F_11 G_11 W_11 L_11 Z11 CW_11
  rw [← hw11]
  clear hw11
  have B_11_c0 := B_11.c0
  have B_11_c1 := B_11.c1
  have X_11_c0 := X_11.c0
  have X_11_c1 := X_11.c1
  have F_11_c0 := F_11.c0
  have F_11_c1 := F_11.c1
  have G_11_c0 := G_11.c0
  have G_11_c1 := G_11.c1
  have W_11_c0 := W_11.c0
  have W_11_c1 := W_11.c1
  have W_11_f0 := W_11.f0
  have W_11_f1 := W_11.f1
  go_wp2
  go_ret
  exact ⟨rfl, Z11⟩
set_option maxRecDepth 100000 in
set_option maxHeartbeats 3200000 in
theorem gm_10 {A : Option Addr} {n c : Nat} {l : List Nat} (h01 : Is01 l) (hl : l.length ≤ 131072) {x : Nat} (hx1 : 1 ≤ x) (hx2 : x < 9223372036854775808) (hx : x ≤ 2147483647) (hs : l.length + gsz x ≤ 131072) {f : Int} (hf : f < 0 ∨ (l.length : Int) < f)  (w : World) (h : Rd w A n c (bcells (pack l))) :
    Calls Try.prog 4 #[.agg #[.slice A n c, .int .i64 (l.length : Nat)], .int .i64 (x : Nat), .int .i64 f] w fun e w' => e = .returned (.bool true) ∧ Below w.heap.size w w' := by
  obtain ⟨i0, hi, hz0, hz1, hz2⟩ := info_parts int_info
  have H01 := Lib.hid h01
  have HLL := Lib.hid hl
  have HOK := Lib.hid (Ok.of_list h01 hl)
  clear h01
  have hgz : gsz x ≤ 125 := by have := bitLen_le64 x (by omega); unfold gsz; omega
  have HG := Lib.hid (fun W => gammaref_any x _ rfl hx1 hx2 W)
  obtain ⟨L, hL⟩ : ∃ L, L = l ++ gam x := ⟨_, rfl⟩
  have hLn : L.length = l.length + gsz x := by rw [hL, List.length_append, gam_length]
  have HLN := Lib.hid hLn
  have HLB := Lib.hid (show L.length ≤ 131072 by omega)
  have HL01 := Lib.hid (show Is01 L by rw [hL]; exact H01.out.append (digs_01 _ _))
  have HNC := Lib.hid (show ncells l ++ ncells (gam x) = ncells L by rw [hL, ncells_append])
  have HAG := Lib.hid (fun W (hW : Rd W A n c (bcells (pack l))) => api_agamma hW H01.out HLL.out hx1 hx hs hL _ rfl)
  clear hL hLn
  have HRG := Lib.hid (show ∀ W, Rd W A n c (bcells (pack l)) → Calls Try.prog 20 #[.agg #[.slice A n c, .int .i64 (l.length : Nat)], .int .i64 f] W fun e w' => e = .returned (.tuple #[.int .i64 0, .int .i64 0, .agg #[.int .i64 4, .int .i64 (-2)]]) ∧ Below W.heap.size W w' from fun W hW => by
    rcases hf with hf | hf
    · exact rgamma_low A n c l f _ W hW (Nat.le_refl _) H01.out HLL.out hf
    · exact rgamma_high A n c l f _ W hW (Nat.le_refl _) H01.out HLL.out hf)
  have HF := Lib.hid hf
  clear hf
  have R_0 := (h).alloc (.cells #[.slice A n c, .int .i64 (l.length : Nat)] 24)
  have B_0 := (Two.new w 24 (.slice A n c) (.int .i64 (l.length : Nat)))
  have Z0 := (Below.refl w.heap.size w).alloc (by simp) (.cells #[.slice A n c, .int .i64 (l.length : Nat)] 24)
  have B_0_c0 := B_0.c0
  have B_0_c1 := B_0.c1
  go_enter Try.func4, Try.ntmps4
  go_wp2_with fail
  refine (HAG.out _ R_0).mono ?_
  rintro e w1 ⟨Ax, nx, cx, rfl, Rx, y1⟩
  have R_1 := ((R_0.on y1).alloc (.cells #[.slice Ax nx cx, .int .i64 (L.length : Nat)] 24)).alloc (.cells #[.int .i64 0, .int .i64 0] 26)
  have B_1 := ((B_0.on y1).alloc (.cells #[.slice Ax nx cx, .int .i64 (L.length : Nat)] 24)).alloc (.cells #[.int .i64 0, .int .i64 0] 26)
  have RX_1 := ((Rx).alloc (.cells #[.slice Ax nx cx, .int .i64 (L.length : Nat)] 24)).alloc (.cells #[.int .i64 0, .int .i64 0] 26)
  have X_1 := ((Two.new w1 24 (.slice Ax nx cx) (.int .i64 (L.length : Nat)))).alloc (.cells #[.int .i64 0, .int .i64 0] 26)
  have F_1 := (Two.new1 w1 (.cells #[.slice Ax nx cx, .int .i64 (L.length : Nat)] 24) 26 (.int .i64 0) (.int .i64 0))
  clear R_0 B_0 B_0_c0 B_0_c1
  have z1 := Z0.trans (y1.mono Z0.size)
  have Z1 := ((z1).alloc (by have := z1.size; omega) (.cells #[.slice Ax nx cx, .int .i64 (L.length : Nat)] 24)).alloc (by have := z1.size; simp; omega) (.cells #[.int .i64 0, .int .i64 0] 26)
  have B_1_c0 := B_1.c0
  have B_1_c1 := B_1.c1
  have X_1_c0 := X_1.c0
  have X_1_c1 := X_1.c1
  have F_1_c0 := F_1.c0
  have F_1_c1 := F_1.c1
  go_wp2_with fail
  refine (HRG.out _ R_1).mono ?_
  rintro e w2 ⟨rfl, y2⟩
  have R_2 := (R_1.on y2).alloc (.cells #[.int .i64 4, .int .i64 (-2)] 26)
  have B_2 := (B_1.on y2).alloc (.cells #[.int .i64 4, .int .i64 (-2)] 26)
  have RX_2 := (RX_1.on y2).alloc (.cells #[.int .i64 4, .int .i64 (-2)] 26)
  have X_2 := (X_1.on y2).alloc (.cells #[.int .i64 4, .int .i64 (-2)] 26)
  have F_2 := (F_1.on y2).alloc (.cells #[.int .i64 4, .int .i64 (-2)] 26)
  have G_2 := (Two.new w2 26 (.int .i64 4) (.int .i64 (-2)))
  clear R_1 B_1 B_1_c0 B_1_c1 RX_1 X_1 X_1_c0 X_1_c1 F_1 F_1_c0 F_1_c1
  have z2 := Z1.trans (y2.mono Z1.size)
  have Z2 := (z2).alloc (by have := z2.size; omega) (.cells #[.int .i64 4, .int .i64 (-2)] 26)
  have B_2_c0 := B_2.c0
  have B_2_c1 := B_2.c1
  have X_2_c0 := X_2.c0
  have X_2_c1 := X_2.c1
  have F_2_c0 := F_2.c0
  have F_2_c1 := F_2.c1
  have G_2_c0 := G_2.c0
  have G_2_c1 := G_2.c1
  go_wp2_with fail
  refine (strings_true _).mono ?_
  rintro e w3 ⟨rfl, y3⟩
  have R_3 := R_2.on y3
  have B_3 := B_2.on y3
  have RX_3 := RX_2.on y3
  have X_3 := X_2.on y3
  have F_3 := F_2.on y3
  have G_3 := G_2.on y3
  clear R_2 B_2 B_2_c0 B_2_c1 RX_2 X_2 X_2_c0 X_2_c1 F_2 F_2_c0 F_2_c1 G_2 G_2_c0 G_2_c1
  have z3 := Z2.trans (y3.mono Z2.size)
  have Z3 := z3
  have B_3_c0 := B_3.c0
  have B_3_c1 := B_3.c1
  have X_3_c0 := X_3.c0
  have X_3_c1 := X_3.c1
  have F_3_c0 := F_3.c0
  have F_3_c1 := F_3.c1
  have G_3_c0 := G_3.c0
  have G_3_c1 := G_3.c1
  go_wp2_with fail
  refine (api_gsize hx1 hx2).mono ?_
  rintro e w9_1 ⟨rfl, rfl⟩
  go_wp2_with fail
  refine (HG.out _).mono ?_
  rintro e w4 ⟨Ag, cg, rfl, og, y4⟩
  have R_4 := R_3.on y4
  have B_4 := B_3.on y4
  have RX_4 := RX_3.on y4
  have X_4 := X_3.on y4
  have F_4 := F_3.on y4
  have G_4 := G_3.on y4
  clear R_3 B_3 B_3_c0 B_3_c1 RX_3 X_3 X_3_c0 X_3_c1 F_3 F_3_c0 F_3_c1 G_3 G_3_c0 G_3_c1
  have z4 := Z3.trans (y4.mono Z3.size)
  have Z4 := z4
  have B_4_c0 := B_4.c0
  have B_4_c1 := B_4.c1
  have X_4_c0 := X_4.c0
  have X_4_c1 := X_4.c1
  have F_4_c0 := F_4.c0
  have F_4_c1 := F_4.c1
  have G_4_c0 := G_4.c0
  have G_4_c1 := G_4.c1
  go_wp2_with fail
  refine (refat_any _ _ _).mono ?_
  rintro e w5 ⟨rfl, y5⟩
  have R_5 := (R_4.on y5).alloc (.cells #[.int .i64 6, .int .i64 (-1)] 26)
  have B_5 := (B_4.on y5).alloc (.cells #[.int .i64 6, .int .i64 (-1)] 26)
  have RX_5 := (RX_4.on y5).alloc (.cells #[.int .i64 6, .int .i64 (-1)] 26)
  have X_5 := (X_4.on y5).alloc (.cells #[.int .i64 6, .int .i64 (-1)] 26)
  have F_5 := (F_4.on y5).alloc (.cells #[.int .i64 6, .int .i64 (-1)] 26)
  have G_5 := (G_4.on y5).alloc (.cells #[.int .i64 6, .int .i64 (-1)] 26)
  have R_b := R_4.on y5
  have B_b := B_4.on y5
  have RX_b := RX_4.on y5
  have X_b := X_4.on y5
  have F_b := F_4.on y5
  have G_b := G_4.on y5
  have W_5 := (Two.new w5 26 (.int .i64 6) (.int .i64 (-1)))
  clear R_4 B_4 B_4_c0 B_4_c1 RX_4 X_4 X_4_c0 X_4_c1 F_4 F_4_c0 F_4_c1 G_4 G_4_c0 G_4_c1
  have z5 := Z4.trans (y5.mono Z4.size)
  have Z5 := (z5).alloc (by have := z5.size; omega) (.cells #[.int .i64 6, .int .i64 (-1)] 26)
  have CW_5 := (Below.refl w5.heap.size w5).alloc (by simp) (.cells #[.int .i64 6, .int .i64 (-1)] 26)
  have B_5_c0 := B_5.c0
  have B_5_c1 := B_5.c1
  have X_5_c0 := X_5.c0
  have X_5_c1 := X_5.c1
  have F_5_c0 := F_5.c0
  have F_5_c1 := F_5.c1
  have G_5_c0 := G_5.c0
  have G_5_c1 := G_5.c1
  have W_5_c0 := W_5.c0
  have W_5_c1 := W_5.c1
  have W_5_f0 := W_5.f0
  have W_5_f1 := W_5.f1
  go_wp2_with fail
  refine (bitsok_any R_5 (pack_lt H01.out) (by omega) (by have := HLL.out; omega) true ⟨fun _ => HOK.out, fun _ => rfl⟩).mono ?_
  rintro e w6 ⟨rfl, y6⟩
  have R_6 := R_5.on y6
  have B_6 := B_5.on y6
  have RX_6 := RX_5.on y6
  have X_6 := X_5.on y6
  have F_6 := F_5.on y6
  have G_6 := G_5.on y6
  have W_6 := W_5.on y6
  clear R_5 B_5 B_5_c0 B_5_c1 RX_5 X_5 X_5_c0 X_5_c1 F_5 F_5_c0 F_5_c1 G_5 G_5_c0 G_5_c1 W_5 W_5_c0 W_5_c1 W_5_f0 W_5_f1
  have z6 := Z5.trans (y6.mono Z5.size)
  have Z6 := z6
  have cW6 := CW_5.trans (y6.mono CW_5.size)
  have CW_6 := cW6
  have B_6_c0 := B_6.c0
  have B_6_c1 := B_6.c1
  have X_6_c0 := X_6.c0
  have X_6_c1 := X_6.c1
  have F_6_c0 := F_6.c0
  have F_6_c1 := F_6.c1
  have G_6_c0 := G_6.c0
  have G_6_c1 := G_6.c1
  have W_6_c0 := W_6.c0
  have W_6_c1 := W_6.c1
  have W_6_f0 := W_6.f0
  have W_6_f1 := W_6.f1
  go_wp2_with fail
  refine (bits_any R_6 H01.out HLL.out _ rfl).mono ?_
  rintro e w7 ⟨Al, cl, rfl, hol, y7⟩
  have R_7 := R_6.on y7
  have B_7 := B_6.on y7
  have RX_7 := RX_6.on y7
  have X_7 := X_6.on y7
  have F_7 := F_6.on y7
  have G_7 := G_6.on y7
  have W_7 := W_6.on y7
  have L_7 := own_less hol CW_6.size
  clear R_6 B_6 B_6_c0 B_6_c1 RX_6 X_6 X_6_c0 X_6_c1 F_6 F_6_c0 F_6_c1 G_6 G_6_c0 G_6_c1 W_6 W_6_c0 W_6_c1 W_6_f0 W_6_f1
  have z7 := Z6.trans (y7.mono Z6.size)
  have Z7 := z7
  have cW7 := CW_6.trans (y7.mono CW_6.size)
  have CW_7 := cW7
  have B_7_c0 := B_7.c0
  have B_7_c1 := B_7.c1
  have X_7_c0 := X_7.c0
  have X_7_c1 := X_7.c1
  have F_7_c0 := F_7.c0
  have F_7_c1 := F_7.c1
  have G_7_c0 := G_7.c0
  have G_7_c1 := G_7.c1
  have W_7_c0 := W_7.c0
  have W_7_c1 := W_7.c1
  have W_7_f0 := W_7.f0
  have W_7_f1 := W_7.f1
  have CW_8 := (CW_7.setCell (p := ⟨w5.heap.size, 0, none⟩) (by simp) (.int .i64 0)).setCell (p := ⟨w5.heap.size, 1, none⟩) (by simp) (.int .i64 0)
  have Z8 := (Z7.setCell (p := ⟨w5.heap.size, 0, none⟩) (by have := z5.size; simp; omega) (.int .i64 0)).setCell (p := ⟨w5.heap.size, 1, none⟩) (by have := z5.size; simp; omega) (.int .i64 0)
  have R_8 := R_b.on CW_8
  have B_8 := B_b.on CW_8
  have RX_8 := RX_b.on CW_8
  have X_8 := X_b.on CW_8
  have F_8 := F_b.on CW_8
  have G_8 := G_b.on CW_8
  have W_8 := (W_7.set0 (.int .i64 0)).set1 (.int .i64 0)
  have L_8 := own_far_any (own_far_any L_7 (p := ⟨w5.heap.size, 0, none⟩) (own_two_ne L_7 W_7 (by decide)) (.int .i64 0)) (p := ⟨w5.heap.size, 1, none⟩) (own_two_ne L_7 W_7 (by decide)) (.int .i64 0)
  have B_8_c0 := B_8.c0
  have B_8_c1 := B_8.c1
  have X_8_c0 := X_8.c0
  have X_8_c1 := X_8.c1
  have F_8_c0 := F_8.c0
  have F_8_c1 := F_8.c1
  have G_8_c0 := G_8.c0
  have G_8_c1 := G_8.c1
  have W_8_c0 := W_8.c0
  have W_8_c1 := W_8.c1
  have W_8_f0 := W_8.f0
  have W_8_f1 := W_8.f1
  go_wp2_with fail
  refine (in_yes (x : Nat) 1 2147483647 _ (by omega) (by omega)).mono ?_
  rintro e w9_2 ⟨rfl, rfl⟩
  go_wp2_with fail
  refine (HG.out _).mono ?_
  rintro e w9 ⟨Ag2, cg2, rfl, og2, y9⟩
  have R_9 := R_8.on y9
  have B_9 := B_8.on y9
  have RX_9 := RX_8.on y9
  have X_9 := X_8.on y9
  have F_9 := F_8.on y9
  have G_9 := G_8.on y9
  have W_9 := W_8.on y9
  have L_9 := own_on L_8 y9
  clear R_7 B_7 B_7_c0 B_7_c1 RX_7 X_7 X_7_c0 X_7_c1 F_7 F_7_c0 F_7_c1 G_7 G_7_c0 G_7_c1 W_7 W_7_c0 W_7_c1 W_7_f0 W_7_f1 L_7 R_8 B_8 B_8_c0 B_8_c1 RX_8 X_8 X_8_c0 X_8_c1 F_8 F_8_c0 F_8_c1 G_8 G_8_c0 G_8_c1 W_8 W_8_c0 W_8_c1 W_8_f0 W_8_f1 L_8
  have z9 := Z8.trans (y9.mono Z8.size)
  have Z9 := z9
  have cW9 := CW_8.trans (y9.mono CW_8.size)
  have CW_9 := cW9
  have B_9_c0 := B_9.c0
  have B_9_c1 := B_9.c1
  have X_9_c0 := X_9.c0
  have X_9_c1 := X_9.c1
  have F_9_c0 := F_9.c0
  have F_9_c1 := F_9.c1
  have G_9_c0 := G_9.c0
  have G_9_c1 := G_9.c1
  have W_9_c0 := W_9.c0
  have W_9_c1 := W_9.c1
  have W_9_f0 := W_9.f0
  have W_9_f1 := W_9.f1
  go_wp2_with fail
  refine (in_no _ 0 (l.length : Nat) _ HF.out).mono ?_
  rintro e w9_3 ⟨rfl, rfl⟩
  go_wp2_with fail
  go_region_held3 (fun w' => w'.cell? ⟨w2.heap.size, 0, none⟩ = some (.int .i64 4) ∧ w'.cell? ⟨w2.heap.size, 1, none⟩ = some (.int .i64 (-2))) (go_keep) ((go_at_call 16; refine (refat_any _ _ _).mono ?_; rintro e w10 ⟨rfl, y10⟩; have Y10 : Below w9.heap.size w9.drew w10 := y10; have G_10_c0 := ((Two.on (w := w9.drew) G_9 Y10)).c0; have G_10_c1 := ((Two.on (w := w9.drew) G_9 Y10)).c1))
  have R_10 := (Rd.on (w := w9.drew) R_9 Y10)
  have B_10 := (Two.on (w := w9.drew) B_9 Y10)
  have RX_10 := (Rd.on (w := w9.drew) RX_9 Y10)
  have X_10 := (Two.on (w := w9.drew) X_9 Y10)
  have F_10 := (Two.on (w := w9.drew) F_9 Y10)
  have G_10 := (Two.on (w := w9.drew) G_9 Y10)
  have W_10 := (Two.on (w := w9.drew) W_9 Y10)
  have L_10 := (own_on (w := w9.drew) L_9 Y10)
  have Z10 := (belowD Z9).trans (Y10.mono (belowD Z9).size)
  have CW_10 := (belowD CW_9).trans (Y10.mono (belowD CW_9).size)
  clear G_10_c0 G_10_c1
  clear R_9 B_9 B_9_c0 B_9_c1 RX_9 X_9 X_9_c0 X_9_c1 F_9 F_9_c0 F_9_c1 G_9 G_9_c0 G_9_c1 W_9 W_9_c0 W_9_c1 W_9_f0 W_9_f1 L_9
  have B_10_c0 := B_10.c0
  have B_10_c1 := B_10.c1
  have X_10_c0 := X_10.c0
  have X_10_c1 := X_10.c1
  have F_10_c0 := F_10.c0
  have F_10_c1 := F_10.c1
  have G_10_c0 := G_10.c0
  have G_10_c1 := G_10.c1
  have W_10_c0 := W_10.c0
  have W_10_c1 := W_10.c1
  have W_10_f0 := W_10.f0
  have W_10_f1 := W_10.f1
  go_wp2
  go_ret
  exact ⟨rfl, Z10⟩
set_option maxRecDepth 100000 in
set_option maxHeartbeats 3200000 in
theorem gm_11 {A : Option Addr} {n c : Nat} {l : List Nat} (h01 : Is01 l) (hl : l.length ≤ 131072) {x : Nat} (hx1 : 1 ≤ x) (hx2 : x < 9223372036854775808) (hx : x ≤ 2147483647) (hs : l.length + gsz x ≤ 131072) {f : Nat} (hf : f ≤ l.length) {cd : Nat} (hG : GAt l f 0 0 cd) (hc : cd ≠ 0)  (w : World) (h : Rd w A n c (bcells (pack l))) :
    Calls Try.prog 4 #[.agg #[.slice A n c, .int .i64 (l.length : Nat)], .int .i64 (x : Nat), .int .i64 (f : Nat)] w fun e w' => e = .returned (.bool true) ∧ Below w.heap.size w w' := by
  obtain ⟨i0, hi, hz0, hz1, hz2⟩ := info_parts int_info
  have H01 := Lib.hid h01
  have HLL := Lib.hid hl
  have HOK := Lib.hid (Ok.of_list h01 hl)
  clear h01
  have hgz : gsz x ≤ 125 := by have := bitLen_le64 x (by omega); unfold gsz; omega
  have HG := Lib.hid (fun W => gammaref_any x _ rfl hx1 hx2 W)
  obtain ⟨L, hL⟩ : ∃ L, L = l ++ gam x := ⟨_, rfl⟩
  have hLn : L.length = l.length + gsz x := by rw [hL, List.length_append, gam_length]
  have HLN := Lib.hid hLn
  have HLB := Lib.hid (show L.length ≤ 131072 by omega)
  have HL01 := Lib.hid (show Is01 L by rw [hL]; exact H01.out.append (digs_01 _ _))
  have HNC := Lib.hid (show ncells l ++ ncells (gam x) = ncells L by rw [hL, ncells_append])
  have HAG := Lib.hid (fun W (hW : Rd W A n c (bcells (pack l))) => api_agamma hW H01.out HLL.out hx1 hx hs hL _ rfl)
  clear hL hLn
  have hc1 : ((cd : Int) != 0) = true := by rw [bne_iff_ne]; omega
  have hc2 : ((cd : Int) == 0) = false := by rw [beq_eq_false_iff_ne]; omega
  have HRG := Lib.hid (fun W (hW : Rd W A n c (bcells (pack l))) => rg_bad hW H01.out HLL.out hf hG hc)
  have HGA := Lib.hid hG
  clear hG hc
  have R_0 := (h).alloc (.cells #[.slice A n c, .int .i64 (l.length : Nat)] 24)
  have B_0 := (Two.new w 24 (.slice A n c) (.int .i64 (l.length : Nat)))
  have Z0 := (Below.refl w.heap.size w).alloc (by simp) (.cells #[.slice A n c, .int .i64 (l.length : Nat)] 24)
  have B_0_c0 := B_0.c0
  have B_0_c1 := B_0.c1
  go_enter Try.func4, Try.ntmps4
  go_wp2_with fail
  refine (HAG.out _ R_0).mono ?_
  rintro e w1 ⟨Ax, nx, cx, rfl, Rx, y1⟩
  have R_1 := ((R_0.on y1).alloc (.cells #[.slice Ax nx cx, .int .i64 (L.length : Nat)] 24)).alloc (.cells #[.int .i64 0, .int .i64 0] 26)
  have B_1 := ((B_0.on y1).alloc (.cells #[.slice Ax nx cx, .int .i64 (L.length : Nat)] 24)).alloc (.cells #[.int .i64 0, .int .i64 0] 26)
  have RX_1 := ((Rx).alloc (.cells #[.slice Ax nx cx, .int .i64 (L.length : Nat)] 24)).alloc (.cells #[.int .i64 0, .int .i64 0] 26)
  have X_1 := ((Two.new w1 24 (.slice Ax nx cx) (.int .i64 (L.length : Nat)))).alloc (.cells #[.int .i64 0, .int .i64 0] 26)
  have F_1 := (Two.new1 w1 (.cells #[.slice Ax nx cx, .int .i64 (L.length : Nat)] 24) 26 (.int .i64 0) (.int .i64 0))
  clear R_0 B_0 B_0_c0 B_0_c1
  have z1 := Z0.trans (y1.mono Z0.size)
  have Z1 := ((z1).alloc (by have := z1.size; omega) (.cells #[.slice Ax nx cx, .int .i64 (L.length : Nat)] 24)).alloc (by have := z1.size; simp; omega) (.cells #[.int .i64 0, .int .i64 0] 26)
  have B_1_c0 := B_1.c0
  have B_1_c1 := B_1.c1
  have X_1_c0 := X_1.c0
  have X_1_c1 := X_1.c1
  have F_1_c0 := F_1.c0
  have F_1_c1 := F_1.c1
  go_wp2_with fail
  refine (HRG.out _ R_1).mono ?_
  rintro e w2 ⟨rfl, y2⟩
  have R_2 := (R_1.on y2).alloc (.cells #[.int .i64 (cd : Nat), .int .i64 (-2)] 26)
  have B_2 := (B_1.on y2).alloc (.cells #[.int .i64 (cd : Nat), .int .i64 (-2)] 26)
  have RX_2 := (RX_1.on y2).alloc (.cells #[.int .i64 (cd : Nat), .int .i64 (-2)] 26)
  have X_2 := (X_1.on y2).alloc (.cells #[.int .i64 (cd : Nat), .int .i64 (-2)] 26)
  have F_2 := (F_1.on y2).alloc (.cells #[.int .i64 (cd : Nat), .int .i64 (-2)] 26)
  have G_2 := (Two.new w2 26 (.int .i64 (cd : Nat)) (.int .i64 (-2)))
  clear R_1 B_1 B_1_c0 B_1_c1 RX_1 X_1 X_1_c0 X_1_c1 F_1 F_1_c0 F_1_c1
  have z2 := Z1.trans (y2.mono Z1.size)
  have Z2 := (z2).alloc (by have := z2.size; omega) (.cells #[.int .i64 (cd : Nat), .int .i64 (-2)] 26)
  have B_2_c0 := B_2.c0
  have B_2_c1 := B_2.c1
  have X_2_c0 := X_2.c0
  have X_2_c1 := X_2.c1
  have F_2_c0 := F_2.c0
  have F_2_c1 := F_2.c1
  have G_2_c0 := G_2.c0
  have G_2_c1 := G_2.c1
  go_wp2_with fail
  refine (strings_true _).mono ?_
  rintro e w3 ⟨rfl, y3⟩
  have R_3 := R_2.on y3
  have B_3 := B_2.on y3
  have RX_3 := RX_2.on y3
  have X_3 := X_2.on y3
  have F_3 := F_2.on y3
  have G_3 := G_2.on y3
  clear R_2 B_2 B_2_c0 B_2_c1 RX_2 X_2 X_2_c0 X_2_c1 F_2 F_2_c0 F_2_c1 G_2 G_2_c0 G_2_c1
  have z3 := Z2.trans (y3.mono Z2.size)
  have Z3 := z3
  have B_3_c0 := B_3.c0
  have B_3_c1 := B_3.c1
  have X_3_c0 := X_3.c0
  have X_3_c1 := X_3.c1
  have F_3_c0 := F_3.c0
  have F_3_c1 := F_3.c1
  have G_3_c0 := G_3.c0
  have G_3_c1 := G_3.c1
  go_wp2_with fail
  refine (api_gsize hx1 hx2).mono ?_
  rintro e w9_1 ⟨rfl, rfl⟩
  go_wp2_with fail
  refine (HG.out _).mono ?_
  rintro e w4 ⟨Ag, cg, rfl, og, y4⟩
  have R_4 := R_3.on y4
  have B_4 := B_3.on y4
  have RX_4 := RX_3.on y4
  have X_4 := X_3.on y4
  have F_4 := F_3.on y4
  have G_4 := G_3.on y4
  clear R_3 B_3 B_3_c0 B_3_c1 RX_3 X_3 X_3_c0 X_3_c1 F_3 F_3_c0 F_3_c1 G_3 G_3_c0 G_3_c1
  have z4 := Z3.trans (y4.mono Z3.size)
  have Z4 := z4
  have B_4_c0 := B_4.c0
  have B_4_c1 := B_4.c1
  have X_4_c0 := X_4.c0
  have X_4_c1 := X_4.c1
  have F_4_c0 := F_4.c0
  have F_4_c1 := F_4.c1
  have G_4_c0 := G_4.c0
  have G_4_c1 := G_4.c1
  go_wp2_with fail
  refine (refat_any _ _ _).mono ?_
  rintro e w5 ⟨rfl, y5⟩
  have R_5 := (R_4.on y5).alloc (.cells #[.int .i64 6, .int .i64 (-1)] 26)
  have B_5 := (B_4.on y5).alloc (.cells #[.int .i64 6, .int .i64 (-1)] 26)
  have RX_5 := (RX_4.on y5).alloc (.cells #[.int .i64 6, .int .i64 (-1)] 26)
  have X_5 := (X_4.on y5).alloc (.cells #[.int .i64 6, .int .i64 (-1)] 26)
  have F_5 := (F_4.on y5).alloc (.cells #[.int .i64 6, .int .i64 (-1)] 26)
  have G_5 := (G_4.on y5).alloc (.cells #[.int .i64 6, .int .i64 (-1)] 26)
  have R_b := R_4.on y5
  have B_b := B_4.on y5
  have RX_b := RX_4.on y5
  have X_b := X_4.on y5
  have F_b := F_4.on y5
  have G_b := G_4.on y5
  have W_5 := (Two.new w5 26 (.int .i64 6) (.int .i64 (-1)))
  clear R_4 B_4 B_4_c0 B_4_c1 RX_4 X_4 X_4_c0 X_4_c1 F_4 F_4_c0 F_4_c1 G_4 G_4_c0 G_4_c1
  have z5 := Z4.trans (y5.mono Z4.size)
  have Z5 := (z5).alloc (by have := z5.size; omega) (.cells #[.int .i64 6, .int .i64 (-1)] 26)
  have CW_5 := (Below.refl w5.heap.size w5).alloc (by simp) (.cells #[.int .i64 6, .int .i64 (-1)] 26)
  have B_5_c0 := B_5.c0
  have B_5_c1 := B_5.c1
  have X_5_c0 := X_5.c0
  have X_5_c1 := X_5.c1
  have F_5_c0 := F_5.c0
  have F_5_c1 := F_5.c1
  have G_5_c0 := G_5.c0
  have G_5_c1 := G_5.c1
  have W_5_c0 := W_5.c0
  have W_5_c1 := W_5.c1
  have W_5_f0 := W_5.f0
  have W_5_f1 := W_5.f1
  go_wp2_with fail
  refine (bitsok_any R_5 (pack_lt H01.out) (by omega) (by have := HLL.out; omega) true ⟨fun _ => HOK.out, fun _ => rfl⟩).mono ?_
  rintro e w6 ⟨rfl, y6⟩
  have R_6 := R_5.on y6
  have B_6 := B_5.on y6
  have RX_6 := RX_5.on y6
  have X_6 := X_5.on y6
  have F_6 := F_5.on y6
  have G_6 := G_5.on y6
  have W_6 := W_5.on y6
  clear R_5 B_5 B_5_c0 B_5_c1 RX_5 X_5 X_5_c0 X_5_c1 F_5 F_5_c0 F_5_c1 G_5 G_5_c0 G_5_c1 W_5 W_5_c0 W_5_c1 W_5_f0 W_5_f1
  have z6 := Z5.trans (y6.mono Z5.size)
  have Z6 := z6
  have cW6 := CW_5.trans (y6.mono CW_5.size)
  have CW_6 := cW6
  have B_6_c0 := B_6.c0
  have B_6_c1 := B_6.c1
  have X_6_c0 := X_6.c0
  have X_6_c1 := X_6.c1
  have F_6_c0 := F_6.c0
  have F_6_c1 := F_6.c1
  have G_6_c0 := G_6.c0
  have G_6_c1 := G_6.c1
  have W_6_c0 := W_6.c0
  have W_6_c1 := W_6.c1
  have W_6_f0 := W_6.f0
  have W_6_f1 := W_6.f1
  go_wp2_with fail
  refine (bits_any R_6 H01.out HLL.out _ rfl).mono ?_
  rintro e w7 ⟨Al, cl, rfl, hol, y7⟩
  have R_7 := R_6.on y7
  have B_7 := B_6.on y7
  have RX_7 := RX_6.on y7
  have X_7 := X_6.on y7
  have F_7 := F_6.on y7
  have G_7 := G_6.on y7
  have W_7 := W_6.on y7
  have L_7 := own_less hol CW_6.size
  clear R_6 B_6 B_6_c0 B_6_c1 RX_6 X_6 X_6_c0 X_6_c1 F_6 F_6_c0 F_6_c1 G_6 G_6_c0 G_6_c1 W_6 W_6_c0 W_6_c1 W_6_f0 W_6_f1
  have z7 := Z6.trans (y7.mono Z6.size)
  have Z7 := z7
  have cW7 := CW_6.trans (y7.mono CW_6.size)
  have CW_7 := cW7
  have B_7_c0 := B_7.c0
  have B_7_c1 := B_7.c1
  have X_7_c0 := X_7.c0
  have X_7_c1 := X_7.c1
  have F_7_c0 := F_7.c0
  have F_7_c1 := F_7.c1
  have G_7_c0 := G_7.c0
  have G_7_c1 := G_7.c1
  have W_7_c0 := W_7.c0
  have W_7_c1 := W_7.c1
  have W_7_f0 := W_7.f0
  have W_7_f1 := W_7.f1
  have CW_8 := (CW_7.setCell (p := ⟨w5.heap.size, 0, none⟩) (by simp) (.int .i64 0)).setCell (p := ⟨w5.heap.size, 1, none⟩) (by simp) (.int .i64 0)
  have Z8 := (Z7.setCell (p := ⟨w5.heap.size, 0, none⟩) (by have := z5.size; simp; omega) (.int .i64 0)).setCell (p := ⟨w5.heap.size, 1, none⟩) (by have := z5.size; simp; omega) (.int .i64 0)
  have R_8 := R_b.on CW_8
  have B_8 := B_b.on CW_8
  have RX_8 := RX_b.on CW_8
  have X_8 := X_b.on CW_8
  have F_8 := F_b.on CW_8
  have G_8 := G_b.on CW_8
  have W_8 := (W_7.set0 (.int .i64 0)).set1 (.int .i64 0)
  have L_8 := own_far_any (own_far_any L_7 (p := ⟨w5.heap.size, 0, none⟩) (own_two_ne L_7 W_7 (by decide)) (.int .i64 0)) (p := ⟨w5.heap.size, 1, none⟩) (own_two_ne L_7 W_7 (by decide)) (.int .i64 0)
  have B_8_c0 := B_8.c0
  have B_8_c1 := B_8.c1
  have X_8_c0 := X_8.c0
  have X_8_c1 := X_8.c1
  have F_8_c0 := F_8.c0
  have F_8_c1 := F_8.c1
  have G_8_c0 := G_8.c0
  have G_8_c1 := G_8.c1
  have W_8_c0 := W_8.c0
  have W_8_c1 := W_8.c1
  have W_8_f0 := W_8.f0
  have W_8_f1 := W_8.f1
  go_wp2_with fail
  refine (in_yes (x : Nat) 1 2147483647 _ (by omega) (by omega)).mono ?_
  rintro e w9_2 ⟨rfl, rfl⟩
  go_wp2_with fail
  refine (HG.out _).mono ?_
  rintro e w9 ⟨Ag2, cg2, rfl, og2, y9⟩
  have R_9 := R_8.on y9
  have B_9 := B_8.on y9
  have RX_9 := RX_8.on y9
  have X_9 := X_8.on y9
  have F_9 := F_8.on y9
  have G_9 := G_8.on y9
  have W_9 := W_8.on y9
  have L_9 := own_on L_8 y9
  clear R_7 B_7 B_7_c0 B_7_c1 RX_7 X_7 X_7_c0 X_7_c1 F_7 F_7_c0 F_7_c1 G_7 G_7_c0 G_7_c1 W_7 W_7_c0 W_7_c1 W_7_f0 W_7_f1 L_7 R_8 B_8 B_8_c0 B_8_c1 RX_8 X_8 X_8_c0 X_8_c1 F_8 F_8_c0 F_8_c1 G_8 G_8_c0 G_8_c1 W_8 W_8_c0 W_8_c1 W_8_f0 W_8_f1 L_8
  have z9 := Z8.trans (y9.mono Z8.size)
  have Z9 := z9
  have cW9 := CW_8.trans (y9.mono CW_8.size)
  have CW_9 := cW9
  have B_9_c0 := B_9.c0
  have B_9_c1 := B_9.c1
  have X_9_c0 := X_9.c0
  have X_9_c1 := X_9.c1
  have F_9_c0 := F_9.c0
  have F_9_c1 := F_9.c1
  have G_9_c0 := G_9.c0
  have G_9_c1 := G_9.c1
  have W_9_c0 := W_9.c0
  have W_9_c1 := W_9.c1
  have W_9_f0 := W_9.f0
  have W_9_f1 := W_9.f1
  go_wp2_with fail
  refine (in_yes (f : Nat) 0 (l.length : Nat) _ (by omega) (by omega)).mono ?_
  rintro e w9_3 ⟨rfl, rfl⟩
  go_wp2_with fail
  refine (gammaat_any (Rd.own L_9) H01.out (by have := HLL.out; omega) hf rfl HGA.out).mono ?_
  rintro e w9_4 ⟨rfl, rfl⟩
  go_wp2_with fail
  go_region_held3 (fun w' => w'.cell? ⟨w5.heap.size, 0, none⟩ = some (.int .i64 0) ∧ w'.cell? ⟨w5.heap.size, 1, none⟩ = some (.int .i64 0) ∧ w'.cell? ⟨w1.heap.size, 0, none⟩ = some (.slice Ax nx cx) ∧ w'.cell? ⟨w1.heap.size, 1, none⟩ = some (.int .i64 (L.length : Nat))) (go_keep) (first | (go_at_call 22; refine (HG.out _).mono ?_; rintro e w10 ⟨Ag3, cg3, rfl, og3, y10⟩; have Y10 : Below w9.heap.size w9.drew w10 := y10; have hol2 := own_on (w := w9.drew) L_9 y10; have W_10_c0 := ((Two.on (w := w9.drew) W_9 Y10)).c0; have W_10_c1 := ((Two.on (w := w9.drew) W_9 Y10)).c1; have X_10_c0 := ((Two.on (w := w9.drew) X_9 Y10)).c0; have X_10_c1 := ((Two.on (w := w9.drew) X_9 Y10)).c1) | (go_at_call 18; refine (packed_any _ HLN.out.symm (Rd.own hop) HL01.out (by have := HLB.out; omega)).mono ?_; rintro e w12 ⟨Ap, np, cp, rfl, RP, y12⟩; have W_12x := W_11x.on y12; have CC12 := CC11.trans (y12.mono CC11.size); have W_12_c0 := (W_12x).c0; have W_12_c1 := (W_12x).c1; have X_12_c0 := ((X_b.on CC12)).c0; have X_12_c1 := ((X_b.on CC12)).c1) | (go_at_call 17; refine (api_same (RX_b.on CC12) RP HL01.out HL01.out true (by simp) _ _ rfl (by have := HLN.out; omega)).mono ?_; rintro e w13 ⟨rfl, y13⟩; have W_13x := W_12x.on y13; have CC13 := CC12.trans (y13.mono CC12.size); have W_13_c0 := (W_13x).c0; have W_13_c1 := (W_13x).c1; have X_13_c0 := ((X_b.on CC13)).c0; have X_13_c1 := ((X_b.on CC13)).c1) | (refine step_append_want (by rfl) _ _ _ (by rfl) _ 3 i0 _ 8 Try.underlying35 hi hz0 hz1 hz2 (by rfl) _ _ _ (by rfl) hol2 _ _ (gsz x) cg3 _ (by rfl) (Rd.own og3) (ncells_one _) (by have := HLL.out; unfold maxLen; omega) (by have := HLL.out; omega) ((belowD CW_9).trans (Y10.mono (belowD CW_9).size)).size ?_; intro A11 c11 w11 ho11 hg11 hat11; have CC11 := below_grown ((belowD CW_9).trans (Y10.mono (belowD CW_9).size)) hol2 hg11 (Nat.le_refl _) ((belowD CW_9).trans (Y10.mono (belowD CW_9).size)).size; have W_11x := Two.grown (Two.on (w := w9.drew) W_9 Y10) hg11 (Ne.symm (own_two_ne hol2 (Two.on (w := w9.drew) W_9 Y10) (by decide))); rw [HNC.out] at ho11; have hop := ho11; clear ho11; have W_11_c0 := (W_11x).c0; have W_11_c1 := (W_11x).c1; have X_11_c0 := ((X_b.on CC11)).c0; have X_11_c1 := ((X_b.on CC11)).c1))
  have R_13 := (R_b.on CC13)
  have B_13 := (B_b.on CC13)
  have RX_13 := (RX_b.on CC13)
  have X_13 := (X_b.on CC13)
  have F_13 := (F_b.on CC13)
  have G_13 := (G_b.on CC13)
  have W_13 := W_13x
  have Z13 := z5.trans (CC13.mono z5.size)
  clear R_9 B_9 B_9_c0 B_9_c1 RX_9 X_9 X_9_c0 X_9_c1 F_9 F_9_c0 F_9_c1 G_9 G_9_c0 G_9_c1 W_9 W_9_c0 W_9_c1 W_9_f0 W_9_f1 L_9
  have B_13_c0 := B_13.c0
  have B_13_c1 := B_13.c1
  have X_13_c0 := X_13.c0
  have X_13_c1 := X_13.c1
  have F_13_c0 := F_13.c0
  have F_13_c1 := F_13.c1
  have G_13_c0 := G_13.c0
  have G_13_c1 := G_13.c1
  have W_13_c0 := W_13.c0
  have W_13_c1 := W_13.c1
  have W_13_f0 := W_13.f0
  have W_13_f1 := W_13.f1
  go_wp2_with fail
  go_region_held3 (fun w' => w'.cell? ⟨w2.heap.size, 0, none⟩ = some (.int .i64 (cd : Nat)) ∧ w'.cell? ⟨w2.heap.size, 1, none⟩ = some (.int .i64 (-2))) (go_keep) ((go_at_call 16; refine (refat_any _ _ _).mono ?_; rintro e w14 ⟨rfl, y14⟩; have Y14 : Below w13.heap.size w13.drew w14 := y14; have G_14_c0 := ((Two.on (w := w13.drew) G_13 Y14)).c0; have G_14_c1 := ((Two.on (w := w13.drew) G_13 Y14)).c1))
  have R_14 := (Rd.on (w := w13.drew) R_13 Y14)
  have B_14 := (Two.on (w := w13.drew) B_13 Y14)
  have RX_14 := (Rd.on (w := w13.drew) RX_13 Y14)
  have X_14 := (Two.on (w := w13.drew) X_13 Y14)
  have F_14 := (Two.on (w := w13.drew) F_13 Y14)
  have G_14 := (Two.on (w := w13.drew) G_13 Y14)
  have W_14 := (Two.on (w := w13.drew) W_13 Y14)
  have Z14 := (belowD Z13).trans (Y14.mono (belowD Z13).size)
  clear G_14_c0 G_14_c1
  clear R_13 B_13 B_13_c0 B_13_c1 RX_13 X_13 X_13_c0 X_13_c1 F_13 F_13_c0 F_13_c1 G_13 G_13_c0 G_13_c1 W_13 W_13_c0 W_13_c1 W_13_f0 W_13_f1
  have B_14_c0 := B_14.c0
  have B_14_c1 := B_14.c1
  have X_14_c0 := X_14.c0
  have X_14_c1 := X_14.c1
  have F_14_c0 := F_14.c0
  have F_14_c1 := F_14.c1
  have G_14_c0 := G_14.c0
  have G_14_c1 := G_14.c1
  have W_14_c0 := W_14.c0
  have W_14_c1 := W_14.c1
  have W_14_f0 := W_14.f0
  have W_14_f1 := W_14.f1
  go_wp2
  go_ret
  exact ⟨rfl, Z14⟩
set_option maxRecDepth 100000 in
set_option maxHeartbeats 3200000 in
theorem gm_12 {A : Option Addr} {n c : Nat} {l : List Nat} (h01 : Is01 l) (hl : l.length ≤ 131072) {x : Nat} (hx1 : 1 ≤ x) (hx2 : x < 9223372036854775808) (hx : x ≤ 2147483647) (hs : l.length + gsz x ≤ 131072) {f : Nat} (hf : f ≤ l.length) {v e1 : Nat} (hG : GAt l f v e1 0)  (w : World) (h : Rd w A n c (bcells (pack l))) :
    Calls Try.prog 4 #[.agg #[.slice A n c, .int .i64 (l.length : Nat)], .int .i64 (x : Nat), .int .i64 (f : Nat)] w fun e w' => e = .returned (.bool true) ∧ Below w.heap.size w w' := by
  obtain ⟨i0, hi, hz0, hz1, hz2⟩ := info_parts int_info
  have H01 := Lib.hid h01
  have HLL := Lib.hid hl
  have HOK := Lib.hid (Ok.of_list h01 hl)
  clear h01
  have hgz : gsz x ≤ 125 := by have := bitLen_le64 x (by omega); unfold gsz; omega
  have HG := Lib.hid (fun W => gammaref_any x _ rfl hx1 hx2 W)
  obtain ⟨L, hL⟩ : ∃ L, L = l ++ gam x := ⟨_, rfl⟩
  have hLn : L.length = l.length + gsz x := by rw [hL, List.length_append, gam_length]
  have HLN := Lib.hid hLn
  have HLB := Lib.hid (show L.length ≤ 131072 by omega)
  have HL01 := Lib.hid (show Is01 L by rw [hL]; exact H01.out.append (digs_01 _ _))
  have HNC := Lib.hid (show ncells l ++ ncells (gam x) = ncells L by rw [hL, ncells_append])
  have HAG := Lib.hid (fun W (hW : Rd W A n c (bcells (pack l))) => api_agamma hW H01.out HLL.out hx1 hx hs hL _ rfl)
  clear hL hLn
  have HRG := Lib.hid (fun W (hW : Rd W A n c (bcells (pack l))) => rg_ok hW H01.out HLL.out hf hG)
  have HGA := Lib.hid hG
  clear hG
  have R_0 := (h).alloc (.cells #[.slice A n c, .int .i64 (l.length : Nat)] 24)
  have B_0 := (Two.new w 24 (.slice A n c) (.int .i64 (l.length : Nat)))
  have Z0 := (Below.refl w.heap.size w).alloc (by simp) (.cells #[.slice A n c, .int .i64 (l.length : Nat)] 24)
  have B_0_c0 := B_0.c0
  have B_0_c1 := B_0.c1
  go_enter Try.func4, Try.ntmps4
  go_wp2_with fail
  refine (HAG.out _ R_0).mono ?_
  rintro e w1 ⟨Ax, nx, cx, rfl, Rx, y1⟩
  have R_1 := ((R_0.on y1).alloc (.cells #[.slice Ax nx cx, .int .i64 (L.length : Nat)] 24)).alloc (.cells #[.int .i64 0, .int .i64 0] 26)
  have B_1 := ((B_0.on y1).alloc (.cells #[.slice Ax nx cx, .int .i64 (L.length : Nat)] 24)).alloc (.cells #[.int .i64 0, .int .i64 0] 26)
  have RX_1 := ((Rx).alloc (.cells #[.slice Ax nx cx, .int .i64 (L.length : Nat)] 24)).alloc (.cells #[.int .i64 0, .int .i64 0] 26)
  have X_1 := ((Two.new w1 24 (.slice Ax nx cx) (.int .i64 (L.length : Nat)))).alloc (.cells #[.int .i64 0, .int .i64 0] 26)
  have F_1 := (Two.new1 w1 (.cells #[.slice Ax nx cx, .int .i64 (L.length : Nat)] 24) 26 (.int .i64 0) (.int .i64 0))
  clear R_0 B_0 B_0_c0 B_0_c1
  have z1 := Z0.trans (y1.mono Z0.size)
  have Z1 := ((z1).alloc (by have := z1.size; omega) (.cells #[.slice Ax nx cx, .int .i64 (L.length : Nat)] 24)).alloc (by have := z1.size; simp; omega) (.cells #[.int .i64 0, .int .i64 0] 26)
  have B_1_c0 := B_1.c0
  have B_1_c1 := B_1.c1
  have X_1_c0 := X_1.c0
  have X_1_c1 := X_1.c1
  have F_1_c0 := F_1.c0
  have F_1_c1 := F_1.c1
  go_wp2_with fail
  refine (HRG.out _ R_1).mono ?_
  rintro e w2 ⟨rfl, y2⟩
  have R_2 := (R_1.on y2).alloc (.cells #[.int .i64 0, .int .i64 0] 26)
  have B_2 := (B_1.on y2).alloc (.cells #[.int .i64 0, .int .i64 0] 26)
  have RX_2 := (RX_1.on y2).alloc (.cells #[.int .i64 0, .int .i64 0] 26)
  have X_2 := (X_1.on y2).alloc (.cells #[.int .i64 0, .int .i64 0] 26)
  have F_2 := (F_1.on y2).alloc (.cells #[.int .i64 0, .int .i64 0] 26)
  have G_2 := (Two.new w2 26 (.int .i64 0) (.int .i64 0))
  clear R_1 B_1 B_1_c0 B_1_c1 RX_1 X_1 X_1_c0 X_1_c1 F_1 F_1_c0 F_1_c1
  have z2 := Z1.trans (y2.mono Z1.size)
  have Z2 := (z2).alloc (by have := z2.size; omega) (.cells #[.int .i64 0, .int .i64 0] 26)
  have B_2_c0 := B_2.c0
  have B_2_c1 := B_2.c1
  have X_2_c0 := X_2.c0
  have X_2_c1 := X_2.c1
  have F_2_c0 := F_2.c0
  have F_2_c1 := F_2.c1
  have G_2_c0 := G_2.c0
  have G_2_c1 := G_2.c1
  go_wp2_with fail
  refine (strings_true _).mono ?_
  rintro e w3 ⟨rfl, y3⟩
  have R_3 := R_2.on y3
  have B_3 := B_2.on y3
  have RX_3 := RX_2.on y3
  have X_3 := X_2.on y3
  have F_3 := F_2.on y3
  have G_3 := G_2.on y3
  clear R_2 B_2 B_2_c0 B_2_c1 RX_2 X_2 X_2_c0 X_2_c1 F_2 F_2_c0 F_2_c1 G_2 G_2_c0 G_2_c1
  have z3 := Z2.trans (y3.mono Z2.size)
  have Z3 := z3
  have B_3_c0 := B_3.c0
  have B_3_c1 := B_3.c1
  have X_3_c0 := X_3.c0
  have X_3_c1 := X_3.c1
  have F_3_c0 := F_3.c0
  have F_3_c1 := F_3.c1
  have G_3_c0 := G_3.c0
  have G_3_c1 := G_3.c1
  go_wp2_with fail
  refine (api_gsize hx1 hx2).mono ?_
  rintro e w9_1 ⟨rfl, rfl⟩
  go_wp2_with fail
  refine (HG.out _).mono ?_
  rintro e w4 ⟨Ag, cg, rfl, og, y4⟩
  have R_4 := R_3.on y4
  have B_4 := B_3.on y4
  have RX_4 := RX_3.on y4
  have X_4 := X_3.on y4
  have F_4 := F_3.on y4
  have G_4 := G_3.on y4
  clear R_3 B_3 B_3_c0 B_3_c1 RX_3 X_3 X_3_c0 X_3_c1 F_3 F_3_c0 F_3_c1 G_3 G_3_c0 G_3_c1
  have z4 := Z3.trans (y4.mono Z3.size)
  have Z4 := z4
  have B_4_c0 := B_4.c0
  have B_4_c1 := B_4.c1
  have X_4_c0 := X_4.c0
  have X_4_c1 := X_4.c1
  have F_4_c0 := F_4.c0
  have F_4_c1 := F_4.c1
  have G_4_c0 := G_4.c0
  have G_4_c1 := G_4.c1
  go_wp2_with fail
  refine (refat_any _ _ _).mono ?_
  rintro e w5 ⟨rfl, y5⟩
  have R_5 := (R_4.on y5).alloc (.cells #[.int .i64 6, .int .i64 (-1)] 26)
  have B_5 := (B_4.on y5).alloc (.cells #[.int .i64 6, .int .i64 (-1)] 26)
  have RX_5 := (RX_4.on y5).alloc (.cells #[.int .i64 6, .int .i64 (-1)] 26)
  have X_5 := (X_4.on y5).alloc (.cells #[.int .i64 6, .int .i64 (-1)] 26)
  have F_5 := (F_4.on y5).alloc (.cells #[.int .i64 6, .int .i64 (-1)] 26)
  have G_5 := (G_4.on y5).alloc (.cells #[.int .i64 6, .int .i64 (-1)] 26)
  have R_b := R_4.on y5
  have B_b := B_4.on y5
  have RX_b := RX_4.on y5
  have X_b := X_4.on y5
  have F_b := F_4.on y5
  have G_b := G_4.on y5
  have W_5 := (Two.new w5 26 (.int .i64 6) (.int .i64 (-1)))
  clear R_4 B_4 B_4_c0 B_4_c1 RX_4 X_4 X_4_c0 X_4_c1 F_4 F_4_c0 F_4_c1 G_4 G_4_c0 G_4_c1
  have z5 := Z4.trans (y5.mono Z4.size)
  have Z5 := (z5).alloc (by have := z5.size; omega) (.cells #[.int .i64 6, .int .i64 (-1)] 26)
  have CW_5 := (Below.refl w5.heap.size w5).alloc (by simp) (.cells #[.int .i64 6, .int .i64 (-1)] 26)
  have B_5_c0 := B_5.c0
  have B_5_c1 := B_5.c1
  have X_5_c0 := X_5.c0
  have X_5_c1 := X_5.c1
  have F_5_c0 := F_5.c0
  have F_5_c1 := F_5.c1
  have G_5_c0 := G_5.c0
  have G_5_c1 := G_5.c1
  have W_5_c0 := W_5.c0
  have W_5_c1 := W_5.c1
  have W_5_f0 := W_5.f0
  have W_5_f1 := W_5.f1
  go_wp2_with fail
  refine (bitsok_any R_5 (pack_lt H01.out) (by omega) (by have := HLL.out; omega) true ⟨fun _ => HOK.out, fun _ => rfl⟩).mono ?_
  rintro e w6 ⟨rfl, y6⟩
  have R_6 := R_5.on y6
  have B_6 := B_5.on y6
  have RX_6 := RX_5.on y6
  have X_6 := X_5.on y6
  have F_6 := F_5.on y6
  have G_6 := G_5.on y6
  have W_6 := W_5.on y6
  clear R_5 B_5 B_5_c0 B_5_c1 RX_5 X_5 X_5_c0 X_5_c1 F_5 F_5_c0 F_5_c1 G_5 G_5_c0 G_5_c1 W_5 W_5_c0 W_5_c1 W_5_f0 W_5_f1
  have z6 := Z5.trans (y6.mono Z5.size)
  have Z6 := z6
  have cW6 := CW_5.trans (y6.mono CW_5.size)
  have CW_6 := cW6
  have B_6_c0 := B_6.c0
  have B_6_c1 := B_6.c1
  have X_6_c0 := X_6.c0
  have X_6_c1 := X_6.c1
  have F_6_c0 := F_6.c0
  have F_6_c1 := F_6.c1
  have G_6_c0 := G_6.c0
  have G_6_c1 := G_6.c1
  have W_6_c0 := W_6.c0
  have W_6_c1 := W_6.c1
  have W_6_f0 := W_6.f0
  have W_6_f1 := W_6.f1
  go_wp2_with fail
  refine (bits_any R_6 H01.out HLL.out _ rfl).mono ?_
  rintro e w7 ⟨Al, cl, rfl, hol, y7⟩
  have R_7 := R_6.on y7
  have B_7 := B_6.on y7
  have RX_7 := RX_6.on y7
  have X_7 := X_6.on y7
  have F_7 := F_6.on y7
  have G_7 := G_6.on y7
  have W_7 := W_6.on y7
  have L_7 := own_less hol CW_6.size
  clear R_6 B_6 B_6_c0 B_6_c1 RX_6 X_6 X_6_c0 X_6_c1 F_6 F_6_c0 F_6_c1 G_6 G_6_c0 G_6_c1 W_6 W_6_c0 W_6_c1 W_6_f0 W_6_f1
  have z7 := Z6.trans (y7.mono Z6.size)
  have Z7 := z7
  have cW7 := CW_6.trans (y7.mono CW_6.size)
  have CW_7 := cW7
  have B_7_c0 := B_7.c0
  have B_7_c1 := B_7.c1
  have X_7_c0 := X_7.c0
  have X_7_c1 := X_7.c1
  have F_7_c0 := F_7.c0
  have F_7_c1 := F_7.c1
  have G_7_c0 := G_7.c0
  have G_7_c1 := G_7.c1
  have W_7_c0 := W_7.c0
  have W_7_c1 := W_7.c1
  have W_7_f0 := W_7.f0
  have W_7_f1 := W_7.f1
  have CW_8 := (CW_7.setCell (p := ⟨w5.heap.size, 0, none⟩) (by simp) (.int .i64 0)).setCell (p := ⟨w5.heap.size, 1, none⟩) (by simp) (.int .i64 0)
  have Z8 := (Z7.setCell (p := ⟨w5.heap.size, 0, none⟩) (by have := z5.size; simp; omega) (.int .i64 0)).setCell (p := ⟨w5.heap.size, 1, none⟩) (by have := z5.size; simp; omega) (.int .i64 0)
  have R_8 := R_b.on CW_8
  have B_8 := B_b.on CW_8
  have RX_8 := RX_b.on CW_8
  have X_8 := X_b.on CW_8
  have F_8 := F_b.on CW_8
  have G_8 := G_b.on CW_8
  have W_8 := (W_7.set0 (.int .i64 0)).set1 (.int .i64 0)
  have L_8 := own_far_any (own_far_any L_7 (p := ⟨w5.heap.size, 0, none⟩) (own_two_ne L_7 W_7 (by decide)) (.int .i64 0)) (p := ⟨w5.heap.size, 1, none⟩) (own_two_ne L_7 W_7 (by decide)) (.int .i64 0)
  have B_8_c0 := B_8.c0
  have B_8_c1 := B_8.c1
  have X_8_c0 := X_8.c0
  have X_8_c1 := X_8.c1
  have F_8_c0 := F_8.c0
  have F_8_c1 := F_8.c1
  have G_8_c0 := G_8.c0
  have G_8_c1 := G_8.c1
  have W_8_c0 := W_8.c0
  have W_8_c1 := W_8.c1
  have W_8_f0 := W_8.f0
  have W_8_f1 := W_8.f1
  go_wp2_with fail
  refine (in_yes (x : Nat) 1 2147483647 _ (by omega) (by omega)).mono ?_
  rintro e w9_2 ⟨rfl, rfl⟩
  go_wp2_with fail
  refine (HG.out _).mono ?_
  rintro e w9 ⟨Ag2, cg2, rfl, og2, y9⟩
  have R_9 := R_8.on y9
  have B_9 := B_8.on y9
  have RX_9 := RX_8.on y9
  have X_9 := X_8.on y9
  have F_9 := F_8.on y9
  have G_9 := G_8.on y9
  have W_9 := W_8.on y9
  have L_9 := own_on L_8 y9
  clear R_7 B_7 B_7_c0 B_7_c1 RX_7 X_7 X_7_c0 X_7_c1 F_7 F_7_c0 F_7_c1 G_7 G_7_c0 G_7_c1 W_7 W_7_c0 W_7_c1 W_7_f0 W_7_f1 L_7 R_8 B_8 B_8_c0 B_8_c1 RX_8 X_8 X_8_c0 X_8_c1 F_8 F_8_c0 F_8_c1 G_8 G_8_c0 G_8_c1 W_8 W_8_c0 W_8_c1 W_8_f0 W_8_f1 L_8
  have z9 := Z8.trans (y9.mono Z8.size)
  have Z9 := z9
  have cW9 := CW_8.trans (y9.mono CW_8.size)
  have CW_9 := cW9
  have B_9_c0 := B_9.c0
  have B_9_c1 := B_9.c1
  have X_9_c0 := X_9.c0
  have X_9_c1 := X_9.c1
  have F_9_c0 := F_9.c0
  have F_9_c1 := F_9.c1
  have G_9_c0 := G_9.c0
  have G_9_c1 := G_9.c1
  have W_9_c0 := W_9.c0
  have W_9_c1 := W_9.c1
  have W_9_f0 := W_9.f0
  have W_9_f1 := W_9.f1
  go_wp2_with fail
  refine (in_yes (f : Nat) 0 (l.length : Nat) _ (by omega) (by omega)).mono ?_
  rintro e w9_3 ⟨rfl, rfl⟩
  go_wp2_with fail
  refine (gammaat_any (Rd.own L_9) H01.out (by have := HLL.out; omega) hf rfl HGA.out).mono ?_
  rintro e w9_4 ⟨rfl, rfl⟩
  go_wp2_with fail
  go_region_held3 (fun w' => w'.cell? ⟨w5.heap.size, 0, none⟩ = some (.int .i64 0) ∧ w'.cell? ⟨w5.heap.size, 1, none⟩ = some (.int .i64 0) ∧ w'.cell? ⟨w1.heap.size, 0, none⟩ = some (.slice Ax nx cx) ∧ w'.cell? ⟨w1.heap.size, 1, none⟩ = some (.int .i64 (L.length : Nat))) (go_keep) (first | (go_at_call 22; refine (HG.out _).mono ?_; rintro e w10 ⟨Ag3, cg3, rfl, og3, y10⟩; have Y10 : Below w9.heap.size w9.drew w10 := y10; have hol2 := own_on (w := w9.drew) L_9 y10; have W_10_c0 := ((Two.on (w := w9.drew) W_9 Y10)).c0; have W_10_c1 := ((Two.on (w := w9.drew) W_9 Y10)).c1; have X_10_c0 := ((Two.on (w := w9.drew) X_9 Y10)).c0; have X_10_c1 := ((Two.on (w := w9.drew) X_9 Y10)).c1) | (go_at_call 18; refine (packed_any _ HLN.out.symm (Rd.own hop) HL01.out (by have := HLB.out; omega)).mono ?_; rintro e w12 ⟨Ap, np, cp, rfl, RP, y12⟩; have W_12x := W_11x.on y12; have CC12 := CC11.trans (y12.mono CC11.size); have W_12_c0 := (W_12x).c0; have W_12_c1 := (W_12x).c1; have X_12_c0 := ((X_b.on CC12)).c0; have X_12_c1 := ((X_b.on CC12)).c1) | (go_at_call 17; refine (api_same (RX_b.on CC12) RP HL01.out HL01.out true (by simp) _ _ rfl (by have := HLN.out; omega)).mono ?_; rintro e w13 ⟨rfl, y13⟩; have W_13x := W_12x.on y13; have CC13 := CC12.trans (y13.mono CC12.size); have W_13_c0 := (W_13x).c0; have W_13_c1 := (W_13x).c1; have X_13_c0 := ((X_b.on CC13)).c0; have X_13_c1 := ((X_b.on CC13)).c1) | (refine step_append_want (by rfl) _ _ _ (by rfl) _ 3 i0 _ 8 Try.underlying35 hi hz0 hz1 hz2 (by rfl) _ _ _ (by rfl) hol2 _ _ (gsz x) cg3 _ (by rfl) (Rd.own og3) (ncells_one _) (by have := HLL.out; unfold maxLen; omega) (by have := HLL.out; omega) ((belowD CW_9).trans (Y10.mono (belowD CW_9).size)).size ?_; intro A11 c11 w11 ho11 hg11 hat11; have CC11 := below_grown ((belowD CW_9).trans (Y10.mono (belowD CW_9).size)) hol2 hg11 (Nat.le_refl _) ((belowD CW_9).trans (Y10.mono (belowD CW_9).size)).size; have W_11x := Two.grown (Two.on (w := w9.drew) W_9 Y10) hg11 (Ne.symm (own_two_ne hol2 (Two.on (w := w9.drew) W_9 Y10) (by decide))); rw [HNC.out] at ho11; have hop := ho11; clear ho11; have W_11_c0 := (W_11x).c0; have W_11_c1 := (W_11x).c1; have X_11_c0 := ((X_b.on CC11)).c0; have X_11_c1 := ((X_b.on CC11)).c1))
  have R_13 := (R_b.on CC13)
  have B_13 := (B_b.on CC13)
  have RX_13 := (RX_b.on CC13)
  have X_13 := (X_b.on CC13)
  have F_13 := (F_b.on CC13)
  have G_13 := (G_b.on CC13)
  have W_13 := W_13x
  have Z13 := z5.trans (CC13.mono z5.size)
  clear R_9 B_9 B_9_c0 B_9_c1 RX_9 X_9 X_9_c0 X_9_c1 F_9 F_9_c0 F_9_c1 G_9 G_9_c0 G_9_c1 W_9 W_9_c0 W_9_c1 W_9_f0 W_9_f1 L_9
  have B_13_c0 := B_13.c0
  have B_13_c1 := B_13.c1
  have X_13_c0 := X_13.c0
  have X_13_c1 := X_13.c1
  have F_13_c0 := F_13.c0
  have F_13_c1 := F_13.c1
  have G_13_c0 := G_13.c0
  have G_13_c1 := G_13.c1
  have W_13_c0 := W_13.c0
  have W_13_c1 := W_13.c1
  have W_13_f0 := W_13.f0
  have W_13_f1 := W_13.f1
  go_wp2
  go_ret
  exact ⟨rfl, Z13⟩
set_option maxRecDepth 100000 in
set_option maxHeartbeats 3200000 in
theorem gm_20 {A : Option Addr} {n c : Nat} {l : List Nat} (h01 : Is01 l) (hl : l.length ≤ 131072) {x : Nat} (hx1 : 1 ≤ x) (hx2 : x < 9223372036854775808) (hx : x ≤ 2147483647) (hs : 131072 < l.length + gsz x) {f : Int} (hf : f < 0 ∨ (l.length : Int) < f)  (w : World) (h : Rd w A n c (bcells (pack l))) :
    Calls Try.prog 4 #[.agg #[.slice A n c, .int .i64 (l.length : Nat)], .int .i64 (x : Nat), .int .i64 f] w fun e w' => e = .returned (.bool true) ∧ Below w.heap.size w w' := by
  obtain ⟨i0, hi, hz0, hz1, hz2⟩ := info_parts int_info
  have H01 := Lib.hid h01
  have HLL := Lib.hid hl
  have HOK := Lib.hid (Ok.of_list h01 hl)
  clear h01
  have hgz : gsz x ≤ 125 := by have := bitLen_le64 x (by omega); unfold gsz; omega
  have HG := Lib.hid (fun W => gammaref_any x _ rfl hx1 hx2 W)
  have HRG := Lib.hid (show ∀ W, Rd W A n c (bcells (pack l)) → Calls Try.prog 20 #[.agg #[.slice A n c, .int .i64 (l.length : Nat)], .int .i64 f] W fun e w' => e = .returned (.tuple #[.int .i64 0, .int .i64 0, .agg #[.int .i64 4, .int .i64 (-2)]]) ∧ Below W.heap.size W w' from fun W hW => by
    rcases hf with hf | hf
    · exact rgamma_low A n c l f _ W hW (Nat.le_refl _) H01.out HLL.out hf
    · exact rgamma_high A n c l f _ W hW (Nat.le_refl _) H01.out HLL.out hf)
  have HF := Lib.hid hf
  clear hf
  have R_0 := (h).alloc (.cells #[.slice A n c, .int .i64 (l.length : Nat)] 24)
  have B_0 := (Two.new w 24 (.slice A n c) (.int .i64 (l.length : Nat)))
  have Z0 := (Below.refl w.heap.size w).alloc (by simp) (.cells #[.slice A n c, .int .i64 (l.length : Nat)] 24)
  have B_0_c0 := B_0.c0
  have B_0_c1 := B_0.c1
  go_enter Try.func4, Try.ntmps4
  go_wp2_with fail
  refine (agamma_large A n c l x _ _ R_0 (Nat.le_refl _) H01.out HLL.out hx1 hx hs).mono ?_
  unfold flt noBits
  rintro e w1 ⟨rfl, y1⟩
  have R_1 := ((R_0.on y1).alloc (.cells #[.slice none 0 0, .int .i64 0] 24)).alloc (.cells #[.int .i64 14, .int .i64 (-1)] 26)
  have B_1 := ((B_0.on y1).alloc (.cells #[.slice none 0 0, .int .i64 0] 24)).alloc (.cells #[.int .i64 14, .int .i64 (-1)] 26)
  have RX_1 := ((Rd.none_ w1).alloc (.cells #[.slice none 0 0, .int .i64 0] 24)).alloc (.cells #[.int .i64 14, .int .i64 (-1)] 26)
  have X_1 := ((Two.new w1 24 (.slice none 0 0) (.int .i64 0))).alloc (.cells #[.int .i64 14, .int .i64 (-1)] 26)
  have F_1 := (Two.new1 w1 (.cells #[.slice none 0 0, .int .i64 0] 24) 26 (.int .i64 14) (.int .i64 (-1)))
  clear R_0 B_0 B_0_c0 B_0_c1
  have z1 := Z0.trans (y1.mono Z0.size)
  have Z1 := ((z1).alloc (by have := z1.size; omega) (.cells #[.slice none 0 0, .int .i64 0] 24)).alloc (by have := z1.size; simp; omega) (.cells #[.int .i64 14, .int .i64 (-1)] 26)
  have B_1_c0 := B_1.c0
  have B_1_c1 := B_1.c1
  have X_1_c0 := X_1.c0
  have X_1_c1 := X_1.c1
  have F_1_c0 := F_1.c0
  have F_1_c1 := F_1.c1
  go_wp2_with fail
  refine (HRG.out _ R_1).mono ?_
  rintro e w2 ⟨rfl, y2⟩
  have R_2 := (R_1.on y2).alloc (.cells #[.int .i64 4, .int .i64 (-2)] 26)
  have B_2 := (B_1.on y2).alloc (.cells #[.int .i64 4, .int .i64 (-2)] 26)
  have RX_2 := (RX_1.on y2).alloc (.cells #[.int .i64 4, .int .i64 (-2)] 26)
  have X_2 := (X_1.on y2).alloc (.cells #[.int .i64 4, .int .i64 (-2)] 26)
  have F_2 := (F_1.on y2).alloc (.cells #[.int .i64 4, .int .i64 (-2)] 26)
  have G_2 := (Two.new w2 26 (.int .i64 4) (.int .i64 (-2)))
  clear R_1 B_1 B_1_c0 B_1_c1 RX_1 X_1 X_1_c0 X_1_c1 F_1 F_1_c0 F_1_c1
  have z2 := Z1.trans (y2.mono Z1.size)
  have Z2 := (z2).alloc (by have := z2.size; omega) (.cells #[.int .i64 4, .int .i64 (-2)] 26)
  have B_2_c0 := B_2.c0
  have B_2_c1 := B_2.c1
  have X_2_c0 := X_2.c0
  have X_2_c1 := X_2.c1
  have F_2_c0 := F_2.c0
  have F_2_c1 := F_2.c1
  have G_2_c0 := G_2.c0
  have G_2_c1 := G_2.c1
  go_wp2_with fail
  refine (strings_true _).mono ?_
  rintro e w3 ⟨rfl, y3⟩
  have R_3 := R_2.on y3
  have B_3 := B_2.on y3
  have RX_3 := RX_2.on y3
  have X_3 := X_2.on y3
  have F_3 := F_2.on y3
  have G_3 := G_2.on y3
  clear R_2 B_2 B_2_c0 B_2_c1 RX_2 X_2 X_2_c0 X_2_c1 F_2 F_2_c0 F_2_c1 G_2 G_2_c0 G_2_c1
  have z3 := Z2.trans (y3.mono Z2.size)
  have Z3 := z3
  have B_3_c0 := B_3.c0
  have B_3_c1 := B_3.c1
  have X_3_c0 := X_3.c0
  have X_3_c1 := X_3.c1
  have F_3_c0 := F_3.c0
  have F_3_c1 := F_3.c1
  have G_3_c0 := G_3.c0
  have G_3_c1 := G_3.c1
  go_wp2_with fail
  refine (api_gsize hx1 hx2).mono ?_
  rintro e w9_1 ⟨rfl, rfl⟩
  go_wp2_with fail
  refine (HG.out _).mono ?_
  rintro e w4 ⟨Ag, cg, rfl, og, y4⟩
  have R_4 := R_3.on y4
  have B_4 := B_3.on y4
  have RX_4 := RX_3.on y4
  have X_4 := X_3.on y4
  have F_4 := F_3.on y4
  have G_4 := G_3.on y4
  clear R_3 B_3 B_3_c0 B_3_c1 RX_3 X_3 X_3_c0 X_3_c1 F_3 F_3_c0 F_3_c1 G_3 G_3_c0 G_3_c1
  have z4 := Z3.trans (y4.mono Z3.size)
  have Z4 := z4
  have B_4_c0 := B_4.c0
  have B_4_c1 := B_4.c1
  have X_4_c0 := X_4.c0
  have X_4_c1 := X_4.c1
  have F_4_c0 := F_4.c0
  have F_4_c1 := F_4.c1
  have G_4_c0 := G_4.c0
  have G_4_c1 := G_4.c1
  go_wp2_with fail
  refine (refat_any _ _ _).mono ?_
  rintro e w5 ⟨rfl, y5⟩
  have R_5 := (R_4.on y5).alloc (.cells #[.int .i64 6, .int .i64 (-1)] 26)
  have B_5 := (B_4.on y5).alloc (.cells #[.int .i64 6, .int .i64 (-1)] 26)
  have RX_5 := (RX_4.on y5).alloc (.cells #[.int .i64 6, .int .i64 (-1)] 26)
  have X_5 := (X_4.on y5).alloc (.cells #[.int .i64 6, .int .i64 (-1)] 26)
  have F_5 := (F_4.on y5).alloc (.cells #[.int .i64 6, .int .i64 (-1)] 26)
  have G_5 := (G_4.on y5).alloc (.cells #[.int .i64 6, .int .i64 (-1)] 26)
  have R_b := R_4.on y5
  have B_b := B_4.on y5
  have RX_b := RX_4.on y5
  have X_b := X_4.on y5
  have F_b := F_4.on y5
  have G_b := G_4.on y5
  have W_5 := (Two.new w5 26 (.int .i64 6) (.int .i64 (-1)))
  clear R_4 B_4 B_4_c0 B_4_c1 RX_4 X_4 X_4_c0 X_4_c1 F_4 F_4_c0 F_4_c1 G_4 G_4_c0 G_4_c1
  have z5 := Z4.trans (y5.mono Z4.size)
  have Z5 := (z5).alloc (by have := z5.size; omega) (.cells #[.int .i64 6, .int .i64 (-1)] 26)
  have CW_5 := (Below.refl w5.heap.size w5).alloc (by simp) (.cells #[.int .i64 6, .int .i64 (-1)] 26)
  have B_5_c0 := B_5.c0
  have B_5_c1 := B_5.c1
  have X_5_c0 := X_5.c0
  have X_5_c1 := X_5.c1
  have F_5_c0 := F_5.c0
  have F_5_c1 := F_5.c1
  have G_5_c0 := G_5.c0
  have G_5_c1 := G_5.c1
  have W_5_c0 := W_5.c0
  have W_5_c1 := W_5.c1
  have W_5_f0 := W_5.f0
  have W_5_f1 := W_5.f1
  go_wp2_with fail
  refine (bitsok_any R_5 (pack_lt H01.out) (by omega) (by have := HLL.out; omega) true ⟨fun _ => HOK.out, fun _ => rfl⟩).mono ?_
  rintro e w6 ⟨rfl, y6⟩
  have R_6 := R_5.on y6
  have B_6 := B_5.on y6
  have RX_6 := RX_5.on y6
  have X_6 := X_5.on y6
  have F_6 := F_5.on y6
  have G_6 := G_5.on y6
  have W_6 := W_5.on y6
  clear R_5 B_5 B_5_c0 B_5_c1 RX_5 X_5 X_5_c0 X_5_c1 F_5 F_5_c0 F_5_c1 G_5 G_5_c0 G_5_c1 W_5 W_5_c0 W_5_c1 W_5_f0 W_5_f1
  have z6 := Z5.trans (y6.mono Z5.size)
  have Z6 := z6
  have cW6 := CW_5.trans (y6.mono CW_5.size)
  have CW_6 := cW6
  have B_6_c0 := B_6.c0
  have B_6_c1 := B_6.c1
  have X_6_c0 := X_6.c0
  have X_6_c1 := X_6.c1
  have F_6_c0 := F_6.c0
  have F_6_c1 := F_6.c1
  have G_6_c0 := G_6.c0
  have G_6_c1 := G_6.c1
  have W_6_c0 := W_6.c0
  have W_6_c1 := W_6.c1
  have W_6_f0 := W_6.f0
  have W_6_f1 := W_6.f1
  go_wp2_with fail
  refine (bits_any R_6 H01.out HLL.out _ rfl).mono ?_
  rintro e w7 ⟨Al, cl, rfl, hol, y7⟩
  have R_7 := R_6.on y7
  have B_7 := B_6.on y7
  have RX_7 := RX_6.on y7
  have X_7 := X_6.on y7
  have F_7 := F_6.on y7
  have G_7 := G_6.on y7
  have W_7 := W_6.on y7
  have L_7 := own_less hol CW_6.size
  clear R_6 B_6 B_6_c0 B_6_c1 RX_6 X_6 X_6_c0 X_6_c1 F_6 F_6_c0 F_6_c1 G_6 G_6_c0 G_6_c1 W_6 W_6_c0 W_6_c1 W_6_f0 W_6_f1
  have z7 := Z6.trans (y7.mono Z6.size)
  have Z7 := z7
  have cW7 := CW_6.trans (y7.mono CW_6.size)
  have CW_7 := cW7
  have B_7_c0 := B_7.c0
  have B_7_c1 := B_7.c1
  have X_7_c0 := X_7.c0
  have X_7_c1 := X_7.c1
  have F_7_c0 := F_7.c0
  have F_7_c1 := F_7.c1
  have G_7_c0 := G_7.c0
  have G_7_c1 := G_7.c1
  have W_7_c0 := W_7.c0
  have W_7_c1 := W_7.c1
  have W_7_f0 := W_7.f0
  have W_7_f1 := W_7.f1
  have CW_8 := (CW_7.setCell (p := ⟨w5.heap.size, 0, none⟩) (by simp) (.int .i64 0)).setCell (p := ⟨w5.heap.size, 1, none⟩) (by simp) (.int .i64 0)
  have Z8 := (Z7.setCell (p := ⟨w5.heap.size, 0, none⟩) (by have := z5.size; simp; omega) (.int .i64 0)).setCell (p := ⟨w5.heap.size, 1, none⟩) (by have := z5.size; simp; omega) (.int .i64 0)
  have R_8 := R_b.on CW_8
  have B_8 := B_b.on CW_8
  have RX_8 := RX_b.on CW_8
  have X_8 := X_b.on CW_8
  have F_8 := F_b.on CW_8
  have G_8 := G_b.on CW_8
  have W_8 := (W_7.set0 (.int .i64 0)).set1 (.int .i64 0)
  have L_8 := own_far_any (own_far_any L_7 (p := ⟨w5.heap.size, 0, none⟩) (own_two_ne L_7 W_7 (by decide)) (.int .i64 0)) (p := ⟨w5.heap.size, 1, none⟩) (own_two_ne L_7 W_7 (by decide)) (.int .i64 0)
  have B_8_c0 := B_8.c0
  have B_8_c1 := B_8.c1
  have X_8_c0 := X_8.c0
  have X_8_c1 := X_8.c1
  have F_8_c0 := F_8.c0
  have F_8_c1 := F_8.c1
  have G_8_c0 := G_8.c0
  have G_8_c1 := G_8.c1
  have W_8_c0 := W_8.c0
  have W_8_c1 := W_8.c1
  have W_8_f0 := W_8.f0
  have W_8_f1 := W_8.f1
  go_wp2_with fail
  refine (in_yes (x : Nat) 1 2147483647 _ (by omega) (by omega)).mono ?_
  rintro e w9_2 ⟨rfl, rfl⟩
  go_wp2_with fail
  refine (HG.out _).mono ?_
  rintro e w9 ⟨Ag2, cg2, rfl, og2, y9⟩
  have R_9 := R_8.on y9
  have B_9 := B_8.on y9
  have RX_9 := RX_8.on y9
  have X_9 := X_8.on y9
  have F_9 := F_8.on y9
  have G_9 := G_8.on y9
  have W_9 := W_8.on y9
  have L_9 := own_on L_8 y9
  clear R_7 B_7 B_7_c0 B_7_c1 RX_7 X_7 X_7_c0 X_7_c1 F_7 F_7_c0 F_7_c1 G_7 G_7_c0 G_7_c1 W_7 W_7_c0 W_7_c1 W_7_f0 W_7_f1 L_7 R_8 B_8 B_8_c0 B_8_c1 RX_8 X_8 X_8_c0 X_8_c1 F_8 F_8_c0 F_8_c1 G_8 G_8_c0 G_8_c1 W_8 W_8_c0 W_8_c1 W_8_f0 W_8_f1 L_8
  have z9 := Z8.trans (y9.mono Z8.size)
  have Z9 := z9
  have cW9 := CW_8.trans (y9.mono CW_8.size)
  have CW_9 := cW9
  have B_9_c0 := B_9.c0
  have B_9_c1 := B_9.c1
  have X_9_c0 := X_9.c0
  have X_9_c1 := X_9.c1
  have F_9_c0 := F_9.c0
  have F_9_c1 := F_9.c1
  have G_9_c0 := G_9.c0
  have G_9_c1 := G_9.c1
  have W_9_c0 := W_9.c0
  have W_9_c1 := W_9.c1
  have W_9_f0 := W_9.f0
  have W_9_f1 := W_9.f1
  go_wp2_with fail
  refine (refat_any _ _ _).mono ?_
  rintro e w10 ⟨rfl, y10⟩
  have R_10 := R_9.on y10
  have B_10 := B_9.on y10
  have RX_10 := RX_9.on y10
  have X_10 := X_9.on y10
  have F_10 := F_9.on y10
  have G_10 := G_9.on y10
  have W_10 := W_9.on y10
  have L_10 := own_on L_9 y10
  clear R_9 B_9 B_9_c0 B_9_c1 RX_9 X_9 X_9_c0 X_9_c1 F_9 F_9_c0 F_9_c1 G_9 G_9_c0 G_9_c1 W_9 W_9_c0 W_9_c1 W_9_f0 W_9_f1 L_9
  have z10 := Z9.trans (y10.mono Z9.size)
  have Z10 := z10
  have cW10 := CW_9.trans (y10.mono CW_9.size)
  have CW_10 := cW10
  have B_10_c0 := B_10.c0
  have B_10_c1 := B_10.c1
  have X_10_c0 := X_10.c0
  have X_10_c1 := X_10.c1
  have F_10_c0 := F_10.c0
  have F_10_c1 := F_10.c1
  have G_10_c0 := G_10.c0
  have G_10_c1 := G_10.c1
  have W_10_c0 := W_10.c0
  have W_10_c1 := W_10.c1
  have W_10_f0 := W_10.f0
  have W_10_f1 := W_10.f1
  have CW_11 := (CW_10.setCell (p := ⟨w5.heap.size, 0, none⟩) (by simp) (.int .i64 14)).setCell (p := ⟨w5.heap.size, 1, none⟩) (by simp) (.int .i64 (-1))
  have Z11 := (Z10.setCell (p := ⟨w5.heap.size, 0, none⟩) (by have := z5.size; simp; omega) (.int .i64 14)).setCell (p := ⟨w5.heap.size, 1, none⟩) (by have := z5.size; simp; omega) (.int .i64 (-1))
  have R_11 := R_b.on CW_11
  have B_11 := B_b.on CW_11
  have RX_11 := RX_b.on CW_11
  have X_11 := X_b.on CW_11
  have F_11 := F_b.on CW_11
  have G_11 := G_b.on CW_11
  have W_11 := (W_10.set0 (.int .i64 14)).set1 (.int .i64 (-1))
  have L_11 := own_far_any (own_far_any L_10 (p := ⟨w5.heap.size, 0, none⟩) (own_two_ne L_10 W_10 (by decide)) (.int .i64 14)) (p := ⟨w5.heap.size, 1, none⟩) (own_two_ne L_10 W_10 (by decide)) (.int .i64 (-1))
  have B_11_c0 := B_11.c0
  have B_11_c1 := B_11.c1
  have X_11_c0 := X_11.c0
  have X_11_c1 := X_11.c1
  have F_11_c0 := F_11.c0
  have F_11_c1 := F_11.c1
  have G_11_c0 := G_11.c0
  have G_11_c1 := G_11.c1
  have W_11_c0 := W_11.c0
  have W_11_c1 := W_11.c1
  have W_11_f0 := W_11.f0
  have W_11_f1 := W_11.f1
  go_wp2_with fail
  refine (api_same (l := []) (l2 := []) RX_11 (Rd.none_ _) Is01.nil Is01.nil true (by decide) _ _ rfl rfl).mono ?_
  rintro e w12 ⟨rfl, y12⟩
  have R_12 := R_11.on y12
  have B_12 := B_11.on y12
  have RX_12 := RX_11.on y12
  have X_12 := X_11.on y12
  have F_12 := F_11.on y12
  have G_12 := G_11.on y12
  have W_12 := W_11.on y12
  have L_12 := own_on L_11 y12
  clear R_10 B_10 B_10_c0 B_10_c1 RX_10 X_10 X_10_c0 X_10_c1 F_10 F_10_c0 F_10_c1 G_10 G_10_c0 G_10_c1 W_10 W_10_c0 W_10_c1 W_10_f0 W_10_f1 L_10 R_11 B_11 B_11_c0 B_11_c1 RX_11 X_11 X_11_c0 X_11_c1 F_11 F_11_c0 F_11_c1 G_11 G_11_c0 G_11_c1 W_11 W_11_c0 W_11_c1 W_11_f0 W_11_f1 L_11
  have z12 := Z11.trans (y12.mono Z11.size)
  have Z12 := z12
  have cW12 := CW_11.trans (y12.mono CW_11.size)
  have CW_12 := cW12
  have B_12_c0 := B_12.c0
  have B_12_c1 := B_12.c1
  have X_12_c0 := X_12.c0
  have X_12_c1 := X_12.c1
  have F_12_c0 := F_12.c0
  have F_12_c1 := F_12.c1
  have G_12_c0 := G_12.c0
  have G_12_c1 := G_12.c1
  have W_12_c0 := W_12.c0
  have W_12_c1 := W_12.c1
  have W_12_f0 := W_12.f0
  have W_12_f1 := W_12.f1
  go_wp2_with fail
  refine (in_no _ 0 (l.length : Nat) _ HF.out).mono ?_
  rintro e w9_3 ⟨rfl, rfl⟩
  go_wp2_with fail
  go_region_held3 (fun w' => w'.cell? ⟨w2.heap.size, 0, none⟩ = some (.int .i64 4) ∧ w'.cell? ⟨w2.heap.size, 1, none⟩ = some (.int .i64 (-2))) (go_keep) ((go_at_call 16; refine (refat_any _ _ _).mono ?_; rintro e w13 ⟨rfl, y13⟩; have Y13 : Below w12.heap.size w12.drew w13 := y13; have G_13_c0 := ((Two.on (w := w12.drew) G_12 Y13)).c0; have G_13_c1 := ((Two.on (w := w12.drew) G_12 Y13)).c1))
  have R_13 := (Rd.on (w := w12.drew) R_12 Y13)
  have B_13 := (Two.on (w := w12.drew) B_12 Y13)
  have RX_13 := (Rd.on (w := w12.drew) RX_12 Y13)
  have X_13 := (Two.on (w := w12.drew) X_12 Y13)
  have F_13 := (Two.on (w := w12.drew) F_12 Y13)
  have G_13 := (Two.on (w := w12.drew) G_12 Y13)
  have W_13 := (Two.on (w := w12.drew) W_12 Y13)
  have L_13 := (own_on (w := w12.drew) L_12 Y13)
  have Z13 := (belowD Z12).trans (Y13.mono (belowD Z12).size)
  have CW_13 := (belowD CW_12).trans (Y13.mono (belowD CW_12).size)
  clear G_13_c0 G_13_c1
  clear R_12 B_12 B_12_c0 B_12_c1 RX_12 X_12 X_12_c0 X_12_c1 F_12 F_12_c0 F_12_c1 G_12 G_12_c0 G_12_c1 W_12 W_12_c0 W_12_c1 W_12_f0 W_12_f1 L_12
  have B_13_c0 := B_13.c0
  have B_13_c1 := B_13.c1
  have X_13_c0 := X_13.c0
  have X_13_c1 := X_13.c1
  have F_13_c0 := F_13.c0
  have F_13_c1 := F_13.c1
  have G_13_c0 := G_13.c0
  have G_13_c1 := G_13.c1
  have W_13_c0 := W_13.c0
  have W_13_c1 := W_13.c1
  have W_13_f0 := W_13.f0
  have W_13_f1 := W_13.f1
  go_wp2
  go_ret
  exact ⟨rfl, Z13⟩
set_option maxRecDepth 100000 in
set_option maxHeartbeats 3200000 in
theorem gm_21 {A : Option Addr} {n c : Nat} {l : List Nat} (h01 : Is01 l) (hl : l.length ≤ 131072) {x : Nat} (hx1 : 1 ≤ x) (hx2 : x < 9223372036854775808) (hx : x ≤ 2147483647) (hs : 131072 < l.length + gsz x) {f : Nat} (hf : f ≤ l.length) {cd : Nat} (hG : GAt l f 0 0 cd) (hc : cd ≠ 0)  (w : World) (h : Rd w A n c (bcells (pack l))) :
    Calls Try.prog 4 #[.agg #[.slice A n c, .int .i64 (l.length : Nat)], .int .i64 (x : Nat), .int .i64 (f : Nat)] w fun e w' => e = .returned (.bool true) ∧ Below w.heap.size w w' := by
  obtain ⟨i0, hi, hz0, hz1, hz2⟩ := info_parts int_info
  have H01 := Lib.hid h01
  have HLL := Lib.hid hl
  have HOK := Lib.hid (Ok.of_list h01 hl)
  clear h01
  have hgz : gsz x ≤ 125 := by have := bitLen_le64 x (by omega); unfold gsz; omega
  have HG := Lib.hid (fun W => gammaref_any x _ rfl hx1 hx2 W)
  have hc1 : ((cd : Int) != 0) = true := by rw [bne_iff_ne]; omega
  have hc2 : ((cd : Int) == 0) = false := by rw [beq_eq_false_iff_ne]; omega
  have HRG := Lib.hid (fun W (hW : Rd W A n c (bcells (pack l))) => rg_bad hW H01.out HLL.out hf hG hc)
  have HGA := Lib.hid hG
  clear hG hc
  have R_0 := (h).alloc (.cells #[.slice A n c, .int .i64 (l.length : Nat)] 24)
  have B_0 := (Two.new w 24 (.slice A n c) (.int .i64 (l.length : Nat)))
  have Z0 := (Below.refl w.heap.size w).alloc (by simp) (.cells #[.slice A n c, .int .i64 (l.length : Nat)] 24)
  have B_0_c0 := B_0.c0
  have B_0_c1 := B_0.c1
  go_enter Try.func4, Try.ntmps4
  go_wp2_with fail
  refine (agamma_large A n c l x _ _ R_0 (Nat.le_refl _) H01.out HLL.out hx1 hx hs).mono ?_
  unfold flt noBits
  rintro e w1 ⟨rfl, y1⟩
  have R_1 := ((R_0.on y1).alloc (.cells #[.slice none 0 0, .int .i64 0] 24)).alloc (.cells #[.int .i64 14, .int .i64 (-1)] 26)
  have B_1 := ((B_0.on y1).alloc (.cells #[.slice none 0 0, .int .i64 0] 24)).alloc (.cells #[.int .i64 14, .int .i64 (-1)] 26)
  have RX_1 := ((Rd.none_ w1).alloc (.cells #[.slice none 0 0, .int .i64 0] 24)).alloc (.cells #[.int .i64 14, .int .i64 (-1)] 26)
  have X_1 := ((Two.new w1 24 (.slice none 0 0) (.int .i64 0))).alloc (.cells #[.int .i64 14, .int .i64 (-1)] 26)
  have F_1 := (Two.new1 w1 (.cells #[.slice none 0 0, .int .i64 0] 24) 26 (.int .i64 14) (.int .i64 (-1)))
  clear R_0 B_0 B_0_c0 B_0_c1
  have z1 := Z0.trans (y1.mono Z0.size)
  have Z1 := ((z1).alloc (by have := z1.size; omega) (.cells #[.slice none 0 0, .int .i64 0] 24)).alloc (by have := z1.size; simp; omega) (.cells #[.int .i64 14, .int .i64 (-1)] 26)
  have B_1_c0 := B_1.c0
  have B_1_c1 := B_1.c1
  have X_1_c0 := X_1.c0
  have X_1_c1 := X_1.c1
  have F_1_c0 := F_1.c0
  have F_1_c1 := F_1.c1
  go_wp2_with fail
  refine (HRG.out _ R_1).mono ?_
  rintro e w2 ⟨rfl, y2⟩
  have R_2 := (R_1.on y2).alloc (.cells #[.int .i64 (cd : Nat), .int .i64 (-2)] 26)
  have B_2 := (B_1.on y2).alloc (.cells #[.int .i64 (cd : Nat), .int .i64 (-2)] 26)
  have RX_2 := (RX_1.on y2).alloc (.cells #[.int .i64 (cd : Nat), .int .i64 (-2)] 26)
  have X_2 := (X_1.on y2).alloc (.cells #[.int .i64 (cd : Nat), .int .i64 (-2)] 26)
  have F_2 := (F_1.on y2).alloc (.cells #[.int .i64 (cd : Nat), .int .i64 (-2)] 26)
  have G_2 := (Two.new w2 26 (.int .i64 (cd : Nat)) (.int .i64 (-2)))
  clear R_1 B_1 B_1_c0 B_1_c1 RX_1 X_1 X_1_c0 X_1_c1 F_1 F_1_c0 F_1_c1
  have z2 := Z1.trans (y2.mono Z1.size)
  have Z2 := (z2).alloc (by have := z2.size; omega) (.cells #[.int .i64 (cd : Nat), .int .i64 (-2)] 26)
  have B_2_c0 := B_2.c0
  have B_2_c1 := B_2.c1
  have X_2_c0 := X_2.c0
  have X_2_c1 := X_2.c1
  have F_2_c0 := F_2.c0
  have F_2_c1 := F_2.c1
  have G_2_c0 := G_2.c0
  have G_2_c1 := G_2.c1
  go_wp2_with fail
  refine (strings_true _).mono ?_
  rintro e w3 ⟨rfl, y3⟩
  have R_3 := R_2.on y3
  have B_3 := B_2.on y3
  have RX_3 := RX_2.on y3
  have X_3 := X_2.on y3
  have F_3 := F_2.on y3
  have G_3 := G_2.on y3
  clear R_2 B_2 B_2_c0 B_2_c1 RX_2 X_2 X_2_c0 X_2_c1 F_2 F_2_c0 F_2_c1 G_2 G_2_c0 G_2_c1
  have z3 := Z2.trans (y3.mono Z2.size)
  have Z3 := z3
  have B_3_c0 := B_3.c0
  have B_3_c1 := B_3.c1
  have X_3_c0 := X_3.c0
  have X_3_c1 := X_3.c1
  have F_3_c0 := F_3.c0
  have F_3_c1 := F_3.c1
  have G_3_c0 := G_3.c0
  have G_3_c1 := G_3.c1
  go_wp2_with fail
  refine (api_gsize hx1 hx2).mono ?_
  rintro e w9_1 ⟨rfl, rfl⟩
  go_wp2_with fail
  refine (HG.out _).mono ?_
  rintro e w4 ⟨Ag, cg, rfl, og, y4⟩
  have R_4 := R_3.on y4
  have B_4 := B_3.on y4
  have RX_4 := RX_3.on y4
  have X_4 := X_3.on y4
  have F_4 := F_3.on y4
  have G_4 := G_3.on y4
  clear R_3 B_3 B_3_c0 B_3_c1 RX_3 X_3 X_3_c0 X_3_c1 F_3 F_3_c0 F_3_c1 G_3 G_3_c0 G_3_c1
  have z4 := Z3.trans (y4.mono Z3.size)
  have Z4 := z4
  have B_4_c0 := B_4.c0
  have B_4_c1 := B_4.c1
  have X_4_c0 := X_4.c0
  have X_4_c1 := X_4.c1
  have F_4_c0 := F_4.c0
  have F_4_c1 := F_4.c1
  have G_4_c0 := G_4.c0
  have G_4_c1 := G_4.c1
  go_wp2_with fail
  refine (refat_any _ _ _).mono ?_
  rintro e w5 ⟨rfl, y5⟩
  have R_5 := (R_4.on y5).alloc (.cells #[.int .i64 6, .int .i64 (-1)] 26)
  have B_5 := (B_4.on y5).alloc (.cells #[.int .i64 6, .int .i64 (-1)] 26)
  have RX_5 := (RX_4.on y5).alloc (.cells #[.int .i64 6, .int .i64 (-1)] 26)
  have X_5 := (X_4.on y5).alloc (.cells #[.int .i64 6, .int .i64 (-1)] 26)
  have F_5 := (F_4.on y5).alloc (.cells #[.int .i64 6, .int .i64 (-1)] 26)
  have G_5 := (G_4.on y5).alloc (.cells #[.int .i64 6, .int .i64 (-1)] 26)
  have R_b := R_4.on y5
  have B_b := B_4.on y5
  have RX_b := RX_4.on y5
  have X_b := X_4.on y5
  have F_b := F_4.on y5
  have G_b := G_4.on y5
  have W_5 := (Two.new w5 26 (.int .i64 6) (.int .i64 (-1)))
  clear R_4 B_4 B_4_c0 B_4_c1 RX_4 X_4 X_4_c0 X_4_c1 F_4 F_4_c0 F_4_c1 G_4 G_4_c0 G_4_c1
  have z5 := Z4.trans (y5.mono Z4.size)
  have Z5 := (z5).alloc (by have := z5.size; omega) (.cells #[.int .i64 6, .int .i64 (-1)] 26)
  have CW_5 := (Below.refl w5.heap.size w5).alloc (by simp) (.cells #[.int .i64 6, .int .i64 (-1)] 26)
  have B_5_c0 := B_5.c0
  have B_5_c1 := B_5.c1
  have X_5_c0 := X_5.c0
  have X_5_c1 := X_5.c1
  have F_5_c0 := F_5.c0
  have F_5_c1 := F_5.c1
  have G_5_c0 := G_5.c0
  have G_5_c1 := G_5.c1
  have W_5_c0 := W_5.c0
  have W_5_c1 := W_5.c1
  have W_5_f0 := W_5.f0
  have W_5_f1 := W_5.f1
  go_wp2_with fail
  refine (bitsok_any R_5 (pack_lt H01.out) (by omega) (by have := HLL.out; omega) true ⟨fun _ => HOK.out, fun _ => rfl⟩).mono ?_
  rintro e w6 ⟨rfl, y6⟩
  have R_6 := R_5.on y6
  have B_6 := B_5.on y6
  have RX_6 := RX_5.on y6
  have X_6 := X_5.on y6
  have F_6 := F_5.on y6
  have G_6 := G_5.on y6
  have W_6 := W_5.on y6
  clear R_5 B_5 B_5_c0 B_5_c1 RX_5 X_5 X_5_c0 X_5_c1 F_5 F_5_c0 F_5_c1 G_5 G_5_c0 G_5_c1 W_5 W_5_c0 W_5_c1 W_5_f0 W_5_f1
  have z6 := Z5.trans (y6.mono Z5.size)
  have Z6 := z6
  have cW6 := CW_5.trans (y6.mono CW_5.size)
  have CW_6 := cW6
  have B_6_c0 := B_6.c0
  have B_6_c1 := B_6.c1
  have X_6_c0 := X_6.c0
  have X_6_c1 := X_6.c1
  have F_6_c0 := F_6.c0
  have F_6_c1 := F_6.c1
  have G_6_c0 := G_6.c0
  have G_6_c1 := G_6.c1
  have W_6_c0 := W_6.c0
  have W_6_c1 := W_6.c1
  have W_6_f0 := W_6.f0
  have W_6_f1 := W_6.f1
  go_wp2_with fail
  refine (bits_any R_6 H01.out HLL.out _ rfl).mono ?_
  rintro e w7 ⟨Al, cl, rfl, hol, y7⟩
  have R_7 := R_6.on y7
  have B_7 := B_6.on y7
  have RX_7 := RX_6.on y7
  have X_7 := X_6.on y7
  have F_7 := F_6.on y7
  have G_7 := G_6.on y7
  have W_7 := W_6.on y7
  have L_7 := own_less hol CW_6.size
  clear R_6 B_6 B_6_c0 B_6_c1 RX_6 X_6 X_6_c0 X_6_c1 F_6 F_6_c0 F_6_c1 G_6 G_6_c0 G_6_c1 W_6 W_6_c0 W_6_c1 W_6_f0 W_6_f1
  have z7 := Z6.trans (y7.mono Z6.size)
  have Z7 := z7
  have cW7 := CW_6.trans (y7.mono CW_6.size)
  have CW_7 := cW7
  have B_7_c0 := B_7.c0
  have B_7_c1 := B_7.c1
  have X_7_c0 := X_7.c0
  have X_7_c1 := X_7.c1
  have F_7_c0 := F_7.c0
  have F_7_c1 := F_7.c1
  have G_7_c0 := G_7.c0
  have G_7_c1 := G_7.c1
  have W_7_c0 := W_7.c0
  have W_7_c1 := W_7.c1
  have W_7_f0 := W_7.f0
  have W_7_f1 := W_7.f1
  have CW_8 := (CW_7.setCell (p := ⟨w5.heap.size, 0, none⟩) (by simp) (.int .i64 0)).setCell (p := ⟨w5.heap.size, 1, none⟩) (by simp) (.int .i64 0)
  have Z8 := (Z7.setCell (p := ⟨w5.heap.size, 0, none⟩) (by have := z5.size; simp; omega) (.int .i64 0)).setCell (p := ⟨w5.heap.size, 1, none⟩) (by have := z5.size; simp; omega) (.int .i64 0)
  have R_8 := R_b.on CW_8
  have B_8 := B_b.on CW_8
  have RX_8 := RX_b.on CW_8
  have X_8 := X_b.on CW_8
  have F_8 := F_b.on CW_8
  have G_8 := G_b.on CW_8
  have W_8 := (W_7.set0 (.int .i64 0)).set1 (.int .i64 0)
  have L_8 := own_far_any (own_far_any L_7 (p := ⟨w5.heap.size, 0, none⟩) (own_two_ne L_7 W_7 (by decide)) (.int .i64 0)) (p := ⟨w5.heap.size, 1, none⟩) (own_two_ne L_7 W_7 (by decide)) (.int .i64 0)
  have B_8_c0 := B_8.c0
  have B_8_c1 := B_8.c1
  have X_8_c0 := X_8.c0
  have X_8_c1 := X_8.c1
  have F_8_c0 := F_8.c0
  have F_8_c1 := F_8.c1
  have G_8_c0 := G_8.c0
  have G_8_c1 := G_8.c1
  have W_8_c0 := W_8.c0
  have W_8_c1 := W_8.c1
  have W_8_f0 := W_8.f0
  have W_8_f1 := W_8.f1
  go_wp2_with fail
  refine (in_yes (x : Nat) 1 2147483647 _ (by omega) (by omega)).mono ?_
  rintro e w9_2 ⟨rfl, rfl⟩
  go_wp2_with fail
  refine (HG.out _).mono ?_
  rintro e w9 ⟨Ag2, cg2, rfl, og2, y9⟩
  have R_9 := R_8.on y9
  have B_9 := B_8.on y9
  have RX_9 := RX_8.on y9
  have X_9 := X_8.on y9
  have F_9 := F_8.on y9
  have G_9 := G_8.on y9
  have W_9 := W_8.on y9
  have L_9 := own_on L_8 y9
  clear R_7 B_7 B_7_c0 B_7_c1 RX_7 X_7 X_7_c0 X_7_c1 F_7 F_7_c0 F_7_c1 G_7 G_7_c0 G_7_c1 W_7 W_7_c0 W_7_c1 W_7_f0 W_7_f1 L_7 R_8 B_8 B_8_c0 B_8_c1 RX_8 X_8 X_8_c0 X_8_c1 F_8 F_8_c0 F_8_c1 G_8 G_8_c0 G_8_c1 W_8 W_8_c0 W_8_c1 W_8_f0 W_8_f1 L_8
  have z9 := Z8.trans (y9.mono Z8.size)
  have Z9 := z9
  have cW9 := CW_8.trans (y9.mono CW_8.size)
  have CW_9 := cW9
  have B_9_c0 := B_9.c0
  have B_9_c1 := B_9.c1
  have X_9_c0 := X_9.c0
  have X_9_c1 := X_9.c1
  have F_9_c0 := F_9.c0
  have F_9_c1 := F_9.c1
  have G_9_c0 := G_9.c0
  have G_9_c1 := G_9.c1
  have W_9_c0 := W_9.c0
  have W_9_c1 := W_9.c1
  have W_9_f0 := W_9.f0
  have W_9_f1 := W_9.f1
  go_wp2_with fail
  refine (refat_any _ _ _).mono ?_
  rintro e w10 ⟨rfl, y10⟩
  have R_10 := R_9.on y10
  have B_10 := B_9.on y10
  have RX_10 := RX_9.on y10
  have X_10 := X_9.on y10
  have F_10 := F_9.on y10
  have G_10 := G_9.on y10
  have W_10 := W_9.on y10
  have L_10 := own_on L_9 y10
  clear R_9 B_9 B_9_c0 B_9_c1 RX_9 X_9 X_9_c0 X_9_c1 F_9 F_9_c0 F_9_c1 G_9 G_9_c0 G_9_c1 W_9 W_9_c0 W_9_c1 W_9_f0 W_9_f1 L_9
  have z10 := Z9.trans (y10.mono Z9.size)
  have Z10 := z10
  have cW10 := CW_9.trans (y10.mono CW_9.size)
  have CW_10 := cW10
  have B_10_c0 := B_10.c0
  have B_10_c1 := B_10.c1
  have X_10_c0 := X_10.c0
  have X_10_c1 := X_10.c1
  have F_10_c0 := F_10.c0
  have F_10_c1 := F_10.c1
  have G_10_c0 := G_10.c0
  have G_10_c1 := G_10.c1
  have W_10_c0 := W_10.c0
  have W_10_c1 := W_10.c1
  have W_10_f0 := W_10.f0
  have W_10_f1 := W_10.f1
  have CW_11 := (CW_10.setCell (p := ⟨w5.heap.size, 0, none⟩) (by simp) (.int .i64 14)).setCell (p := ⟨w5.heap.size, 1, none⟩) (by simp) (.int .i64 (-1))
  have Z11 := (Z10.setCell (p := ⟨w5.heap.size, 0, none⟩) (by have := z5.size; simp; omega) (.int .i64 14)).setCell (p := ⟨w5.heap.size, 1, none⟩) (by have := z5.size; simp; omega) (.int .i64 (-1))
  have R_11 := R_b.on CW_11
  have B_11 := B_b.on CW_11
  have RX_11 := RX_b.on CW_11
  have X_11 := X_b.on CW_11
  have F_11 := F_b.on CW_11
  have G_11 := G_b.on CW_11
  have W_11 := (W_10.set0 (.int .i64 14)).set1 (.int .i64 (-1))
  have L_11 := own_far_any (own_far_any L_10 (p := ⟨w5.heap.size, 0, none⟩) (own_two_ne L_10 W_10 (by decide)) (.int .i64 14)) (p := ⟨w5.heap.size, 1, none⟩) (own_two_ne L_10 W_10 (by decide)) (.int .i64 (-1))
  have B_11_c0 := B_11.c0
  have B_11_c1 := B_11.c1
  have X_11_c0 := X_11.c0
  have X_11_c1 := X_11.c1
  have F_11_c0 := F_11.c0
  have F_11_c1 := F_11.c1
  have G_11_c0 := G_11.c0
  have G_11_c1 := G_11.c1
  have W_11_c0 := W_11.c0
  have W_11_c1 := W_11.c1
  have W_11_f0 := W_11.f0
  have W_11_f1 := W_11.f1
  go_wp2_with fail
  refine (api_same (l := []) (l2 := []) RX_11 (Rd.none_ _) Is01.nil Is01.nil true (by decide) _ _ rfl rfl).mono ?_
  rintro e w12 ⟨rfl, y12⟩
  have R_12 := R_11.on y12
  have B_12 := B_11.on y12
  have RX_12 := RX_11.on y12
  have X_12 := X_11.on y12
  have F_12 := F_11.on y12
  have G_12 := G_11.on y12
  have W_12 := W_11.on y12
  have L_12 := own_on L_11 y12
  clear R_10 B_10 B_10_c0 B_10_c1 RX_10 X_10 X_10_c0 X_10_c1 F_10 F_10_c0 F_10_c1 G_10 G_10_c0 G_10_c1 W_10 W_10_c0 W_10_c1 W_10_f0 W_10_f1 L_10 R_11 B_11 B_11_c0 B_11_c1 RX_11 X_11 X_11_c0 X_11_c1 F_11 F_11_c0 F_11_c1 G_11 G_11_c0 G_11_c1 W_11 W_11_c0 W_11_c1 W_11_f0 W_11_f1 L_11
  have z12 := Z11.trans (y12.mono Z11.size)
  have Z12 := z12
  have cW12 := CW_11.trans (y12.mono CW_11.size)
  have CW_12 := cW12
  have B_12_c0 := B_12.c0
  have B_12_c1 := B_12.c1
  have X_12_c0 := X_12.c0
  have X_12_c1 := X_12.c1
  have F_12_c0 := F_12.c0
  have F_12_c1 := F_12.c1
  have G_12_c0 := G_12.c0
  have G_12_c1 := G_12.c1
  have W_12_c0 := W_12.c0
  have W_12_c1 := W_12.c1
  have W_12_f0 := W_12.f0
  have W_12_f1 := W_12.f1
  go_wp2_with fail
  refine (in_yes (f : Nat) 0 (l.length : Nat) _ (by omega) (by omega)).mono ?_
  rintro e w9_3 ⟨rfl, rfl⟩
  go_wp2_with fail
  refine (gammaat_any (Rd.own L_12) H01.out (by have := HLL.out; omega) hf rfl HGA.out).mono ?_
  rintro e w9_4 ⟨rfl, rfl⟩
  go_wp2_with fail
  go_quiet (fail)
  have R_13 := Rd.drewN R_12 nq
  have B_13 := Two.drewN B_12 nq
  have RX_13 := Rd.drewN RX_12 nq
  have X_13 := Two.drewN X_12 nq
  have F_13 := Two.drewN F_12 nq
  have G_13 := Two.drewN G_12 nq
  have W_13 := Two.drewN W_12 nq
  have L_13 := own_drewN L_12 nq
  have Z13 := belowN Z12 nq
  have CW_13 := belowN CW_12 nq
  clear R_12 B_12 B_12_c0 B_12_c1 RX_12 X_12 X_12_c0 X_12_c1 F_12 F_12_c0 F_12_c1 G_12 G_12_c0 G_12_c1 W_12 W_12_c0 W_12_c1 W_12_f0 W_12_f1 L_12
  obtain ⟨w13, hw13⟩ : ∃ w13, w13 = w12.drewN nq := ⟨_, rfl⟩
  rw [← hw13] at R_13 B_13 RX_13 X_13 F_13 G_13 W_13 L_13 Z13 CW_13
  rw [← hw13]
  clear hw13
  have B_13_c0 := B_13.c0
  have B_13_c1 := B_13.c1
  have X_13_c0 := X_13.c0
  have X_13_c1 := X_13.c1
  have F_13_c0 := F_13.c0
  have F_13_c1 := F_13.c1
  have G_13_c0 := G_13.c0
  have G_13_c1 := G_13.c1
  have W_13_c0 := W_13.c0
  have W_13_c1 := W_13.c1
  have W_13_f0 := W_13.f0
  have W_13_f1 := W_13.f1
  go_wp2_with fail
  go_region_held3 (fun w' => w'.cell? ⟨w2.heap.size, 0, none⟩ = some (.int .i64 (cd : Nat)) ∧ w'.cell? ⟨w2.heap.size, 1, none⟩ = some (.int .i64 (-2))) (go_keep) ((go_at_call 16; refine (refat_any _ _ _).mono ?_; rintro e w14 ⟨rfl, y14⟩; have Y14 : Below w13.heap.size w13.drew w14 := y14; have G_14_c0 := ((Two.on (w := w13.drew) G_13 Y14)).c0; have G_14_c1 := ((Two.on (w := w13.drew) G_13 Y14)).c1))
  have R_14 := (Rd.on (w := w13.drew) R_13 Y14)
  have B_14 := (Two.on (w := w13.drew) B_13 Y14)
  have RX_14 := (Rd.on (w := w13.drew) RX_13 Y14)
  have X_14 := (Two.on (w := w13.drew) X_13 Y14)
  have F_14 := (Two.on (w := w13.drew) F_13 Y14)
  have G_14 := (Two.on (w := w13.drew) G_13 Y14)
  have W_14 := (Two.on (w := w13.drew) W_13 Y14)
  have L_14 := (own_on (w := w13.drew) L_13 Y14)
  have Z14 := (belowD Z13).trans (Y14.mono (belowD Z13).size)
  have CW_14 := (belowD CW_13).trans (Y14.mono (belowD CW_13).size)
  clear G_14_c0 G_14_c1
  clear R_13 B_13 B_13_c0 B_13_c1 RX_13 X_13 X_13_c0 X_13_c1 F_13 F_13_c0 F_13_c1 G_13 G_13_c0 G_13_c1 W_13 W_13_c0 W_13_c1 W_13_f0 W_13_f1 L_13
  have B_14_c0 := B_14.c0
  have B_14_c1 := B_14.c1
  have X_14_c0 := X_14.c0
  have X_14_c1 := X_14.c1
  have F_14_c0 := F_14.c0
  have F_14_c1 := F_14.c1
  have G_14_c0 := G_14.c0
  have G_14_c1 := G_14.c1
  have W_14_c0 := W_14.c0
  have W_14_c1 := W_14.c1
  have W_14_f0 := W_14.f0
  have W_14_f1 := W_14.f1
  go_wp2
  go_ret
  exact ⟨rfl, Z14⟩
set_option maxRecDepth 100000 in
set_option maxHeartbeats 3200000 in
theorem gm_22 {A : Option Addr} {n c : Nat} {l : List Nat} (h01 : Is01 l) (hl : l.length ≤ 131072) {x : Nat} (hx1 : 1 ≤ x) (hx2 : x < 9223372036854775808) (hx : x ≤ 2147483647) (hs : 131072 < l.length + gsz x) {f : Nat} (hf : f ≤ l.length) {v e1 : Nat} (hG : GAt l f v e1 0)  (w : World) (h : Rd w A n c (bcells (pack l))) :
    Calls Try.prog 4 #[.agg #[.slice A n c, .int .i64 (l.length : Nat)], .int .i64 (x : Nat), .int .i64 (f : Nat)] w fun e w' => e = .returned (.bool true) ∧ Below w.heap.size w w' := by
  obtain ⟨i0, hi, hz0, hz1, hz2⟩ := info_parts int_info
  have H01 := Lib.hid h01
  have HLL := Lib.hid hl
  have HOK := Lib.hid (Ok.of_list h01 hl)
  clear h01
  have hgz : gsz x ≤ 125 := by have := bitLen_le64 x (by omega); unfold gsz; omega
  have HG := Lib.hid (fun W => gammaref_any x _ rfl hx1 hx2 W)
  have HRG := Lib.hid (fun W (hW : Rd W A n c (bcells (pack l))) => rg_ok hW H01.out HLL.out hf hG)
  have HGA := Lib.hid hG
  clear hG
  have R_0 := (h).alloc (.cells #[.slice A n c, .int .i64 (l.length : Nat)] 24)
  have B_0 := (Two.new w 24 (.slice A n c) (.int .i64 (l.length : Nat)))
  have Z0 := (Below.refl w.heap.size w).alloc (by simp) (.cells #[.slice A n c, .int .i64 (l.length : Nat)] 24)
  have B_0_c0 := B_0.c0
  have B_0_c1 := B_0.c1
  go_enter Try.func4, Try.ntmps4
  go_wp2_with fail
  refine (agamma_large A n c l x _ _ R_0 (Nat.le_refl _) H01.out HLL.out hx1 hx hs).mono ?_
  unfold flt noBits
  rintro e w1 ⟨rfl, y1⟩
  have R_1 := ((R_0.on y1).alloc (.cells #[.slice none 0 0, .int .i64 0] 24)).alloc (.cells #[.int .i64 14, .int .i64 (-1)] 26)
  have B_1 := ((B_0.on y1).alloc (.cells #[.slice none 0 0, .int .i64 0] 24)).alloc (.cells #[.int .i64 14, .int .i64 (-1)] 26)
  have RX_1 := ((Rd.none_ w1).alloc (.cells #[.slice none 0 0, .int .i64 0] 24)).alloc (.cells #[.int .i64 14, .int .i64 (-1)] 26)
  have X_1 := ((Two.new w1 24 (.slice none 0 0) (.int .i64 0))).alloc (.cells #[.int .i64 14, .int .i64 (-1)] 26)
  have F_1 := (Two.new1 w1 (.cells #[.slice none 0 0, .int .i64 0] 24) 26 (.int .i64 14) (.int .i64 (-1)))
  clear R_0 B_0 B_0_c0 B_0_c1
  have z1 := Z0.trans (y1.mono Z0.size)
  have Z1 := ((z1).alloc (by have := z1.size; omega) (.cells #[.slice none 0 0, .int .i64 0] 24)).alloc (by have := z1.size; simp; omega) (.cells #[.int .i64 14, .int .i64 (-1)] 26)
  have B_1_c0 := B_1.c0
  have B_1_c1 := B_1.c1
  have X_1_c0 := X_1.c0
  have X_1_c1 := X_1.c1
  have F_1_c0 := F_1.c0
  have F_1_c1 := F_1.c1
  go_wp2_with fail
  refine (HRG.out _ R_1).mono ?_
  rintro e w2 ⟨rfl, y2⟩
  have R_2 := (R_1.on y2).alloc (.cells #[.int .i64 0, .int .i64 0] 26)
  have B_2 := (B_1.on y2).alloc (.cells #[.int .i64 0, .int .i64 0] 26)
  have RX_2 := (RX_1.on y2).alloc (.cells #[.int .i64 0, .int .i64 0] 26)
  have X_2 := (X_1.on y2).alloc (.cells #[.int .i64 0, .int .i64 0] 26)
  have F_2 := (F_1.on y2).alloc (.cells #[.int .i64 0, .int .i64 0] 26)
  have G_2 := (Two.new w2 26 (.int .i64 0) (.int .i64 0))
  clear R_1 B_1 B_1_c0 B_1_c1 RX_1 X_1 X_1_c0 X_1_c1 F_1 F_1_c0 F_1_c1
  have z2 := Z1.trans (y2.mono Z1.size)
  have Z2 := (z2).alloc (by have := z2.size; omega) (.cells #[.int .i64 0, .int .i64 0] 26)
  have B_2_c0 := B_2.c0
  have B_2_c1 := B_2.c1
  have X_2_c0 := X_2.c0
  have X_2_c1 := X_2.c1
  have F_2_c0 := F_2.c0
  have F_2_c1 := F_2.c1
  have G_2_c0 := G_2.c0
  have G_2_c1 := G_2.c1
  go_wp2_with fail
  refine (strings_true _).mono ?_
  rintro e w3 ⟨rfl, y3⟩
  have R_3 := R_2.on y3
  have B_3 := B_2.on y3
  have RX_3 := RX_2.on y3
  have X_3 := X_2.on y3
  have F_3 := F_2.on y3
  have G_3 := G_2.on y3
  clear R_2 B_2 B_2_c0 B_2_c1 RX_2 X_2 X_2_c0 X_2_c1 F_2 F_2_c0 F_2_c1 G_2 G_2_c0 G_2_c1
  have z3 := Z2.trans (y3.mono Z2.size)
  have Z3 := z3
  have B_3_c0 := B_3.c0
  have B_3_c1 := B_3.c1
  have X_3_c0 := X_3.c0
  have X_3_c1 := X_3.c1
  have F_3_c0 := F_3.c0
  have F_3_c1 := F_3.c1
  have G_3_c0 := G_3.c0
  have G_3_c1 := G_3.c1
  go_wp2_with fail
  refine (api_gsize hx1 hx2).mono ?_
  rintro e w9_1 ⟨rfl, rfl⟩
  go_wp2_with fail
  refine (HG.out _).mono ?_
  rintro e w4 ⟨Ag, cg, rfl, og, y4⟩
  have R_4 := R_3.on y4
  have B_4 := B_3.on y4
  have RX_4 := RX_3.on y4
  have X_4 := X_3.on y4
  have F_4 := F_3.on y4
  have G_4 := G_3.on y4
  clear R_3 B_3 B_3_c0 B_3_c1 RX_3 X_3 X_3_c0 X_3_c1 F_3 F_3_c0 F_3_c1 G_3 G_3_c0 G_3_c1
  have z4 := Z3.trans (y4.mono Z3.size)
  have Z4 := z4
  have B_4_c0 := B_4.c0
  have B_4_c1 := B_4.c1
  have X_4_c0 := X_4.c0
  have X_4_c1 := X_4.c1
  have F_4_c0 := F_4.c0
  have F_4_c1 := F_4.c1
  have G_4_c0 := G_4.c0
  have G_4_c1 := G_4.c1
  go_wp2_with fail
  refine (refat_any _ _ _).mono ?_
  rintro e w5 ⟨rfl, y5⟩
  have R_5 := (R_4.on y5).alloc (.cells #[.int .i64 6, .int .i64 (-1)] 26)
  have B_5 := (B_4.on y5).alloc (.cells #[.int .i64 6, .int .i64 (-1)] 26)
  have RX_5 := (RX_4.on y5).alloc (.cells #[.int .i64 6, .int .i64 (-1)] 26)
  have X_5 := (X_4.on y5).alloc (.cells #[.int .i64 6, .int .i64 (-1)] 26)
  have F_5 := (F_4.on y5).alloc (.cells #[.int .i64 6, .int .i64 (-1)] 26)
  have G_5 := (G_4.on y5).alloc (.cells #[.int .i64 6, .int .i64 (-1)] 26)
  have R_b := R_4.on y5
  have B_b := B_4.on y5
  have RX_b := RX_4.on y5
  have X_b := X_4.on y5
  have F_b := F_4.on y5
  have G_b := G_4.on y5
  have W_5 := (Two.new w5 26 (.int .i64 6) (.int .i64 (-1)))
  clear R_4 B_4 B_4_c0 B_4_c1 RX_4 X_4 X_4_c0 X_4_c1 F_4 F_4_c0 F_4_c1 G_4 G_4_c0 G_4_c1
  have z5 := Z4.trans (y5.mono Z4.size)
  have Z5 := (z5).alloc (by have := z5.size; omega) (.cells #[.int .i64 6, .int .i64 (-1)] 26)
  have CW_5 := (Below.refl w5.heap.size w5).alloc (by simp) (.cells #[.int .i64 6, .int .i64 (-1)] 26)
  have B_5_c0 := B_5.c0
  have B_5_c1 := B_5.c1
  have X_5_c0 := X_5.c0
  have X_5_c1 := X_5.c1
  have F_5_c0 := F_5.c0
  have F_5_c1 := F_5.c1
  have G_5_c0 := G_5.c0
  have G_5_c1 := G_5.c1
  have W_5_c0 := W_5.c0
  have W_5_c1 := W_5.c1
  have W_5_f0 := W_5.f0
  have W_5_f1 := W_5.f1
  go_wp2_with fail
  refine (bitsok_any R_5 (pack_lt H01.out) (by omega) (by have := HLL.out; omega) true ⟨fun _ => HOK.out, fun _ => rfl⟩).mono ?_
  rintro e w6 ⟨rfl, y6⟩
  have R_6 := R_5.on y6
  have B_6 := B_5.on y6
  have RX_6 := RX_5.on y6
  have X_6 := X_5.on y6
  have F_6 := F_5.on y6
  have G_6 := G_5.on y6
  have W_6 := W_5.on y6
  clear R_5 B_5 B_5_c0 B_5_c1 RX_5 X_5 X_5_c0 X_5_c1 F_5 F_5_c0 F_5_c1 G_5 G_5_c0 G_5_c1 W_5 W_5_c0 W_5_c1 W_5_f0 W_5_f1
  have z6 := Z5.trans (y6.mono Z5.size)
  have Z6 := z6
  have cW6 := CW_5.trans (y6.mono CW_5.size)
  have CW_6 := cW6
  have B_6_c0 := B_6.c0
  have B_6_c1 := B_6.c1
  have X_6_c0 := X_6.c0
  have X_6_c1 := X_6.c1
  have F_6_c0 := F_6.c0
  have F_6_c1 := F_6.c1
  have G_6_c0 := G_6.c0
  have G_6_c1 := G_6.c1
  have W_6_c0 := W_6.c0
  have W_6_c1 := W_6.c1
  have W_6_f0 := W_6.f0
  have W_6_f1 := W_6.f1
  go_wp2_with fail
  refine (bits_any R_6 H01.out HLL.out _ rfl).mono ?_
  rintro e w7 ⟨Al, cl, rfl, hol, y7⟩
  have R_7 := R_6.on y7
  have B_7 := B_6.on y7
  have RX_7 := RX_6.on y7
  have X_7 := X_6.on y7
  have F_7 := F_6.on y7
  have G_7 := G_6.on y7
  have W_7 := W_6.on y7
  have L_7 := own_less hol CW_6.size
  clear R_6 B_6 B_6_c0 B_6_c1 RX_6 X_6 X_6_c0 X_6_c1 F_6 F_6_c0 F_6_c1 G_6 G_6_c0 G_6_c1 W_6 W_6_c0 W_6_c1 W_6_f0 W_6_f1
  have z7 := Z6.trans (y7.mono Z6.size)
  have Z7 := z7
  have cW7 := CW_6.trans (y7.mono CW_6.size)
  have CW_7 := cW7
  have B_7_c0 := B_7.c0
  have B_7_c1 := B_7.c1
  have X_7_c0 := X_7.c0
  have X_7_c1 := X_7.c1
  have F_7_c0 := F_7.c0
  have F_7_c1 := F_7.c1
  have G_7_c0 := G_7.c0
  have G_7_c1 := G_7.c1
  have W_7_c0 := W_7.c0
  have W_7_c1 := W_7.c1
  have W_7_f0 := W_7.f0
  have W_7_f1 := W_7.f1
  have CW_8 := (CW_7.setCell (p := ⟨w5.heap.size, 0, none⟩) (by simp) (.int .i64 0)).setCell (p := ⟨w5.heap.size, 1, none⟩) (by simp) (.int .i64 0)
  have Z8 := (Z7.setCell (p := ⟨w5.heap.size, 0, none⟩) (by have := z5.size; simp; omega) (.int .i64 0)).setCell (p := ⟨w5.heap.size, 1, none⟩) (by have := z5.size; simp; omega) (.int .i64 0)
  have R_8 := R_b.on CW_8
  have B_8 := B_b.on CW_8
  have RX_8 := RX_b.on CW_8
  have X_8 := X_b.on CW_8
  have F_8 := F_b.on CW_8
  have G_8 := G_b.on CW_8
  have W_8 := (W_7.set0 (.int .i64 0)).set1 (.int .i64 0)
  have L_8 := own_far_any (own_far_any L_7 (p := ⟨w5.heap.size, 0, none⟩) (own_two_ne L_7 W_7 (by decide)) (.int .i64 0)) (p := ⟨w5.heap.size, 1, none⟩) (own_two_ne L_7 W_7 (by decide)) (.int .i64 0)
  have B_8_c0 := B_8.c0
  have B_8_c1 := B_8.c1
  have X_8_c0 := X_8.c0
  have X_8_c1 := X_8.c1
  have F_8_c0 := F_8.c0
  have F_8_c1 := F_8.c1
  have G_8_c0 := G_8.c0
  have G_8_c1 := G_8.c1
  have W_8_c0 := W_8.c0
  have W_8_c1 := W_8.c1
  have W_8_f0 := W_8.f0
  have W_8_f1 := W_8.f1
  go_wp2_with fail
  refine (in_yes (x : Nat) 1 2147483647 _ (by omega) (by omega)).mono ?_
  rintro e w9_2 ⟨rfl, rfl⟩
  go_wp2_with fail
  refine (HG.out _).mono ?_
  rintro e w9 ⟨Ag2, cg2, rfl, og2, y9⟩
  have R_9 := R_8.on y9
  have B_9 := B_8.on y9
  have RX_9 := RX_8.on y9
  have X_9 := X_8.on y9
  have F_9 := F_8.on y9
  have G_9 := G_8.on y9
  have W_9 := W_8.on y9
  have L_9 := own_on L_8 y9
  clear R_7 B_7 B_7_c0 B_7_c1 RX_7 X_7 X_7_c0 X_7_c1 F_7 F_7_c0 F_7_c1 G_7 G_7_c0 G_7_c1 W_7 W_7_c0 W_7_c1 W_7_f0 W_7_f1 L_7 R_8 B_8 B_8_c0 B_8_c1 RX_8 X_8 X_8_c0 X_8_c1 F_8 F_8_c0 F_8_c1 G_8 G_8_c0 G_8_c1 W_8 W_8_c0 W_8_c1 W_8_f0 W_8_f1 L_8
  have z9 := Z8.trans (y9.mono Z8.size)
  have Z9 := z9
  have cW9 := CW_8.trans (y9.mono CW_8.size)
  have CW_9 := cW9
  have B_9_c0 := B_9.c0
  have B_9_c1 := B_9.c1
  have X_9_c0 := X_9.c0
  have X_9_c1 := X_9.c1
  have F_9_c0 := F_9.c0
  have F_9_c1 := F_9.c1
  have G_9_c0 := G_9.c0
  have G_9_c1 := G_9.c1
  have W_9_c0 := W_9.c0
  have W_9_c1 := W_9.c1
  have W_9_f0 := W_9.f0
  have W_9_f1 := W_9.f1
  go_wp2_with fail
  refine (refat_any _ _ _).mono ?_
  rintro e w10 ⟨rfl, y10⟩
  have R_10 := R_9.on y10
  have B_10 := B_9.on y10
  have RX_10 := RX_9.on y10
  have X_10 := X_9.on y10
  have F_10 := F_9.on y10
  have G_10 := G_9.on y10
  have W_10 := W_9.on y10
  have L_10 := own_on L_9 y10
  clear R_9 B_9 B_9_c0 B_9_c1 RX_9 X_9 X_9_c0 X_9_c1 F_9 F_9_c0 F_9_c1 G_9 G_9_c0 G_9_c1 W_9 W_9_c0 W_9_c1 W_9_f0 W_9_f1 L_9
  have z10 := Z9.trans (y10.mono Z9.size)
  have Z10 := z10
  have cW10 := CW_9.trans (y10.mono CW_9.size)
  have CW_10 := cW10
  have B_10_c0 := B_10.c0
  have B_10_c1 := B_10.c1
  have X_10_c0 := X_10.c0
  have X_10_c1 := X_10.c1
  have F_10_c0 := F_10.c0
  have F_10_c1 := F_10.c1
  have G_10_c0 := G_10.c0
  have G_10_c1 := G_10.c1
  have W_10_c0 := W_10.c0
  have W_10_c1 := W_10.c1
  have W_10_f0 := W_10.f0
  have W_10_f1 := W_10.f1
  have CW_11 := (CW_10.setCell (p := ⟨w5.heap.size, 0, none⟩) (by simp) (.int .i64 14)).setCell (p := ⟨w5.heap.size, 1, none⟩) (by simp) (.int .i64 (-1))
  have Z11 := (Z10.setCell (p := ⟨w5.heap.size, 0, none⟩) (by have := z5.size; simp; omega) (.int .i64 14)).setCell (p := ⟨w5.heap.size, 1, none⟩) (by have := z5.size; simp; omega) (.int .i64 (-1))
  have R_11 := R_b.on CW_11
  have B_11 := B_b.on CW_11
  have RX_11 := RX_b.on CW_11
  have X_11 := X_b.on CW_11
  have F_11 := F_b.on CW_11
  have G_11 := G_b.on CW_11
  have W_11 := (W_10.set0 (.int .i64 14)).set1 (.int .i64 (-1))
  have L_11 := own_far_any (own_far_any L_10 (p := ⟨w5.heap.size, 0, none⟩) (own_two_ne L_10 W_10 (by decide)) (.int .i64 14)) (p := ⟨w5.heap.size, 1, none⟩) (own_two_ne L_10 W_10 (by decide)) (.int .i64 (-1))
  have B_11_c0 := B_11.c0
  have B_11_c1 := B_11.c1
  have X_11_c0 := X_11.c0
  have X_11_c1 := X_11.c1
  have F_11_c0 := F_11.c0
  have F_11_c1 := F_11.c1
  have G_11_c0 := G_11.c0
  have G_11_c1 := G_11.c1
  have W_11_c0 := W_11.c0
  have W_11_c1 := W_11.c1
  have W_11_f0 := W_11.f0
  have W_11_f1 := W_11.f1
  go_wp2_with fail
  refine (api_same (l := []) (l2 := []) RX_11 (Rd.none_ _) Is01.nil Is01.nil true (by decide) _ _ rfl rfl).mono ?_
  rintro e w12 ⟨rfl, y12⟩
  have R_12 := R_11.on y12
  have B_12 := B_11.on y12
  have RX_12 := RX_11.on y12
  have X_12 := X_11.on y12
  have F_12 := F_11.on y12
  have G_12 := G_11.on y12
  have W_12 := W_11.on y12
  have L_12 := own_on L_11 y12
  clear R_10 B_10 B_10_c0 B_10_c1 RX_10 X_10 X_10_c0 X_10_c1 F_10 F_10_c0 F_10_c1 G_10 G_10_c0 G_10_c1 W_10 W_10_c0 W_10_c1 W_10_f0 W_10_f1 L_10 R_11 B_11 B_11_c0 B_11_c1 RX_11 X_11 X_11_c0 X_11_c1 F_11 F_11_c0 F_11_c1 G_11 G_11_c0 G_11_c1 W_11 W_11_c0 W_11_c1 W_11_f0 W_11_f1 L_11
  have z12 := Z11.trans (y12.mono Z11.size)
  have Z12 := z12
  have cW12 := CW_11.trans (y12.mono CW_11.size)
  have CW_12 := cW12
  have B_12_c0 := B_12.c0
  have B_12_c1 := B_12.c1
  have X_12_c0 := X_12.c0
  have X_12_c1 := X_12.c1
  have F_12_c0 := F_12.c0
  have F_12_c1 := F_12.c1
  have G_12_c0 := G_12.c0
  have G_12_c1 := G_12.c1
  have W_12_c0 := W_12.c0
  have W_12_c1 := W_12.c1
  have W_12_f0 := W_12.f0
  have W_12_f1 := W_12.f1
  go_wp2_with fail
  refine (in_yes (f : Nat) 0 (l.length : Nat) _ (by omega) (by omega)).mono ?_
  rintro e w9_3 ⟨rfl, rfl⟩
  go_wp2_with fail
  refine (gammaat_any (Rd.own L_12) H01.out (by have := HLL.out; omega) hf rfl HGA.out).mono ?_
  rintro e w9_4 ⟨rfl, rfl⟩
  go_wp2_with fail
  go_quiet (fail)
  have R_13 := Rd.drewN R_12 nq
  have B_13 := Two.drewN B_12 nq
  have RX_13 := Rd.drewN RX_12 nq
  have X_13 := Two.drewN X_12 nq
  have F_13 := Two.drewN F_12 nq
  have G_13 := Two.drewN G_12 nq
  have W_13 := Two.drewN W_12 nq
  have L_13 := own_drewN L_12 nq
  have Z13 := belowN Z12 nq
  have CW_13 := belowN CW_12 nq
  clear R_12 B_12 B_12_c0 B_12_c1 RX_12 X_12 X_12_c0 X_12_c1 F_12 F_12_c0 F_12_c1 G_12 G_12_c0 G_12_c1 W_12 W_12_c0 W_12_c1 W_12_f0 W_12_f1 L_12
  obtain ⟨w13, hw13⟩ : ∃ w13, w13 = w12.drewN nq := ⟨_, rfl⟩
  rw [← hw13] at R_13 B_13 RX_13 X_13 F_13 G_13 W_13 L_13 Z13 CW_13
  rw [← hw13]
  clear hw13
  have B_13_c0 := B_13.c0
  have B_13_c1 := B_13.c1
  have X_13_c0 := X_13.c0
  have X_13_c1 := X_13.c1
  have F_13_c0 := F_13.c0
  have F_13_c1 := F_13.c1
  have G_13_c0 := G_13.c0
  have G_13_c1 := G_13.c1
  have W_13_c0 := W_13.c0
  have W_13_c1 := W_13.c1
  have W_13_f0 := W_13.f0
  have W_13_f1 := W_13.f1
  go_wp2
  go_ret
  exact ⟨rfl, Z13⟩
set_option maxRecDepth 100000 in
set_option maxHeartbeats 3200000 in
theorem gm_30 {A : Option Addr} {n c : Nat} {l : List Nat} (h01 : Is01 l) (hl : l.length ≤ 131072) {x : Nat} (hx1 : 1 ≤ x) (hx2 : x < 9223372036854775808) (hx : 2147483647 < x) {f : Int} (hf : f < 0 ∨ (l.length : Int) < f)  (w : World) (h : Rd w A n c (bcells (pack l))) :
    Calls Try.prog 4 #[.agg #[.slice A n c, .int .i64 (l.length : Nat)], .int .i64 (x : Nat), .int .i64 f] w fun e w' => e = .returned (.bool true) ∧ Below w.heap.size w w' := by
  obtain ⟨i0, hi, hz0, hz1, hz2⟩ := info_parts int_info
  have H01 := Lib.hid h01
  have HLL := Lib.hid hl
  have HOK := Lib.hid (Ok.of_list h01 hl)
  clear h01
  have hgz : gsz x ≤ 125 := by have := bitLen_le64 x (by omega); unfold gsz; omega
  have HG := Lib.hid (fun W => gammaref_any x _ rfl hx1 hx2 W)
  have HRG := Lib.hid (show ∀ W, Rd W A n c (bcells (pack l)) → Calls Try.prog 20 #[.agg #[.slice A n c, .int .i64 (l.length : Nat)], .int .i64 f] W fun e w' => e = .returned (.tuple #[.int .i64 0, .int .i64 0, .agg #[.int .i64 4, .int .i64 (-2)]]) ∧ Below W.heap.size W w' from fun W hW => by
    rcases hf with hf | hf
    · exact rgamma_low A n c l f _ W hW (Nat.le_refl _) H01.out HLL.out hf
    · exact rgamma_high A n c l f _ W hW (Nat.le_refl _) H01.out HLL.out hf)
  have HF := Lib.hid hf
  clear hf
  have R_0 := (h).alloc (.cells #[.slice A n c, .int .i64 (l.length : Nat)] 24)
  have B_0 := (Two.new w 24 (.slice A n c) (.int .i64 (l.length : Nat)))
  have Z0 := (Below.refl w.heap.size w).alloc (by simp) (.cells #[.slice A n c, .int .i64 (l.length : Nat)] 24)
  have B_0_c0 := B_0.c0
  have B_0_c1 := B_0.c1
  go_enter Try.func4, Try.ntmps4
  go_wp2_with fail
  refine (agamma_high A n c l (x : Nat) _ _ R_0 (Nat.le_refl _) H01.out HLL.out (by omega)).mono ?_
  unfold flt noBits
  rintro e w1 ⟨rfl, y1⟩
  have R_1 := ((R_0.on y1).alloc (.cells #[.slice none 0 0, .int .i64 0] 24)).alloc (.cells #[.int .i64 4, .int .i64 (-2)] 26)
  have B_1 := ((B_0.on y1).alloc (.cells #[.slice none 0 0, .int .i64 0] 24)).alloc (.cells #[.int .i64 4, .int .i64 (-2)] 26)
  have RX_1 := ((Rd.none_ w1).alloc (.cells #[.slice none 0 0, .int .i64 0] 24)).alloc (.cells #[.int .i64 4, .int .i64 (-2)] 26)
  have X_1 := ((Two.new w1 24 (.slice none 0 0) (.int .i64 0))).alloc (.cells #[.int .i64 4, .int .i64 (-2)] 26)
  have F_1 := (Two.new1 w1 (.cells #[.slice none 0 0, .int .i64 0] 24) 26 (.int .i64 4) (.int .i64 (-2)))
  clear R_0 B_0 B_0_c0 B_0_c1
  have z1 := Z0.trans (y1.mono Z0.size)
  have Z1 := ((z1).alloc (by have := z1.size; omega) (.cells #[.slice none 0 0, .int .i64 0] 24)).alloc (by have := z1.size; simp; omega) (.cells #[.int .i64 4, .int .i64 (-2)] 26)
  have B_1_c0 := B_1.c0
  have B_1_c1 := B_1.c1
  have X_1_c0 := X_1.c0
  have X_1_c1 := X_1.c1
  have F_1_c0 := F_1.c0
  have F_1_c1 := F_1.c1
  go_wp2_with fail
  refine (HRG.out _ R_1).mono ?_
  rintro e w2 ⟨rfl, y2⟩
  have R_2 := (R_1.on y2).alloc (.cells #[.int .i64 4, .int .i64 (-2)] 26)
  have B_2 := (B_1.on y2).alloc (.cells #[.int .i64 4, .int .i64 (-2)] 26)
  have RX_2 := (RX_1.on y2).alloc (.cells #[.int .i64 4, .int .i64 (-2)] 26)
  have X_2 := (X_1.on y2).alloc (.cells #[.int .i64 4, .int .i64 (-2)] 26)
  have F_2 := (F_1.on y2).alloc (.cells #[.int .i64 4, .int .i64 (-2)] 26)
  have G_2 := (Two.new w2 26 (.int .i64 4) (.int .i64 (-2)))
  clear R_1 B_1 B_1_c0 B_1_c1 RX_1 X_1 X_1_c0 X_1_c1 F_1 F_1_c0 F_1_c1
  have z2 := Z1.trans (y2.mono Z1.size)
  have Z2 := (z2).alloc (by have := z2.size; omega) (.cells #[.int .i64 4, .int .i64 (-2)] 26)
  have B_2_c0 := B_2.c0
  have B_2_c1 := B_2.c1
  have X_2_c0 := X_2.c0
  have X_2_c1 := X_2.c1
  have F_2_c0 := F_2.c0
  have F_2_c1 := F_2.c1
  have G_2_c0 := G_2.c0
  have G_2_c1 := G_2.c1
  go_wp2_with fail
  refine (strings_true _).mono ?_
  rintro e w3 ⟨rfl, y3⟩
  have R_3 := R_2.on y3
  have B_3 := B_2.on y3
  have RX_3 := RX_2.on y3
  have X_3 := X_2.on y3
  have F_3 := F_2.on y3
  have G_3 := G_2.on y3
  clear R_2 B_2 B_2_c0 B_2_c1 RX_2 X_2 X_2_c0 X_2_c1 F_2 F_2_c0 F_2_c1 G_2 G_2_c0 G_2_c1
  have z3 := Z2.trans (y3.mono Z2.size)
  have Z3 := z3
  have B_3_c0 := B_3.c0
  have B_3_c1 := B_3.c1
  have X_3_c0 := X_3.c0
  have X_3_c1 := X_3.c1
  have F_3_c0 := F_3.c0
  have F_3_c1 := F_3.c1
  have G_3_c0 := G_3.c0
  have G_3_c1 := G_3.c1
  go_wp2_with fail
  refine (api_gsize hx1 hx2).mono ?_
  rintro e w9_1 ⟨rfl, rfl⟩
  go_wp2_with fail
  refine (HG.out _).mono ?_
  rintro e w4 ⟨Ag, cg, rfl, og, y4⟩
  have R_4 := R_3.on y4
  have B_4 := B_3.on y4
  have RX_4 := RX_3.on y4
  have X_4 := X_3.on y4
  have F_4 := F_3.on y4
  have G_4 := G_3.on y4
  clear R_3 B_3 B_3_c0 B_3_c1 RX_3 X_3 X_3_c0 X_3_c1 F_3 F_3_c0 F_3_c1 G_3 G_3_c0 G_3_c1
  have z4 := Z3.trans (y4.mono Z3.size)
  have Z4 := z4
  have B_4_c0 := B_4.c0
  have B_4_c1 := B_4.c1
  have X_4_c0 := X_4.c0
  have X_4_c1 := X_4.c1
  have F_4_c0 := F_4.c0
  have F_4_c1 := F_4.c1
  have G_4_c0 := G_4.c0
  have G_4_c1 := G_4.c1
  go_wp2_with fail
  refine (refat_any _ _ _).mono ?_
  rintro e w5 ⟨rfl, y5⟩
  have R_5 := (R_4.on y5).alloc (.cells #[.int .i64 6, .int .i64 (-1)] 26)
  have B_5 := (B_4.on y5).alloc (.cells #[.int .i64 6, .int .i64 (-1)] 26)
  have RX_5 := (RX_4.on y5).alloc (.cells #[.int .i64 6, .int .i64 (-1)] 26)
  have X_5 := (X_4.on y5).alloc (.cells #[.int .i64 6, .int .i64 (-1)] 26)
  have F_5 := (F_4.on y5).alloc (.cells #[.int .i64 6, .int .i64 (-1)] 26)
  have G_5 := (G_4.on y5).alloc (.cells #[.int .i64 6, .int .i64 (-1)] 26)
  have R_b := R_4.on y5
  have B_b := B_4.on y5
  have RX_b := RX_4.on y5
  have X_b := X_4.on y5
  have F_b := F_4.on y5
  have G_b := G_4.on y5
  have W_5 := (Two.new w5 26 (.int .i64 6) (.int .i64 (-1)))
  clear R_4 B_4 B_4_c0 B_4_c1 RX_4 X_4 X_4_c0 X_4_c1 F_4 F_4_c0 F_4_c1 G_4 G_4_c0 G_4_c1
  have z5 := Z4.trans (y5.mono Z4.size)
  have Z5 := (z5).alloc (by have := z5.size; omega) (.cells #[.int .i64 6, .int .i64 (-1)] 26)
  have CW_5 := (Below.refl w5.heap.size w5).alloc (by simp) (.cells #[.int .i64 6, .int .i64 (-1)] 26)
  have B_5_c0 := B_5.c0
  have B_5_c1 := B_5.c1
  have X_5_c0 := X_5.c0
  have X_5_c1 := X_5.c1
  have F_5_c0 := F_5.c0
  have F_5_c1 := F_5.c1
  have G_5_c0 := G_5.c0
  have G_5_c1 := G_5.c1
  have W_5_c0 := W_5.c0
  have W_5_c1 := W_5.c1
  have W_5_f0 := W_5.f0
  have W_5_f1 := W_5.f1
  go_wp2_with fail
  refine (bitsok_any R_5 (pack_lt H01.out) (by omega) (by have := HLL.out; omega) true ⟨fun _ => HOK.out, fun _ => rfl⟩).mono ?_
  rintro e w6 ⟨rfl, y6⟩
  have R_6 := R_5.on y6
  have B_6 := B_5.on y6
  have RX_6 := RX_5.on y6
  have X_6 := X_5.on y6
  have F_6 := F_5.on y6
  have G_6 := G_5.on y6
  have W_6 := W_5.on y6
  clear R_5 B_5 B_5_c0 B_5_c1 RX_5 X_5 X_5_c0 X_5_c1 F_5 F_5_c0 F_5_c1 G_5 G_5_c0 G_5_c1 W_5 W_5_c0 W_5_c1 W_5_f0 W_5_f1
  have z6 := Z5.trans (y6.mono Z5.size)
  have Z6 := z6
  have cW6 := CW_5.trans (y6.mono CW_5.size)
  have CW_6 := cW6
  have B_6_c0 := B_6.c0
  have B_6_c1 := B_6.c1
  have X_6_c0 := X_6.c0
  have X_6_c1 := X_6.c1
  have F_6_c0 := F_6.c0
  have F_6_c1 := F_6.c1
  have G_6_c0 := G_6.c0
  have G_6_c1 := G_6.c1
  have W_6_c0 := W_6.c0
  have W_6_c1 := W_6.c1
  have W_6_f0 := W_6.f0
  have W_6_f1 := W_6.f1
  go_wp2_with fail
  refine (bits_any R_6 H01.out HLL.out _ rfl).mono ?_
  rintro e w7 ⟨Al, cl, rfl, hol, y7⟩
  have R_7 := R_6.on y7
  have B_7 := B_6.on y7
  have RX_7 := RX_6.on y7
  have X_7 := X_6.on y7
  have F_7 := F_6.on y7
  have G_7 := G_6.on y7
  have W_7 := W_6.on y7
  have L_7 := own_less hol CW_6.size
  clear R_6 B_6 B_6_c0 B_6_c1 RX_6 X_6 X_6_c0 X_6_c1 F_6 F_6_c0 F_6_c1 G_6 G_6_c0 G_6_c1 W_6 W_6_c0 W_6_c1 W_6_f0 W_6_f1
  have z7 := Z6.trans (y7.mono Z6.size)
  have Z7 := z7
  have cW7 := CW_6.trans (y7.mono CW_6.size)
  have CW_7 := cW7
  have B_7_c0 := B_7.c0
  have B_7_c1 := B_7.c1
  have X_7_c0 := X_7.c0
  have X_7_c1 := X_7.c1
  have F_7_c0 := F_7.c0
  have F_7_c1 := F_7.c1
  have G_7_c0 := G_7.c0
  have G_7_c1 := G_7.c1
  have W_7_c0 := W_7.c0
  have W_7_c1 := W_7.c1
  have W_7_f0 := W_7.f0
  have W_7_f1 := W_7.f1
  have CW_8 := (CW_7.setCell (p := ⟨w5.heap.size, 0, none⟩) (by simp) (.int .i64 0)).setCell (p := ⟨w5.heap.size, 1, none⟩) (by simp) (.int .i64 0)
  have Z8 := (Z7.setCell (p := ⟨w5.heap.size, 0, none⟩) (by have := z5.size; simp; omega) (.int .i64 0)).setCell (p := ⟨w5.heap.size, 1, none⟩) (by have := z5.size; simp; omega) (.int .i64 0)
  have R_8 := R_b.on CW_8
  have B_8 := B_b.on CW_8
  have RX_8 := RX_b.on CW_8
  have X_8 := X_b.on CW_8
  have F_8 := F_b.on CW_8
  have G_8 := G_b.on CW_8
  have W_8 := (W_7.set0 (.int .i64 0)).set1 (.int .i64 0)
  have L_8 := own_far_any (own_far_any L_7 (p := ⟨w5.heap.size, 0, none⟩) (own_two_ne L_7 W_7 (by decide)) (.int .i64 0)) (p := ⟨w5.heap.size, 1, none⟩) (own_two_ne L_7 W_7 (by decide)) (.int .i64 0)
  have B_8_c0 := B_8.c0
  have B_8_c1 := B_8.c1
  have X_8_c0 := X_8.c0
  have X_8_c1 := X_8.c1
  have F_8_c0 := F_8.c0
  have F_8_c1 := F_8.c1
  have G_8_c0 := G_8.c0
  have G_8_c1 := G_8.c1
  have W_8_c0 := W_8.c0
  have W_8_c1 := W_8.c1
  have W_8_f0 := W_8.f0
  have W_8_f1 := W_8.f1
  go_wp2_with fail
  refine (in_no (x : Nat) 1 2147483647 _ (by omega)).mono ?_
  rintro e w9_2 ⟨rfl, rfl⟩
  go_wp2_with fail
  refine (refat_any _ _ _).mono ?_
  rintro e w9 ⟨rfl, y9⟩
  have R_9 := R_8.on y9
  have B_9 := B_8.on y9
  have RX_9 := RX_8.on y9
  have X_9 := X_8.on y9
  have F_9 := F_8.on y9
  have G_9 := G_8.on y9
  have W_9 := W_8.on y9
  have L_9 := own_on L_8 y9
  clear R_7 B_7 B_7_c0 B_7_c1 RX_7 X_7 X_7_c0 X_7_c1 F_7 F_7_c0 F_7_c1 G_7 G_7_c0 G_7_c1 W_7 W_7_c0 W_7_c1 W_7_f0 W_7_f1 L_7 R_8 B_8 B_8_c0 B_8_c1 RX_8 X_8 X_8_c0 X_8_c1 F_8 F_8_c0 F_8_c1 G_8 G_8_c0 G_8_c1 W_8 W_8_c0 W_8_c1 W_8_f0 W_8_f1 L_8
  have z9 := Z8.trans (y9.mono Z8.size)
  have Z9 := z9
  have cW9 := CW_8.trans (y9.mono CW_8.size)
  have CW_9 := cW9
  have B_9_c0 := B_9.c0
  have B_9_c1 := B_9.c1
  have X_9_c0 := X_9.c0
  have X_9_c1 := X_9.c1
  have F_9_c0 := F_9.c0
  have F_9_c1 := F_9.c1
  have G_9_c0 := G_9.c0
  have G_9_c1 := G_9.c1
  have W_9_c0 := W_9.c0
  have W_9_c1 := W_9.c1
  have W_9_f0 := W_9.f0
  have W_9_f1 := W_9.f1
  have CW_10 := (CW_9.setCell (p := ⟨w5.heap.size, 0, none⟩) (by simp) (.int .i64 4)).setCell (p := ⟨w5.heap.size, 1, none⟩) (by simp) (.int .i64 (-2))
  have Z10 := (Z9.setCell (p := ⟨w5.heap.size, 0, none⟩) (by have := z5.size; simp; omega) (.int .i64 4)).setCell (p := ⟨w5.heap.size, 1, none⟩) (by have := z5.size; simp; omega) (.int .i64 (-2))
  have R_10 := R_b.on CW_10
  have B_10 := B_b.on CW_10
  have RX_10 := RX_b.on CW_10
  have X_10 := X_b.on CW_10
  have F_10 := F_b.on CW_10
  have G_10 := G_b.on CW_10
  have W_10 := (W_9.set0 (.int .i64 4)).set1 (.int .i64 (-2))
  have L_10 := own_far_any (own_far_any L_9 (p := ⟨w5.heap.size, 0, none⟩) (own_two_ne L_9 W_9 (by decide)) (.int .i64 4)) (p := ⟨w5.heap.size, 1, none⟩) (own_two_ne L_9 W_9 (by decide)) (.int .i64 (-2))
  have B_10_c0 := B_10.c0
  have B_10_c1 := B_10.c1
  have X_10_c0 := X_10.c0
  have X_10_c1 := X_10.c1
  have F_10_c0 := F_10.c0
  have F_10_c1 := F_10.c1
  have G_10_c0 := G_10.c0
  have G_10_c1 := G_10.c1
  have W_10_c0 := W_10.c0
  have W_10_c1 := W_10.c1
  have W_10_f0 := W_10.f0
  have W_10_f1 := W_10.f1
  go_wp2_with fail
  refine (api_same (l := []) (l2 := []) RX_10 (Rd.none_ _) Is01.nil Is01.nil true (by decide) _ _ rfl rfl).mono ?_
  rintro e w11 ⟨rfl, y11⟩
  have R_11 := R_10.on y11
  have B_11 := B_10.on y11
  have RX_11 := RX_10.on y11
  have X_11 := X_10.on y11
  have F_11 := F_10.on y11
  have G_11 := G_10.on y11
  have W_11 := W_10.on y11
  have L_11 := own_on L_10 y11
  clear R_9 B_9 B_9_c0 B_9_c1 RX_9 X_9 X_9_c0 X_9_c1 F_9 F_9_c0 F_9_c1 G_9 G_9_c0 G_9_c1 W_9 W_9_c0 W_9_c1 W_9_f0 W_9_f1 L_9 R_10 B_10 B_10_c0 B_10_c1 RX_10 X_10 X_10_c0 X_10_c1 F_10 F_10_c0 F_10_c1 G_10 G_10_c0 G_10_c1 W_10 W_10_c0 W_10_c1 W_10_f0 W_10_f1 L_10
  have z11 := Z10.trans (y11.mono Z10.size)
  have Z11 := z11
  have cW11 := CW_10.trans (y11.mono CW_10.size)
  have CW_11 := cW11
  have B_11_c0 := B_11.c0
  have B_11_c1 := B_11.c1
  have X_11_c0 := X_11.c0
  have X_11_c1 := X_11.c1
  have F_11_c0 := F_11.c0
  have F_11_c1 := F_11.c1
  have G_11_c0 := G_11.c0
  have G_11_c1 := G_11.c1
  have W_11_c0 := W_11.c0
  have W_11_c1 := W_11.c1
  have W_11_f0 := W_11.f0
  have W_11_f1 := W_11.f1
  go_wp2_with fail
  refine (in_no _ 0 (l.length : Nat) _ HF.out).mono ?_
  rintro e w9_3 ⟨rfl, rfl⟩
  go_wp2_with fail
  go_region_held3 (fun w' => w'.cell? ⟨w2.heap.size, 0, none⟩ = some (.int .i64 4) ∧ w'.cell? ⟨w2.heap.size, 1, none⟩ = some (.int .i64 (-2))) (go_keep) ((go_at_call 16; refine (refat_any _ _ _).mono ?_; rintro e w12 ⟨rfl, y12⟩; have Y12 : Below w11.heap.size w11.drew w12 := y12; have G_12_c0 := ((Two.on (w := w11.drew) G_11 Y12)).c0; have G_12_c1 := ((Two.on (w := w11.drew) G_11 Y12)).c1))
  have R_12 := (Rd.on (w := w11.drew) R_11 Y12)
  have B_12 := (Two.on (w := w11.drew) B_11 Y12)
  have RX_12 := (Rd.on (w := w11.drew) RX_11 Y12)
  have X_12 := (Two.on (w := w11.drew) X_11 Y12)
  have F_12 := (Two.on (w := w11.drew) F_11 Y12)
  have G_12 := (Two.on (w := w11.drew) G_11 Y12)
  have W_12 := (Two.on (w := w11.drew) W_11 Y12)
  have L_12 := (own_on (w := w11.drew) L_11 Y12)
  have Z12 := (belowD Z11).trans (Y12.mono (belowD Z11).size)
  have CW_12 := (belowD CW_11).trans (Y12.mono (belowD CW_11).size)
  clear G_12_c0 G_12_c1
  clear R_11 B_11 B_11_c0 B_11_c1 RX_11 X_11 X_11_c0 X_11_c1 F_11 F_11_c0 F_11_c1 G_11 G_11_c0 G_11_c1 W_11 W_11_c0 W_11_c1 W_11_f0 W_11_f1 L_11
  have B_12_c0 := B_12.c0
  have B_12_c1 := B_12.c1
  have X_12_c0 := X_12.c0
  have X_12_c1 := X_12.c1
  have F_12_c0 := F_12.c0
  have F_12_c1 := F_12.c1
  have G_12_c0 := G_12.c0
  have G_12_c1 := G_12.c1
  have W_12_c0 := W_12.c0
  have W_12_c1 := W_12.c1
  have W_12_f0 := W_12.f0
  have W_12_f1 := W_12.f1
  go_wp2
  go_ret
  exact ⟨rfl, Z12⟩
set_option maxRecDepth 100000 in
set_option maxHeartbeats 3200000 in
theorem gm_31 {A : Option Addr} {n c : Nat} {l : List Nat} (h01 : Is01 l) (hl : l.length ≤ 131072) {x : Nat} (hx1 : 1 ≤ x) (hx2 : x < 9223372036854775808) (hx : 2147483647 < x) {f : Nat} (hf : f ≤ l.length) {cd : Nat} (hG : GAt l f 0 0 cd) (hc : cd ≠ 0)  (w : World) (h : Rd w A n c (bcells (pack l))) :
    Calls Try.prog 4 #[.agg #[.slice A n c, .int .i64 (l.length : Nat)], .int .i64 (x : Nat), .int .i64 (f : Nat)] w fun e w' => e = .returned (.bool true) ∧ Below w.heap.size w w' := by
  obtain ⟨i0, hi, hz0, hz1, hz2⟩ := info_parts int_info
  have H01 := Lib.hid h01
  have HLL := Lib.hid hl
  have HOK := Lib.hid (Ok.of_list h01 hl)
  clear h01
  have hgz : gsz x ≤ 125 := by have := bitLen_le64 x (by omega); unfold gsz; omega
  have HG := Lib.hid (fun W => gammaref_any x _ rfl hx1 hx2 W)
  have hc1 : ((cd : Int) != 0) = true := by rw [bne_iff_ne]; omega
  have hc2 : ((cd : Int) == 0) = false := by rw [beq_eq_false_iff_ne]; omega
  have HRG := Lib.hid (fun W (hW : Rd W A n c (bcells (pack l))) => rg_bad hW H01.out HLL.out hf hG hc)
  have HGA := Lib.hid hG
  clear hG hc
  have R_0 := (h).alloc (.cells #[.slice A n c, .int .i64 (l.length : Nat)] 24)
  have B_0 := (Two.new w 24 (.slice A n c) (.int .i64 (l.length : Nat)))
  have Z0 := (Below.refl w.heap.size w).alloc (by simp) (.cells #[.slice A n c, .int .i64 (l.length : Nat)] 24)
  have B_0_c0 := B_0.c0
  have B_0_c1 := B_0.c1
  go_enter Try.func4, Try.ntmps4
  go_wp2_with fail
  refine (agamma_high A n c l (x : Nat) _ _ R_0 (Nat.le_refl _) H01.out HLL.out (by omega)).mono ?_
  unfold flt noBits
  rintro e w1 ⟨rfl, y1⟩
  have R_1 := ((R_0.on y1).alloc (.cells #[.slice none 0 0, .int .i64 0] 24)).alloc (.cells #[.int .i64 4, .int .i64 (-2)] 26)
  have B_1 := ((B_0.on y1).alloc (.cells #[.slice none 0 0, .int .i64 0] 24)).alloc (.cells #[.int .i64 4, .int .i64 (-2)] 26)
  have RX_1 := ((Rd.none_ w1).alloc (.cells #[.slice none 0 0, .int .i64 0] 24)).alloc (.cells #[.int .i64 4, .int .i64 (-2)] 26)
  have X_1 := ((Two.new w1 24 (.slice none 0 0) (.int .i64 0))).alloc (.cells #[.int .i64 4, .int .i64 (-2)] 26)
  have F_1 := (Two.new1 w1 (.cells #[.slice none 0 0, .int .i64 0] 24) 26 (.int .i64 4) (.int .i64 (-2)))
  clear R_0 B_0 B_0_c0 B_0_c1
  have z1 := Z0.trans (y1.mono Z0.size)
  have Z1 := ((z1).alloc (by have := z1.size; omega) (.cells #[.slice none 0 0, .int .i64 0] 24)).alloc (by have := z1.size; simp; omega) (.cells #[.int .i64 4, .int .i64 (-2)] 26)
  have B_1_c0 := B_1.c0
  have B_1_c1 := B_1.c1
  have X_1_c0 := X_1.c0
  have X_1_c1 := X_1.c1
  have F_1_c0 := F_1.c0
  have F_1_c1 := F_1.c1
  go_wp2_with fail
  refine (HRG.out _ R_1).mono ?_
  rintro e w2 ⟨rfl, y2⟩
  have R_2 := (R_1.on y2).alloc (.cells #[.int .i64 (cd : Nat), .int .i64 (-2)] 26)
  have B_2 := (B_1.on y2).alloc (.cells #[.int .i64 (cd : Nat), .int .i64 (-2)] 26)
  have RX_2 := (RX_1.on y2).alloc (.cells #[.int .i64 (cd : Nat), .int .i64 (-2)] 26)
  have X_2 := (X_1.on y2).alloc (.cells #[.int .i64 (cd : Nat), .int .i64 (-2)] 26)
  have F_2 := (F_1.on y2).alloc (.cells #[.int .i64 (cd : Nat), .int .i64 (-2)] 26)
  have G_2 := (Two.new w2 26 (.int .i64 (cd : Nat)) (.int .i64 (-2)))
  clear R_1 B_1 B_1_c0 B_1_c1 RX_1 X_1 X_1_c0 X_1_c1 F_1 F_1_c0 F_1_c1
  have z2 := Z1.trans (y2.mono Z1.size)
  have Z2 := (z2).alloc (by have := z2.size; omega) (.cells #[.int .i64 (cd : Nat), .int .i64 (-2)] 26)
  have B_2_c0 := B_2.c0
  have B_2_c1 := B_2.c1
  have X_2_c0 := X_2.c0
  have X_2_c1 := X_2.c1
  have F_2_c0 := F_2.c0
  have F_2_c1 := F_2.c1
  have G_2_c0 := G_2.c0
  have G_2_c1 := G_2.c1
  go_wp2_with fail
  refine (strings_true _).mono ?_
  rintro e w3 ⟨rfl, y3⟩
  have R_3 := R_2.on y3
  have B_3 := B_2.on y3
  have RX_3 := RX_2.on y3
  have X_3 := X_2.on y3
  have F_3 := F_2.on y3
  have G_3 := G_2.on y3
  clear R_2 B_2 B_2_c0 B_2_c1 RX_2 X_2 X_2_c0 X_2_c1 F_2 F_2_c0 F_2_c1 G_2 G_2_c0 G_2_c1
  have z3 := Z2.trans (y3.mono Z2.size)
  have Z3 := z3
  have B_3_c0 := B_3.c0
  have B_3_c1 := B_3.c1
  have X_3_c0 := X_3.c0
  have X_3_c1 := X_3.c1
  have F_3_c0 := F_3.c0
  have F_3_c1 := F_3.c1
  have G_3_c0 := G_3.c0
  have G_3_c1 := G_3.c1
  go_wp2_with fail
  refine (api_gsize hx1 hx2).mono ?_
  rintro e w9_1 ⟨rfl, rfl⟩
  go_wp2_with fail
  refine (HG.out _).mono ?_
  rintro e w4 ⟨Ag, cg, rfl, og, y4⟩
  have R_4 := R_3.on y4
  have B_4 := B_3.on y4
  have RX_4 := RX_3.on y4
  have X_4 := X_3.on y4
  have F_4 := F_3.on y4
  have G_4 := G_3.on y4
  clear R_3 B_3 B_3_c0 B_3_c1 RX_3 X_3 X_3_c0 X_3_c1 F_3 F_3_c0 F_3_c1 G_3 G_3_c0 G_3_c1
  have z4 := Z3.trans (y4.mono Z3.size)
  have Z4 := z4
  have B_4_c0 := B_4.c0
  have B_4_c1 := B_4.c1
  have X_4_c0 := X_4.c0
  have X_4_c1 := X_4.c1
  have F_4_c0 := F_4.c0
  have F_4_c1 := F_4.c1
  have G_4_c0 := G_4.c0
  have G_4_c1 := G_4.c1
  go_wp2_with fail
  refine (refat_any _ _ _).mono ?_
  rintro e w5 ⟨rfl, y5⟩
  have R_5 := (R_4.on y5).alloc (.cells #[.int .i64 6, .int .i64 (-1)] 26)
  have B_5 := (B_4.on y5).alloc (.cells #[.int .i64 6, .int .i64 (-1)] 26)
  have RX_5 := (RX_4.on y5).alloc (.cells #[.int .i64 6, .int .i64 (-1)] 26)
  have X_5 := (X_4.on y5).alloc (.cells #[.int .i64 6, .int .i64 (-1)] 26)
  have F_5 := (F_4.on y5).alloc (.cells #[.int .i64 6, .int .i64 (-1)] 26)
  have G_5 := (G_4.on y5).alloc (.cells #[.int .i64 6, .int .i64 (-1)] 26)
  have R_b := R_4.on y5
  have B_b := B_4.on y5
  have RX_b := RX_4.on y5
  have X_b := X_4.on y5
  have F_b := F_4.on y5
  have G_b := G_4.on y5
  have W_5 := (Two.new w5 26 (.int .i64 6) (.int .i64 (-1)))
  clear R_4 B_4 B_4_c0 B_4_c1 RX_4 X_4 X_4_c0 X_4_c1 F_4 F_4_c0 F_4_c1 G_4 G_4_c0 G_4_c1
  have z5 := Z4.trans (y5.mono Z4.size)
  have Z5 := (z5).alloc (by have := z5.size; omega) (.cells #[.int .i64 6, .int .i64 (-1)] 26)
  have CW_5 := (Below.refl w5.heap.size w5).alloc (by simp) (.cells #[.int .i64 6, .int .i64 (-1)] 26)
  have B_5_c0 := B_5.c0
  have B_5_c1 := B_5.c1
  have X_5_c0 := X_5.c0
  have X_5_c1 := X_5.c1
  have F_5_c0 := F_5.c0
  have F_5_c1 := F_5.c1
  have G_5_c0 := G_5.c0
  have G_5_c1 := G_5.c1
  have W_5_c0 := W_5.c0
  have W_5_c1 := W_5.c1
  have W_5_f0 := W_5.f0
  have W_5_f1 := W_5.f1
  go_wp2_with fail
  refine (bitsok_any R_5 (pack_lt H01.out) (by omega) (by have := HLL.out; omega) true ⟨fun _ => HOK.out, fun _ => rfl⟩).mono ?_
  rintro e w6 ⟨rfl, y6⟩
  have R_6 := R_5.on y6
  have B_6 := B_5.on y6
  have RX_6 := RX_5.on y6
  have X_6 := X_5.on y6
  have F_6 := F_5.on y6
  have G_6 := G_5.on y6
  have W_6 := W_5.on y6
  clear R_5 B_5 B_5_c0 B_5_c1 RX_5 X_5 X_5_c0 X_5_c1 F_5 F_5_c0 F_5_c1 G_5 G_5_c0 G_5_c1 W_5 W_5_c0 W_5_c1 W_5_f0 W_5_f1
  have z6 := Z5.trans (y6.mono Z5.size)
  have Z6 := z6
  have cW6 := CW_5.trans (y6.mono CW_5.size)
  have CW_6 := cW6
  have B_6_c0 := B_6.c0
  have B_6_c1 := B_6.c1
  have X_6_c0 := X_6.c0
  have X_6_c1 := X_6.c1
  have F_6_c0 := F_6.c0
  have F_6_c1 := F_6.c1
  have G_6_c0 := G_6.c0
  have G_6_c1 := G_6.c1
  have W_6_c0 := W_6.c0
  have W_6_c1 := W_6.c1
  have W_6_f0 := W_6.f0
  have W_6_f1 := W_6.f1
  go_wp2_with fail
  refine (bits_any R_6 H01.out HLL.out _ rfl).mono ?_
  rintro e w7 ⟨Al, cl, rfl, hol, y7⟩
  have R_7 := R_6.on y7
  have B_7 := B_6.on y7
  have RX_7 := RX_6.on y7
  have X_7 := X_6.on y7
  have F_7 := F_6.on y7
  have G_7 := G_6.on y7
  have W_7 := W_6.on y7
  have L_7 := own_less hol CW_6.size
  clear R_6 B_6 B_6_c0 B_6_c1 RX_6 X_6 X_6_c0 X_6_c1 F_6 F_6_c0 F_6_c1 G_6 G_6_c0 G_6_c1 W_6 W_6_c0 W_6_c1 W_6_f0 W_6_f1
  have z7 := Z6.trans (y7.mono Z6.size)
  have Z7 := z7
  have cW7 := CW_6.trans (y7.mono CW_6.size)
  have CW_7 := cW7
  have B_7_c0 := B_7.c0
  have B_7_c1 := B_7.c1
  have X_7_c0 := X_7.c0
  have X_7_c1 := X_7.c1
  have F_7_c0 := F_7.c0
  have F_7_c1 := F_7.c1
  have G_7_c0 := G_7.c0
  have G_7_c1 := G_7.c1
  have W_7_c0 := W_7.c0
  have W_7_c1 := W_7.c1
  have W_7_f0 := W_7.f0
  have W_7_f1 := W_7.f1
  have CW_8 := (CW_7.setCell (p := ⟨w5.heap.size, 0, none⟩) (by simp) (.int .i64 0)).setCell (p := ⟨w5.heap.size, 1, none⟩) (by simp) (.int .i64 0)
  have Z8 := (Z7.setCell (p := ⟨w5.heap.size, 0, none⟩) (by have := z5.size; simp; omega) (.int .i64 0)).setCell (p := ⟨w5.heap.size, 1, none⟩) (by have := z5.size; simp; omega) (.int .i64 0)
  have R_8 := R_b.on CW_8
  have B_8 := B_b.on CW_8
  have RX_8 := RX_b.on CW_8
  have X_8 := X_b.on CW_8
  have F_8 := F_b.on CW_8
  have G_8 := G_b.on CW_8
  have W_8 := (W_7.set0 (.int .i64 0)).set1 (.int .i64 0)
  have L_8 := own_far_any (own_far_any L_7 (p := ⟨w5.heap.size, 0, none⟩) (own_two_ne L_7 W_7 (by decide)) (.int .i64 0)) (p := ⟨w5.heap.size, 1, none⟩) (own_two_ne L_7 W_7 (by decide)) (.int .i64 0)
  have B_8_c0 := B_8.c0
  have B_8_c1 := B_8.c1
  have X_8_c0 := X_8.c0
  have X_8_c1 := X_8.c1
  have F_8_c0 := F_8.c0
  have F_8_c1 := F_8.c1
  have G_8_c0 := G_8.c0
  have G_8_c1 := G_8.c1
  have W_8_c0 := W_8.c0
  have W_8_c1 := W_8.c1
  have W_8_f0 := W_8.f0
  have W_8_f1 := W_8.f1
  go_wp2_with fail
  refine (in_no (x : Nat) 1 2147483647 _ (by omega)).mono ?_
  rintro e w9_2 ⟨rfl, rfl⟩
  go_wp2_with fail
  refine (refat_any _ _ _).mono ?_
  rintro e w9 ⟨rfl, y9⟩
  have R_9 := R_8.on y9
  have B_9 := B_8.on y9
  have RX_9 := RX_8.on y9
  have X_9 := X_8.on y9
  have F_9 := F_8.on y9
  have G_9 := G_8.on y9
  have W_9 := W_8.on y9
  have L_9 := own_on L_8 y9
  clear R_7 B_7 B_7_c0 B_7_c1 RX_7 X_7 X_7_c0 X_7_c1 F_7 F_7_c0 F_7_c1 G_7 G_7_c0 G_7_c1 W_7 W_7_c0 W_7_c1 W_7_f0 W_7_f1 L_7 R_8 B_8 B_8_c0 B_8_c1 RX_8 X_8 X_8_c0 X_8_c1 F_8 F_8_c0 F_8_c1 G_8 G_8_c0 G_8_c1 W_8 W_8_c0 W_8_c1 W_8_f0 W_8_f1 L_8
  have z9 := Z8.trans (y9.mono Z8.size)
  have Z9 := z9
  have cW9 := CW_8.trans (y9.mono CW_8.size)
  have CW_9 := cW9
  have B_9_c0 := B_9.c0
  have B_9_c1 := B_9.c1
  have X_9_c0 := X_9.c0
  have X_9_c1 := X_9.c1
  have F_9_c0 := F_9.c0
  have F_9_c1 := F_9.c1
  have G_9_c0 := G_9.c0
  have G_9_c1 := G_9.c1
  have W_9_c0 := W_9.c0
  have W_9_c1 := W_9.c1
  have W_9_f0 := W_9.f0
  have W_9_f1 := W_9.f1
  have CW_10 := (CW_9.setCell (p := ⟨w5.heap.size, 0, none⟩) (by simp) (.int .i64 4)).setCell (p := ⟨w5.heap.size, 1, none⟩) (by simp) (.int .i64 (-2))
  have Z10 := (Z9.setCell (p := ⟨w5.heap.size, 0, none⟩) (by have := z5.size; simp; omega) (.int .i64 4)).setCell (p := ⟨w5.heap.size, 1, none⟩) (by have := z5.size; simp; omega) (.int .i64 (-2))
  have R_10 := R_b.on CW_10
  have B_10 := B_b.on CW_10
  have RX_10 := RX_b.on CW_10
  have X_10 := X_b.on CW_10
  have F_10 := F_b.on CW_10
  have G_10 := G_b.on CW_10
  have W_10 := (W_9.set0 (.int .i64 4)).set1 (.int .i64 (-2))
  have L_10 := own_far_any (own_far_any L_9 (p := ⟨w5.heap.size, 0, none⟩) (own_two_ne L_9 W_9 (by decide)) (.int .i64 4)) (p := ⟨w5.heap.size, 1, none⟩) (own_two_ne L_9 W_9 (by decide)) (.int .i64 (-2))
  have B_10_c0 := B_10.c0
  have B_10_c1 := B_10.c1
  have X_10_c0 := X_10.c0
  have X_10_c1 := X_10.c1
  have F_10_c0 := F_10.c0
  have F_10_c1 := F_10.c1
  have G_10_c0 := G_10.c0
  have G_10_c1 := G_10.c1
  have W_10_c0 := W_10.c0
  have W_10_c1 := W_10.c1
  have W_10_f0 := W_10.f0
  have W_10_f1 := W_10.f1
  go_wp2_with fail
  refine (api_same (l := []) (l2 := []) RX_10 (Rd.none_ _) Is01.nil Is01.nil true (by decide) _ _ rfl rfl).mono ?_
  rintro e w11 ⟨rfl, y11⟩
  have R_11 := R_10.on y11
  have B_11 := B_10.on y11
  have RX_11 := RX_10.on y11
  have X_11 := X_10.on y11
  have F_11 := F_10.on y11
  have G_11 := G_10.on y11
  have W_11 := W_10.on y11
  have L_11 := own_on L_10 y11
  clear R_9 B_9 B_9_c0 B_9_c1 RX_9 X_9 X_9_c0 X_9_c1 F_9 F_9_c0 F_9_c1 G_9 G_9_c0 G_9_c1 W_9 W_9_c0 W_9_c1 W_9_f0 W_9_f1 L_9 R_10 B_10 B_10_c0 B_10_c1 RX_10 X_10 X_10_c0 X_10_c1 F_10 F_10_c0 F_10_c1 G_10 G_10_c0 G_10_c1 W_10 W_10_c0 W_10_c1 W_10_f0 W_10_f1 L_10
  have z11 := Z10.trans (y11.mono Z10.size)
  have Z11 := z11
  have cW11 := CW_10.trans (y11.mono CW_10.size)
  have CW_11 := cW11
  have B_11_c0 := B_11.c0
  have B_11_c1 := B_11.c1
  have X_11_c0 := X_11.c0
  have X_11_c1 := X_11.c1
  have F_11_c0 := F_11.c0
  have F_11_c1 := F_11.c1
  have G_11_c0 := G_11.c0
  have G_11_c1 := G_11.c1
  have W_11_c0 := W_11.c0
  have W_11_c1 := W_11.c1
  have W_11_f0 := W_11.f0
  have W_11_f1 := W_11.f1
  go_wp2_with fail
  refine (in_yes (f : Nat) 0 (l.length : Nat) _ (by omega) (by omega)).mono ?_
  rintro e w9_3 ⟨rfl, rfl⟩
  go_wp2_with fail
  refine (gammaat_any (Rd.own L_11) H01.out (by have := HLL.out; omega) hf rfl HGA.out).mono ?_
  rintro e w9_4 ⟨rfl, rfl⟩
  go_wp2_with fail
  go_quiet (fail)
  have R_12 := Rd.drewN R_11 nq
  have B_12 := Two.drewN B_11 nq
  have RX_12 := Rd.drewN RX_11 nq
  have X_12 := Two.drewN X_11 nq
  have F_12 := Two.drewN F_11 nq
  have G_12 := Two.drewN G_11 nq
  have W_12 := Two.drewN W_11 nq
  have L_12 := own_drewN L_11 nq
  have Z12 := belowN Z11 nq
  have CW_12 := belowN CW_11 nq
  clear R_11 B_11 B_11_c0 B_11_c1 RX_11 X_11 X_11_c0 X_11_c1 F_11 F_11_c0 F_11_c1 G_11 G_11_c0 G_11_c1 W_11 W_11_c0 W_11_c1 W_11_f0 W_11_f1 L_11
  obtain ⟨w12, hw12⟩ : ∃ w12, w12 = w11.drewN nq := ⟨_, rfl⟩
  rw [← hw12] at R_12 B_12 RX_12 X_12 F_12 G_12 W_12 L_12 Z12 CW_12
  rw [← hw12]
  clear hw12
  have B_12_c0 := B_12.c0
  have B_12_c1 := B_12.c1
  have X_12_c0 := X_12.c0
  have X_12_c1 := X_12.c1
  have F_12_c0 := F_12.c0
  have F_12_c1 := F_12.c1
  have G_12_c0 := G_12.c0
  have G_12_c1 := G_12.c1
  have W_12_c0 := W_12.c0
  have W_12_c1 := W_12.c1
  have W_12_f0 := W_12.f0
  have W_12_f1 := W_12.f1
  go_wp2_with fail
  go_region_held3 (fun w' => w'.cell? ⟨w2.heap.size, 0, none⟩ = some (.int .i64 (cd : Nat)) ∧ w'.cell? ⟨w2.heap.size, 1, none⟩ = some (.int .i64 (-2))) (go_keep) ((go_at_call 16; refine (refat_any _ _ _).mono ?_; rintro e w13 ⟨rfl, y13⟩; have Y13 : Below w12.heap.size w12.drew w13 := y13; have G_13_c0 := ((Two.on (w := w12.drew) G_12 Y13)).c0; have G_13_c1 := ((Two.on (w := w12.drew) G_12 Y13)).c1))
  have R_13 := (Rd.on (w := w12.drew) R_12 Y13)
  have B_13 := (Two.on (w := w12.drew) B_12 Y13)
  have RX_13 := (Rd.on (w := w12.drew) RX_12 Y13)
  have X_13 := (Two.on (w := w12.drew) X_12 Y13)
  have F_13 := (Two.on (w := w12.drew) F_12 Y13)
  have G_13 := (Two.on (w := w12.drew) G_12 Y13)
  have W_13 := (Two.on (w := w12.drew) W_12 Y13)
  have L_13 := (own_on (w := w12.drew) L_12 Y13)
  have Z13 := (belowD Z12).trans (Y13.mono (belowD Z12).size)
  have CW_13 := (belowD CW_12).trans (Y13.mono (belowD CW_12).size)
  clear G_13_c0 G_13_c1
  clear R_12 B_12 B_12_c0 B_12_c1 RX_12 X_12 X_12_c0 X_12_c1 F_12 F_12_c0 F_12_c1 G_12 G_12_c0 G_12_c1 W_12 W_12_c0 W_12_c1 W_12_f0 W_12_f1 L_12
  have B_13_c0 := B_13.c0
  have B_13_c1 := B_13.c1
  have X_13_c0 := X_13.c0
  have X_13_c1 := X_13.c1
  have F_13_c0 := F_13.c0
  have F_13_c1 := F_13.c1
  have G_13_c0 := G_13.c0
  have G_13_c1 := G_13.c1
  have W_13_c0 := W_13.c0
  have W_13_c1 := W_13.c1
  have W_13_f0 := W_13.f0
  have W_13_f1 := W_13.f1
  go_wp2
  go_ret
  exact ⟨rfl, Z13⟩
set_option maxRecDepth 100000 in
set_option maxHeartbeats 3200000 in
theorem gm_32 {A : Option Addr} {n c : Nat} {l : List Nat} (h01 : Is01 l) (hl : l.length ≤ 131072) {x : Nat} (hx1 : 1 ≤ x) (hx2 : x < 9223372036854775808) (hx : 2147483647 < x) {f : Nat} (hf : f ≤ l.length) {v e1 : Nat} (hG : GAt l f v e1 0)  (w : World) (h : Rd w A n c (bcells (pack l))) :
    Calls Try.prog 4 #[.agg #[.slice A n c, .int .i64 (l.length : Nat)], .int .i64 (x : Nat), .int .i64 (f : Nat)] w fun e w' => e = .returned (.bool true) ∧ Below w.heap.size w w' := by
  obtain ⟨i0, hi, hz0, hz1, hz2⟩ := info_parts int_info
  have H01 := Lib.hid h01
  have HLL := Lib.hid hl
  have HOK := Lib.hid (Ok.of_list h01 hl)
  clear h01
  have hgz : gsz x ≤ 125 := by have := bitLen_le64 x (by omega); unfold gsz; omega
  have HG := Lib.hid (fun W => gammaref_any x _ rfl hx1 hx2 W)
  have HRG := Lib.hid (fun W (hW : Rd W A n c (bcells (pack l))) => rg_ok hW H01.out HLL.out hf hG)
  have HGA := Lib.hid hG
  clear hG
  have R_0 := (h).alloc (.cells #[.slice A n c, .int .i64 (l.length : Nat)] 24)
  have B_0 := (Two.new w 24 (.slice A n c) (.int .i64 (l.length : Nat)))
  have Z0 := (Below.refl w.heap.size w).alloc (by simp) (.cells #[.slice A n c, .int .i64 (l.length : Nat)] 24)
  have B_0_c0 := B_0.c0
  have B_0_c1 := B_0.c1
  go_enter Try.func4, Try.ntmps4
  go_wp2_with fail
  refine (agamma_high A n c l (x : Nat) _ _ R_0 (Nat.le_refl _) H01.out HLL.out (by omega)).mono ?_
  unfold flt noBits
  rintro e w1 ⟨rfl, y1⟩
  have R_1 := ((R_0.on y1).alloc (.cells #[.slice none 0 0, .int .i64 0] 24)).alloc (.cells #[.int .i64 4, .int .i64 (-2)] 26)
  have B_1 := ((B_0.on y1).alloc (.cells #[.slice none 0 0, .int .i64 0] 24)).alloc (.cells #[.int .i64 4, .int .i64 (-2)] 26)
  have RX_1 := ((Rd.none_ w1).alloc (.cells #[.slice none 0 0, .int .i64 0] 24)).alloc (.cells #[.int .i64 4, .int .i64 (-2)] 26)
  have X_1 := ((Two.new w1 24 (.slice none 0 0) (.int .i64 0))).alloc (.cells #[.int .i64 4, .int .i64 (-2)] 26)
  have F_1 := (Two.new1 w1 (.cells #[.slice none 0 0, .int .i64 0] 24) 26 (.int .i64 4) (.int .i64 (-2)))
  clear R_0 B_0 B_0_c0 B_0_c1
  have z1 := Z0.trans (y1.mono Z0.size)
  have Z1 := ((z1).alloc (by have := z1.size; omega) (.cells #[.slice none 0 0, .int .i64 0] 24)).alloc (by have := z1.size; simp; omega) (.cells #[.int .i64 4, .int .i64 (-2)] 26)
  have B_1_c0 := B_1.c0
  have B_1_c1 := B_1.c1
  have X_1_c0 := X_1.c0
  have X_1_c1 := X_1.c1
  have F_1_c0 := F_1.c0
  have F_1_c1 := F_1.c1
  go_wp2_with fail
  refine (HRG.out _ R_1).mono ?_
  rintro e w2 ⟨rfl, y2⟩
  have R_2 := (R_1.on y2).alloc (.cells #[.int .i64 0, .int .i64 0] 26)
  have B_2 := (B_1.on y2).alloc (.cells #[.int .i64 0, .int .i64 0] 26)
  have RX_2 := (RX_1.on y2).alloc (.cells #[.int .i64 0, .int .i64 0] 26)
  have X_2 := (X_1.on y2).alloc (.cells #[.int .i64 0, .int .i64 0] 26)
  have F_2 := (F_1.on y2).alloc (.cells #[.int .i64 0, .int .i64 0] 26)
  have G_2 := (Two.new w2 26 (.int .i64 0) (.int .i64 0))
  clear R_1 B_1 B_1_c0 B_1_c1 RX_1 X_1 X_1_c0 X_1_c1 F_1 F_1_c0 F_1_c1
  have z2 := Z1.trans (y2.mono Z1.size)
  have Z2 := (z2).alloc (by have := z2.size; omega) (.cells #[.int .i64 0, .int .i64 0] 26)
  have B_2_c0 := B_2.c0
  have B_2_c1 := B_2.c1
  have X_2_c0 := X_2.c0
  have X_2_c1 := X_2.c1
  have F_2_c0 := F_2.c0
  have F_2_c1 := F_2.c1
  have G_2_c0 := G_2.c0
  have G_2_c1 := G_2.c1
  go_wp2_with fail
  refine (strings_true _).mono ?_
  rintro e w3 ⟨rfl, y3⟩
  have R_3 := R_2.on y3
  have B_3 := B_2.on y3
  have RX_3 := RX_2.on y3
  have X_3 := X_2.on y3
  have F_3 := F_2.on y3
  have G_3 := G_2.on y3
  clear R_2 B_2 B_2_c0 B_2_c1 RX_2 X_2 X_2_c0 X_2_c1 F_2 F_2_c0 F_2_c1 G_2 G_2_c0 G_2_c1
  have z3 := Z2.trans (y3.mono Z2.size)
  have Z3 := z3
  have B_3_c0 := B_3.c0
  have B_3_c1 := B_3.c1
  have X_3_c0 := X_3.c0
  have X_3_c1 := X_3.c1
  have F_3_c0 := F_3.c0
  have F_3_c1 := F_3.c1
  have G_3_c0 := G_3.c0
  have G_3_c1 := G_3.c1
  go_wp2_with fail
  refine (api_gsize hx1 hx2).mono ?_
  rintro e w9_1 ⟨rfl, rfl⟩
  go_wp2_with fail
  refine (HG.out _).mono ?_
  rintro e w4 ⟨Ag, cg, rfl, og, y4⟩
  have R_4 := R_3.on y4
  have B_4 := B_3.on y4
  have RX_4 := RX_3.on y4
  have X_4 := X_3.on y4
  have F_4 := F_3.on y4
  have G_4 := G_3.on y4
  clear R_3 B_3 B_3_c0 B_3_c1 RX_3 X_3 X_3_c0 X_3_c1 F_3 F_3_c0 F_3_c1 G_3 G_3_c0 G_3_c1
  have z4 := Z3.trans (y4.mono Z3.size)
  have Z4 := z4
  have B_4_c0 := B_4.c0
  have B_4_c1 := B_4.c1
  have X_4_c0 := X_4.c0
  have X_4_c1 := X_4.c1
  have F_4_c0 := F_4.c0
  have F_4_c1 := F_4.c1
  have G_4_c0 := G_4.c0
  have G_4_c1 := G_4.c1
  go_wp2_with fail
  refine (refat_any _ _ _).mono ?_
  rintro e w5 ⟨rfl, y5⟩
  have R_5 := (R_4.on y5).alloc (.cells #[.int .i64 6, .int .i64 (-1)] 26)
  have B_5 := (B_4.on y5).alloc (.cells #[.int .i64 6, .int .i64 (-1)] 26)
  have RX_5 := (RX_4.on y5).alloc (.cells #[.int .i64 6, .int .i64 (-1)] 26)
  have X_5 := (X_4.on y5).alloc (.cells #[.int .i64 6, .int .i64 (-1)] 26)
  have F_5 := (F_4.on y5).alloc (.cells #[.int .i64 6, .int .i64 (-1)] 26)
  have G_5 := (G_4.on y5).alloc (.cells #[.int .i64 6, .int .i64 (-1)] 26)
  have R_b := R_4.on y5
  have B_b := B_4.on y5
  have RX_b := RX_4.on y5
  have X_b := X_4.on y5
  have F_b := F_4.on y5
  have G_b := G_4.on y5
  have W_5 := (Two.new w5 26 (.int .i64 6) (.int .i64 (-1)))
  clear R_4 B_4 B_4_c0 B_4_c1 RX_4 X_4 X_4_c0 X_4_c1 F_4 F_4_c0 F_4_c1 G_4 G_4_c0 G_4_c1
  have z5 := Z4.trans (y5.mono Z4.size)
  have Z5 := (z5).alloc (by have := z5.size; omega) (.cells #[.int .i64 6, .int .i64 (-1)] 26)
  have CW_5 := (Below.refl w5.heap.size w5).alloc (by simp) (.cells #[.int .i64 6, .int .i64 (-1)] 26)
  have B_5_c0 := B_5.c0
  have B_5_c1 := B_5.c1
  have X_5_c0 := X_5.c0
  have X_5_c1 := X_5.c1
  have F_5_c0 := F_5.c0
  have F_5_c1 := F_5.c1
  have G_5_c0 := G_5.c0
  have G_5_c1 := G_5.c1
  have W_5_c0 := W_5.c0
  have W_5_c1 := W_5.c1
  have W_5_f0 := W_5.f0
  have W_5_f1 := W_5.f1
  go_wp2_with fail
  refine (bitsok_any R_5 (pack_lt H01.out) (by omega) (by have := HLL.out; omega) true ⟨fun _ => HOK.out, fun _ => rfl⟩).mono ?_
  rintro e w6 ⟨rfl, y6⟩
  have R_6 := R_5.on y6
  have B_6 := B_5.on y6
  have RX_6 := RX_5.on y6
  have X_6 := X_5.on y6
  have F_6 := F_5.on y6
  have G_6 := G_5.on y6
  have W_6 := W_5.on y6
  clear R_5 B_5 B_5_c0 B_5_c1 RX_5 X_5 X_5_c0 X_5_c1 F_5 F_5_c0 F_5_c1 G_5 G_5_c0 G_5_c1 W_5 W_5_c0 W_5_c1 W_5_f0 W_5_f1
  have z6 := Z5.trans (y6.mono Z5.size)
  have Z6 := z6
  have cW6 := CW_5.trans (y6.mono CW_5.size)
  have CW_6 := cW6
  have B_6_c0 := B_6.c0
  have B_6_c1 := B_6.c1
  have X_6_c0 := X_6.c0
  have X_6_c1 := X_6.c1
  have F_6_c0 := F_6.c0
  have F_6_c1 := F_6.c1
  have G_6_c0 := G_6.c0
  have G_6_c1 := G_6.c1
  have W_6_c0 := W_6.c0
  have W_6_c1 := W_6.c1
  have W_6_f0 := W_6.f0
  have W_6_f1 := W_6.f1
  go_wp2_with fail
  refine (bits_any R_6 H01.out HLL.out _ rfl).mono ?_
  rintro e w7 ⟨Al, cl, rfl, hol, y7⟩
  have R_7 := R_6.on y7
  have B_7 := B_6.on y7
  have RX_7 := RX_6.on y7
  have X_7 := X_6.on y7
  have F_7 := F_6.on y7
  have G_7 := G_6.on y7
  have W_7 := W_6.on y7
  have L_7 := own_less hol CW_6.size
  clear R_6 B_6 B_6_c0 B_6_c1 RX_6 X_6 X_6_c0 X_6_c1 F_6 F_6_c0 F_6_c1 G_6 G_6_c0 G_6_c1 W_6 W_6_c0 W_6_c1 W_6_f0 W_6_f1
  have z7 := Z6.trans (y7.mono Z6.size)
  have Z7 := z7
  have cW7 := CW_6.trans (y7.mono CW_6.size)
  have CW_7 := cW7
  have B_7_c0 := B_7.c0
  have B_7_c1 := B_7.c1
  have X_7_c0 := X_7.c0
  have X_7_c1 := X_7.c1
  have F_7_c0 := F_7.c0
  have F_7_c1 := F_7.c1
  have G_7_c0 := G_7.c0
  have G_7_c1 := G_7.c1
  have W_7_c0 := W_7.c0
  have W_7_c1 := W_7.c1
  have W_7_f0 := W_7.f0
  have W_7_f1 := W_7.f1
  have CW_8 := (CW_7.setCell (p := ⟨w5.heap.size, 0, none⟩) (by simp) (.int .i64 0)).setCell (p := ⟨w5.heap.size, 1, none⟩) (by simp) (.int .i64 0)
  have Z8 := (Z7.setCell (p := ⟨w5.heap.size, 0, none⟩) (by have := z5.size; simp; omega) (.int .i64 0)).setCell (p := ⟨w5.heap.size, 1, none⟩) (by have := z5.size; simp; omega) (.int .i64 0)
  have R_8 := R_b.on CW_8
  have B_8 := B_b.on CW_8
  have RX_8 := RX_b.on CW_8
  have X_8 := X_b.on CW_8
  have F_8 := F_b.on CW_8
  have G_8 := G_b.on CW_8
  have W_8 := (W_7.set0 (.int .i64 0)).set1 (.int .i64 0)
  have L_8 := own_far_any (own_far_any L_7 (p := ⟨w5.heap.size, 0, none⟩) (own_two_ne L_7 W_7 (by decide)) (.int .i64 0)) (p := ⟨w5.heap.size, 1, none⟩) (own_two_ne L_7 W_7 (by decide)) (.int .i64 0)
  have B_8_c0 := B_8.c0
  have B_8_c1 := B_8.c1
  have X_8_c0 := X_8.c0
  have X_8_c1 := X_8.c1
  have F_8_c0 := F_8.c0
  have F_8_c1 := F_8.c1
  have G_8_c0 := G_8.c0
  have G_8_c1 := G_8.c1
  have W_8_c0 := W_8.c0
  have W_8_c1 := W_8.c1
  have W_8_f0 := W_8.f0
  have W_8_f1 := W_8.f1
  go_wp2_with fail
  refine (in_no (x : Nat) 1 2147483647 _ (by omega)).mono ?_
  rintro e w9_2 ⟨rfl, rfl⟩
  go_wp2_with fail
  refine (refat_any _ _ _).mono ?_
  rintro e w9 ⟨rfl, y9⟩
  have R_9 := R_8.on y9
  have B_9 := B_8.on y9
  have RX_9 := RX_8.on y9
  have X_9 := X_8.on y9
  have F_9 := F_8.on y9
  have G_9 := G_8.on y9
  have W_9 := W_8.on y9
  have L_9 := own_on L_8 y9
  clear R_7 B_7 B_7_c0 B_7_c1 RX_7 X_7 X_7_c0 X_7_c1 F_7 F_7_c0 F_7_c1 G_7 G_7_c0 G_7_c1 W_7 W_7_c0 W_7_c1 W_7_f0 W_7_f1 L_7 R_8 B_8 B_8_c0 B_8_c1 RX_8 X_8 X_8_c0 X_8_c1 F_8 F_8_c0 F_8_c1 G_8 G_8_c0 G_8_c1 W_8 W_8_c0 W_8_c1 W_8_f0 W_8_f1 L_8
  have z9 := Z8.trans (y9.mono Z8.size)
  have Z9 := z9
  have cW9 := CW_8.trans (y9.mono CW_8.size)
  have CW_9 := cW9
  have B_9_c0 := B_9.c0
  have B_9_c1 := B_9.c1
  have X_9_c0 := X_9.c0
  have X_9_c1 := X_9.c1
  have F_9_c0 := F_9.c0
  have F_9_c1 := F_9.c1
  have G_9_c0 := G_9.c0
  have G_9_c1 := G_9.c1
  have W_9_c0 := W_9.c0
  have W_9_c1 := W_9.c1
  have W_9_f0 := W_9.f0
  have W_9_f1 := W_9.f1
  have CW_10 := (CW_9.setCell (p := ⟨w5.heap.size, 0, none⟩) (by simp) (.int .i64 4)).setCell (p := ⟨w5.heap.size, 1, none⟩) (by simp) (.int .i64 (-2))
  have Z10 := (Z9.setCell (p := ⟨w5.heap.size, 0, none⟩) (by have := z5.size; simp; omega) (.int .i64 4)).setCell (p := ⟨w5.heap.size, 1, none⟩) (by have := z5.size; simp; omega) (.int .i64 (-2))
  have R_10 := R_b.on CW_10
  have B_10 := B_b.on CW_10
  have RX_10 := RX_b.on CW_10
  have X_10 := X_b.on CW_10
  have F_10 := F_b.on CW_10
  have G_10 := G_b.on CW_10
  have W_10 := (W_9.set0 (.int .i64 4)).set1 (.int .i64 (-2))
  have L_10 := own_far_any (own_far_any L_9 (p := ⟨w5.heap.size, 0, none⟩) (own_two_ne L_9 W_9 (by decide)) (.int .i64 4)) (p := ⟨w5.heap.size, 1, none⟩) (own_two_ne L_9 W_9 (by decide)) (.int .i64 (-2))
  have B_10_c0 := B_10.c0
  have B_10_c1 := B_10.c1
  have X_10_c0 := X_10.c0
  have X_10_c1 := X_10.c1
  have F_10_c0 := F_10.c0
  have F_10_c1 := F_10.c1
  have G_10_c0 := G_10.c0
  have G_10_c1 := G_10.c1
  have W_10_c0 := W_10.c0
  have W_10_c1 := W_10.c1
  have W_10_f0 := W_10.f0
  have W_10_f1 := W_10.f1
  go_wp2_with fail
  refine (api_same (l := []) (l2 := []) RX_10 (Rd.none_ _) Is01.nil Is01.nil true (by decide) _ _ rfl rfl).mono ?_
  rintro e w11 ⟨rfl, y11⟩
  have R_11 := R_10.on y11
  have B_11 := B_10.on y11
  have RX_11 := RX_10.on y11
  have X_11 := X_10.on y11
  have F_11 := F_10.on y11
  have G_11 := G_10.on y11
  have W_11 := W_10.on y11
  have L_11 := own_on L_10 y11
  clear R_9 B_9 B_9_c0 B_9_c1 RX_9 X_9 X_9_c0 X_9_c1 F_9 F_9_c0 F_9_c1 G_9 G_9_c0 G_9_c1 W_9 W_9_c0 W_9_c1 W_9_f0 W_9_f1 L_9 R_10 B_10 B_10_c0 B_10_c1 RX_10 X_10 X_10_c0 X_10_c1 F_10 F_10_c0 F_10_c1 G_10 G_10_c0 G_10_c1 W_10 W_10_c0 W_10_c1 W_10_f0 W_10_f1 L_10
  have z11 := Z10.trans (y11.mono Z10.size)
  have Z11 := z11
  have cW11 := CW_10.trans (y11.mono CW_10.size)
  have CW_11 := cW11
  have B_11_c0 := B_11.c0
  have B_11_c1 := B_11.c1
  have X_11_c0 := X_11.c0
  have X_11_c1 := X_11.c1
  have F_11_c0 := F_11.c0
  have F_11_c1 := F_11.c1
  have G_11_c0 := G_11.c0
  have G_11_c1 := G_11.c1
  have W_11_c0 := W_11.c0
  have W_11_c1 := W_11.c1
  have W_11_f0 := W_11.f0
  have W_11_f1 := W_11.f1
  go_wp2_with fail
  refine (in_yes (f : Nat) 0 (l.length : Nat) _ (by omega) (by omega)).mono ?_
  rintro e w9_3 ⟨rfl, rfl⟩
  go_wp2_with fail
  refine (gammaat_any (Rd.own L_11) H01.out (by have := HLL.out; omega) hf rfl HGA.out).mono ?_
  rintro e w9_4 ⟨rfl, rfl⟩
  go_wp2_with fail
  go_quiet (fail)
  have R_12 := Rd.drewN R_11 nq
  have B_12 := Two.drewN B_11 nq
  have RX_12 := Rd.drewN RX_11 nq
  have X_12 := Two.drewN X_11 nq
  have F_12 := Two.drewN F_11 nq
  have G_12 := Two.drewN G_11 nq
  have W_12 := Two.drewN W_11 nq
  have L_12 := own_drewN L_11 nq
  have Z12 := belowN Z11 nq
  have CW_12 := belowN CW_11 nq
  clear R_11 B_11 B_11_c0 B_11_c1 RX_11 X_11 X_11_c0 X_11_c1 F_11 F_11_c0 F_11_c1 G_11 G_11_c0 G_11_c1 W_11 W_11_c0 W_11_c1 W_11_f0 W_11_f1 L_11
  obtain ⟨w12, hw12⟩ : ∃ w12, w12 = w11.drewN nq := ⟨_, rfl⟩
  rw [← hw12] at R_12 B_12 RX_12 X_12 F_12 G_12 W_12 L_12 Z12 CW_12
  rw [← hw12]
  clear hw12
  have B_12_c0 := B_12.c0
  have B_12_c1 := B_12.c1
  have X_12_c0 := X_12.c0
  have X_12_c1 := X_12.c1
  have F_12_c0 := F_12.c0
  have F_12_c1 := F_12.c1
  have G_12_c0 := G_12.c0
  have G_12_c1 := G_12.c1
  have W_12_c0 := W_12.c0
  have W_12_c1 := W_12.c1
  have W_12_f0 := W_12.f0
  have W_12_f1 := W_12.f1
  go_wp2
  go_ret
  exact ⟨rfl, Z12⟩
theorem gammalaw_all {A : Option Addr} {n c : Nat} {d : List Nat} {cnt x f : Int} (hd : ∀ k, d.getD k 0 < 256) (hlo : -9223372036854775808 ≤ cnt) (hhi : cnt ≤ 9223372036854775807) (hv : x < 9223372036854775808) (w : World) (h : Rd w A n c (bcells d)) :
    Calls Try.prog 4 #[.agg #[.slice A n c, .int .i64 cnt], .int .i64 x, .int .i64 f] w fun e w' => e = .returned (.bool true) ∧ Below w.heap.size w w' := by
  by_cases hok : Ok d cnt
  case neg =>
    by_cases hx : x < 1
    · exact gm_b0 hd hlo hhi hok hx w h
    · obtain ⟨y, rfl⟩ := Int.eq_ofNat_of_zero_le (show 0 ≤ x by omega)
      exact gm_b1 hd hlo hhi hok (by omega) (by omega) w h
  obtain ⟨l, g1, g2, rfl, rfl⟩ := hok.list hd
  have hF : (f < 0 ∨ (l.length : Int) < f) ∨ ∃ g : Nat, f = (g : Nat) ∧ g ≤ l.length ∧ ((∃ cd, GAt l g 0 0 cd ∧ cd ≠ 0) ∨ ∃ v e1, GAt l g v e1 0) := by
    by_cases h1 : f < 0 ∨ (l.length : Int) < f
    · exact .inl h1
    · obtain ⟨g, rfl⟩ := Int.eq_ofNat_of_zero_le (show 0 ≤ f by omega)
      refine .inr ⟨g, rfl, by omega, ?_⟩
      obtain ⟨v, e, c, hG⟩ := gat_ex l g
      have hG' := hG
      rcases hG with ⟨_, rfl, rfl, rfl⟩ | ⟨_, _, rfl, rfl, rfl⟩ | ⟨_, _, _, _, rfl⟩
      · exact .inl ⟨16, hG', by decide⟩
      · exact .inl ⟨15, hG', by decide⟩
      · exact .inr ⟨v, e, hG'⟩
  by_cases hx : x < 1
  · rcases hF with hf | ⟨g, rfl, hf, ⟨cd, hG, hc⟩ | ⟨v, e1, hG⟩⟩
    · exact gm_00 g1 g2 hx hf w h
    · exact gm_01 g1 g2 hx hf hG hc w h
    · exact gm_02 g1 g2 hx hf hG w h
  obtain ⟨y, rfl⟩ := Int.eq_ofNat_of_zero_le (show 0 ≤ x by omega)
  by_cases hy : 2147483647 < y
  · rcases hF with hf | ⟨g, rfl, hf, ⟨cd, hG, hc⟩ | ⟨v, e1, hG⟩⟩
    · exact gm_30 g1 g2 (by omega) (by omega) hy hf w h
    · exact gm_31 g1 g2 (by omega) (by omega) hy hf hG hc w h
    · exact gm_32 g1 g2 (by omega) (by omega) hy hf hG w h
  by_cases hs : l.length + gsz y ≤ 131072
  · rcases hF with hf | ⟨g, rfl, hf, ⟨cd, hG, hc⟩ | ⟨v, e1, hG⟩⟩
    · exact gm_10 g1 g2 (by omega) (by omega) (by omega) hs hf w h
    · exact gm_11 g1 g2 (by omega) (by omega) (by omega) hs hf hG hc w h
    · exact gm_12 g1 g2 (by omega) (by omega) (by omega) hs hf hG w h
  · rcases hF with hf | ⟨g, rfl, hf, ⟨cd, hG, hc⟩ | ⟨v, e1, hG⟩⟩
    · exact gm_20 g1 g2 (by omega) (by omega) (by omega) (by omega) hf w h
    · exact gm_21 g1 g2 (by omega) (by omega) (by omega) (by omega) hf hG hc w h
    · exact gm_22 g1 g2 (by omega) (by omega) (by omega) (by omega) hf hG w h
end PB
end Go.Proofs.Ytcmglfgibedpbaa
