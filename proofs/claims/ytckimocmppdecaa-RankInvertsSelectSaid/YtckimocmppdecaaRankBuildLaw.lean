/-
  Vectors and their validity are as specified: the walk of the statement RankBuildMatchesSpec.
-/
import Derived.Test.YtckimocmppdecaaRows
import Derived.Test.YtckimocmppdecaaRankEx
import Derived.Deep.RegionHeld3
import Derived.Deep.DrawnRows
namespace Go.Proofs.Ytckimocmppdecaa
open Go.RowKit
attribute [local go_sem ↓] Go.wp_at_zero Go.wp_at_succ
set_option linter.unusedVariables false
set_option linter.unusedSimpArgs false
namespace PB
theorem Rd.nil_ints (w : World) : Rd w none 0 0 (icells []) := Reads.nil _ _ none 0 (Nat.zero_le _)
theorem vectorok_bad {A : Option Addr} {n c : Nat} {d : List Nat} {cnt : Int} {A2 : Option Addr} {n2 c2 : Nat} {zs : List Int} {w : World} (h : Rd w A n c (bcells d)) (h2 : Rd w A2 n2 c2 (icells zs)) (hd : ∀ k, d.getD k 0 < 256) (hlo : -9223372036854775808 ≤ cnt) (hhi : cnt ≤ 9223372036854775807) (hV : VNo d cnt zs) :
    Calls Try.prog 11 #[.agg #[.slice A n c, .int .i64 cnt, .slice A2 n2 c2]] w fun e w' => e = .returned (.bool false) ∧ Below w.heap.size w w' := by
  rcases hV with h0 | ⟨l, g1, g2, rfl, rfl, hz⟩
  · exact vectorok_no h hd hlo hhi h0
  · exact vectorok_list h h2 g1 g2 false (by simpa using hz)
theorem vectorok_good {A : Option Addr} {n c : Nat} {l : List Nat} {A2 : Option Addr} {n2 c2 : Nat} {w : World} (h : Rd w A n c (bcells (pack l))) (h2 : Rd w A2 n2 c2 (ncells (sumsL l))) (h01 : Is01 l) (hl : l.length ≤ 131072) :
    Calls Try.prog 11 #[.agg #[.slice A n c, .int .i64 (l.length : Nat), .slice A2 n2 c2]] w fun e w' => e = .returned (.bool true) ∧ Below w.heap.size w w' := by
  rw [isums_cells] at h2
  exact vectorok_list h h2 h01 hl true (by simp)
theorem samevec_list {A : Option Addr} {n c : Nat} {l : List Nat} {A1 : Option Addr} {n1 c1 : Nat} {A2 : Option Addr} {n2 c2 : Nat} {A3 : Option Addr} {n3 c3 : Nat} {w : World} (h : Rd w A n c (bcells (pack l))) (h1 : Rd w A1 n1 c1 (ncells (sumsL l))) (h2 : Rd w A2 n2 c2 (bcells (pack l))) (h3 : Rd w A3 n3 c3 (ncells (sumsL l))) (h01 : Is01 l) :
    Calls Try.prog 14 #[.agg #[.slice A n c, .int .i64 (l.length : Nat), .slice A1 n1 c1], .agg #[.slice A2 n2 c2, .int .i64 (l.length : Nat), .slice A3 n3 c3]] w fun e w' => e = .returned (.bool true) ∧ Below w.heap.size w w' := by
  rw [isums_cells] at h1 h3
  exact samevec_any h h1 h2 h3 h01 _ _ rfl rfl
theorem samevec_nil {w : World} :
    Calls Try.prog 14 #[.agg #[.slice none 0 0, .int .i64 0, .slice none 0 0], .agg #[.slice none 0 0, .int .i64 0, .slice none 0 0]] w fun e w' => e = .returned (.bool true) ∧ Below w.heap.size w w' :=
  samevec_any (l := []) (zs := []) (Rd.none_ w) (Rd.nil_ints w) (Rd.none_ w) (Rd.nil_ints w) Is01.nil 0 0 rfl rfl
set_option maxRecDepth 100000 in
set_option maxHeartbeats 3200000 in
theorem rb_nn {A : Option Addr} {n c : Nat} {d : List Nat} {cnt : Int} (hd : ∀ k, d.getD k 0 < 256) (hlo : -9223372036854775808 ≤ cnt) (hhi : cnt ≤ 9223372036854775807) (hno : ¬ Ok d cnt) {Av : Option Addr} {nv cv : Nat} {As : Option Addr} {nsv csv : Nat} {dv : List Nat} {cntv_ : Int} {zs : List Int} (hdv : ∀ k, dv.getD k 0 < 256) (hlov : -9223372036854775808 ≤ cntv_) (hhiv : cntv_ ≤ 9223372036854775807) (hV : VNo dv cntv_ zs)  (w : World) (h : Rd w A n c (bcells d)) (hv : Rd w Av nv cv (bcells dv)) (hs : Rd w As nsv csv (icells zs)) :
    Calls Try.prog 3 #[.agg #[.slice A n c, .int .i64 cnt], .agg #[.slice Av nv cv, .int .i64 cntv_, .slice As nsv csv]] w fun e w' => e = .returned (.bool true) ∧ Below w.heap.size w w' := by
  have HD := Lib.hid hd
  have HNO := Lib.hid hno
  clear hd hno
  have HV := Lib.hid hV
  have HDV := Lib.hid hdv
  clear hV hdv
  have R_0 := ((h).alloc (.cells #[.slice A n c, .int .i64 cnt] 24)).alloc (.cells #[.slice Av nv cv, .int .i64 cntv_, .slice As nsv csv] 27)
  have RV_0 := ((hv).alloc (.cells #[.slice A n c, .int .i64 cnt] 24)).alloc (.cells #[.slice Av nv cv, .int .i64 cntv_, .slice As nsv csv] 27)
  have SV_0 := ((hs).alloc (.cells #[.slice A n c, .int .i64 cnt] 24)).alloc (.cells #[.slice Av nv cv, .int .i64 cntv_, .slice As nsv csv] 27)
  have B_0 := ((Two.new w 24 (.slice A n c) (.int .i64 cnt))).alloc (.cells #[.slice Av nv cv, .int .i64 cntv_, .slice As nsv csv] 27)
  have V_0 := (Three.new1 w (.cells #[.slice A n c, .int .i64 cnt] 24) 27 (.slice Av nv cv) (.int .i64 cntv_) (.slice As nsv csv))
  have Z0 := ((Below.refl w.heap.size w).alloc (by simp) (.cells #[.slice A n c, .int .i64 cnt] 24)).alloc (by simp) (.cells #[.slice Av nv cv, .int .i64 cntv_, .slice As nsv csv] 27)
  have B_0_c0 := B_0.c0
  have B_0_c1 := B_0.c1
  have V_0_c0 := V_0.c0
  have V_0_c1 := V_0.c1
  have V_0_c2 := V_0.c2
  go_enter Try.func3, Try.ntmps3
  go_wp2_with fail
  refine (build_no R_0 HNO.out).mono ?_
  rintro e w1 ⟨rfl, y1⟩
  have R_1 := ((R_0.on y1).alloc (.cells #[.slice none 0 0, .int .i64 0, .slice none 0 0] 27)).alloc (.cells #[.int .i64 6, .int .i64 (-1)] 29)
  have RV_1 := ((RV_0.on y1).alloc (.cells #[.slice none 0 0, .int .i64 0, .slice none 0 0] 27)).alloc (.cells #[.int .i64 6, .int .i64 (-1)] 29)
  have SV_1 := ((SV_0.on y1).alloc (.cells #[.slice none 0 0, .int .i64 0, .slice none 0 0] 27)).alloc (.cells #[.int .i64 6, .int .i64 (-1)] 29)
  have B_1 := ((B_0.on y1).alloc (.cells #[.slice none 0 0, .int .i64 0, .slice none 0 0] 27)).alloc (.cells #[.int .i64 6, .int .i64 (-1)] 29)
  have V_1 := ((V_0.on y1).alloc (.cells #[.slice none 0 0, .int .i64 0, .slice none 0 0] 27)).alloc (.cells #[.int .i64 6, .int .i64 (-1)] 29)
  have X_1 := ((Three.new w1 27 (.slice none 0 0) (.int .i64 0) (.slice none 0 0))).alloc (.cells #[.int .i64 6, .int .i64 (-1)] 29)
  have F_1 := (Two.new1 w1 (.cells #[.slice none 0 0, .int .i64 0, .slice none 0 0] 27) 29 (.int .i64 6) (.int .i64 (-1)))
  clear R_0 RV_0 SV_0 B_0 B_0_c0 B_0_c1 V_0 V_0_c0 V_0_c1 V_0_c2
  have z1 := Z0.trans (y1.mono Z0.size)
  have Z1 := ((z1).alloc (by have := z1.size; omega) (.cells #[.slice none 0 0, .int .i64 0, .slice none 0 0] 27)).alloc (by have := z1.size; simp; omega) (.cells #[.int .i64 6, .int .i64 (-1)] 29)
  have B_1_c0 := B_1.c0
  have B_1_c1 := B_1.c1
  have V_1_c0 := V_1.c0
  have V_1_c1 := V_1.c1
  have V_1_c2 := V_1.c2
  have X_1_c0 := X_1.c0
  have X_1_c1 := X_1.c1
  have X_1_c2 := X_1.c2
  have F_1_c0 := F_1.c0
  have F_1_c1 := F_1.c1
  go_wp2_with fail
  refine (validate_bad RV_1 SV_1 HV.out).mono ?_
  rintro e w2 ⟨rfl, y2⟩
  have R_2 := (R_1.on y2).alloc (.cells #[.int .i64 6, .int .i64 (-1)] 29)
  have RV_2 := (RV_1.on y2).alloc (.cells #[.int .i64 6, .int .i64 (-1)] 29)
  have SV_2 := (SV_1.on y2).alloc (.cells #[.int .i64 6, .int .i64 (-1)] 29)
  have B_2 := (B_1.on y2).alloc (.cells #[.int .i64 6, .int .i64 (-1)] 29)
  have V_2 := (V_1.on y2).alloc (.cells #[.int .i64 6, .int .i64 (-1)] 29)
  have X_2 := (X_1.on y2).alloc (.cells #[.int .i64 6, .int .i64 (-1)] 29)
  have F_2 := (F_1.on y2).alloc (.cells #[.int .i64 6, .int .i64 (-1)] 29)
  have G_2 := (Two.new w2 29 (.int .i64 6) (.int .i64 (-1)))
  clear R_1 RV_1 SV_1 B_1 B_1_c0 B_1_c1 V_1 V_1_c0 V_1_c1 V_1_c2 X_1 X_1_c0 X_1_c1 X_1_c2 F_1 F_1_c0 F_1_c1
  have z2 := Z1.trans (y2.mono Z1.size)
  have Z2 := (z2).alloc (by have := z2.size; omega) (.cells #[.int .i64 6, .int .i64 (-1)] 29)
  have B_2_c0 := B_2.c0
  have B_2_c1 := B_2.c1
  have V_2_c0 := V_2.c0
  have V_2_c1 := V_2.c1
  have V_2_c2 := V_2.c2
  have X_2_c0 := X_2.c0
  have X_2_c1 := X_2.c1
  have X_2_c2 := X_2.c2
  have F_2_c0 := F_2.c0
  have F_2_c1 := F_2.c1
  have G_2_c0 := G_2.c0
  have G_2_c1 := G_2.c1
  go_wp2_with fail
  go_region_held3 (fun w' => w'.cell? ⟨w2.heap.size, 0, none⟩ = some (.int .i64 6) ∧ w'.cell? ⟨w2.heap.size, 1, none⟩ = some (.int .i64 (-1)) ∧ w'.cell? ⟨w.heap.size + 1, 0, none⟩ = some (.slice Av nv cv) ∧ w'.cell? ⟨w.heap.size + 1, 1, none⟩ = some (.int .i64 cntv_) ∧ w'.cell? ⟨w.heap.size + 1, 2, none⟩ = some (.slice As nsv csv)) (go_keep) (first | (go_at_call 10; refine (ranks_true _).mono ?_; rintro e w3 ⟨rfl, y3⟩; have Y3 : Below ((w2).alloc (.cells #[.int .i64 6, .int .i64 (-1)] 29)).heap.size ((w2).alloc (.cells #[.int .i64 6, .int .i64 (-1)] 29)).drew w3 := y3; have G_3_c0 := ((Two.on (w := ((w2).alloc (.cells #[.int .i64 6, .int .i64 (-1)] 29)).drew) G_2 Y3)).c0; have G_3_c1 := ((Two.on (w := ((w2).alloc (.cells #[.int .i64 6, .int .i64 (-1)] 29)).drew) G_2 Y3)).c1; have V_3_c0 := ((Three.on (w := ((w2).alloc (.cells #[.int .i64 6, .int .i64 (-1)] 29)).drew) V_2 Y3)).c0; have V_3_c1 := ((Three.on (w := ((w2).alloc (.cells #[.int .i64 6, .int .i64 (-1)] 29)).drew) V_2 Y3)).c1; have V_3_c2 := ((Three.on (w := ((w2).alloc (.cells #[.int .i64 6, .int .i64 (-1)] 29)).drew) V_2 Y3)).c2) | (go_at_call 11; refine (vectorok_bad (Rd.on (w := ((w2).alloc (.cells #[.int .i64 6, .int .i64 (-1)] 29)).drew) RV_2 Y3) (Rd.on (w := ((w2).alloc (.cells #[.int .i64 6, .int .i64 (-1)] 29)).drew) SV_2 Y3) HDV.out hlov hhiv HV.out).mono ?_; rintro e w4 ⟨rfl, y4⟩; have Y4 := Y3.trans (y4.mono Y3.size); have G_4_c0 := ((Two.on (w := ((w2).alloc (.cells #[.int .i64 6, .int .i64 (-1)] 29)).drew) G_2 Y4)).c0; have G_4_c1 := ((Two.on (w := ((w2).alloc (.cells #[.int .i64 6, .int .i64 (-1)] 29)).drew) G_2 Y4)).c1; have V_4_c0 := ((Three.on (w := ((w2).alloc (.cells #[.int .i64 6, .int .i64 (-1)] 29)).drew) V_2 Y4)).c0; have V_4_c1 := ((Three.on (w := ((w2).alloc (.cells #[.int .i64 6, .int .i64 (-1)] 29)).drew) V_2 Y4)).c1; have V_4_c2 := ((Three.on (w := ((w2).alloc (.cells #[.int .i64 6, .int .i64 (-1)] 29)).drew) V_2 Y4)).c2) | (go_at_call 12; refine (refat_any _ _ _).mono ?_; rintro e w5 ⟨rfl, y5⟩; have Y5 := Y4.trans (y5.mono Y4.size); have G_5_c0 := ((Two.on (w := ((w2).alloc (.cells #[.int .i64 6, .int .i64 (-1)] 29)).drew) G_2 Y5)).c0; have G_5_c1 := ((Two.on (w := ((w2).alloc (.cells #[.int .i64 6, .int .i64 (-1)] 29)).drew) G_2 Y5)).c1; have V_5_c0 := ((Three.on (w := ((w2).alloc (.cells #[.int .i64 6, .int .i64 (-1)] 29)).drew) V_2 Y5)).c0; have V_5_c1 := ((Three.on (w := ((w2).alloc (.cells #[.int .i64 6, .int .i64 (-1)] 29)).drew) V_2 Y5)).c1; have V_5_c2 := ((Three.on (w := ((w2).alloc (.cells #[.int .i64 6, .int .i64 (-1)] 29)).drew) V_2 Y5)).c2))
  have R_5 := (Rd.on (w := ((w2).alloc (.cells #[.int .i64 6, .int .i64 (-1)] 29)).drew) R_2 Y5)
  have RV_5 := (Rd.on (w := ((w2).alloc (.cells #[.int .i64 6, .int .i64 (-1)] 29)).drew) RV_2 Y5)
  have SV_5 := (Rd.on (w := ((w2).alloc (.cells #[.int .i64 6, .int .i64 (-1)] 29)).drew) SV_2 Y5)
  have B_5 := (Two.on (w := ((w2).alloc (.cells #[.int .i64 6, .int .i64 (-1)] 29)).drew) B_2 Y5)
  have V_5 := (Three.on (w := ((w2).alloc (.cells #[.int .i64 6, .int .i64 (-1)] 29)).drew) V_2 Y5)
  have X_5 := (Three.on (w := ((w2).alloc (.cells #[.int .i64 6, .int .i64 (-1)] 29)).drew) X_2 Y5)
  have F_5 := (Two.on (w := ((w2).alloc (.cells #[.int .i64 6, .int .i64 (-1)] 29)).drew) F_2 Y5)
  have G_5 := (Two.on (w := ((w2).alloc (.cells #[.int .i64 6, .int .i64 (-1)] 29)).drew) G_2 Y5)
  have Z5 := (belowD Z2).trans (Y5.mono (belowD Z2).size)
  clear G_3_c0 G_3_c1 V_3_c0 V_3_c1 V_3_c2 G_4_c0 G_4_c1 V_4_c0 V_4_c1 V_4_c2 G_5_c0 G_5_c1 V_5_c0 V_5_c1 V_5_c2
  clear R_2 RV_2 SV_2 B_2 B_2_c0 B_2_c1 V_2 V_2_c0 V_2_c1 V_2_c2 X_2 X_2_c0 X_2_c1 X_2_c2 F_2 F_2_c0 F_2_c1 G_2 G_2_c0 G_2_c1
  have B_5_c0 := B_5.c0
  have B_5_c1 := B_5.c1
  have V_5_c0 := V_5.c0
  have V_5_c1 := V_5.c1
  have V_5_c2 := V_5.c2
  have X_5_c0 := X_5.c0
  have X_5_c1 := X_5.c1
  have X_5_c2 := X_5.c2
  have F_5_c0 := F_5.c0
  have F_5_c1 := F_5.c1
  have G_5_c0 := G_5.c0
  have G_5_c1 := G_5.c1
  go_wp2_with fail
  refine (bitsok_any R_5 HD.out hlo hhi false ⟨(fun h => by cases h), fun h => absurd h HNO.out⟩).mono ?_
  rintro e w6 ⟨rfl, y6⟩
  have R_6 := R_5.on y6
  have RV_6 := RV_5.on y6
  have SV_6 := SV_5.on y6
  have B_6 := B_5.on y6
  have V_6 := V_5.on y6
  have X_6 := X_5.on y6
  have F_6 := F_5.on y6
  have G_6 := G_5.on y6
  clear R_5 RV_5 SV_5 B_5 B_5_c0 B_5_c1 V_5 V_5_c0 V_5_c1 V_5_c2 X_5 X_5_c0 X_5_c1 X_5_c2 F_5 F_5_c0 F_5_c1 G_5 G_5_c0 G_5_c1
  have z6 := Z5.trans (y6.mono Z5.size)
  have Z6 := z6
  have B_6_c0 := B_6.c0
  have B_6_c1 := B_6.c1
  have V_6_c0 := V_6.c0
  have V_6_c1 := V_6.c1
  have V_6_c2 := V_6.c2
  have X_6_c0 := X_6.c0
  have X_6_c1 := X_6.c1
  have X_6_c2 := X_6.c2
  have F_6_c0 := F_6.c0
  have F_6_c1 := F_6.c1
  have G_6_c0 := G_6.c0
  have G_6_c1 := G_6.c1
  go_wp2_with fail
  go_region_held3 (fun w' => w'.cell? ⟨w1.heap.size + 1, 0, none⟩ = some (.int .i64 6) ∧ w'.cell? ⟨w1.heap.size + 1, 1, none⟩ = some (.int .i64 (-1)) ∧ w'.cell? ⟨w1.heap.size, 0, none⟩ = some (.slice none 0 0) ∧ w'.cell? ⟨w1.heap.size, 1, none⟩ = some (.int .i64 0) ∧ w'.cell? ⟨w1.heap.size, 2, none⟩ = some (.slice none 0 0)) (go_keep) (first | (go_at_call 12; refine (refat_any _ _ _).mono ?_; rintro e w7 ⟨rfl, y7⟩; have Y7 : Below w6.heap.size w6.drew w7 := y7; have F_7_c0 := ((Two.on (w := w6.drew) F_6 Y7)).c0; have F_7_c1 := ((Two.on (w := w6.drew) F_6 Y7)).c1; have X_7_c0 := ((Three.on (w := w6.drew) X_6 Y7)).c0; have X_7_c1 := ((Three.on (w := w6.drew) X_6 Y7)).c1; have X_7_c2 := ((Three.on (w := w6.drew) X_6 Y7)).c2) | (go_at_call 14; refine (samevec_nil).mono ?_; rintro e w8 ⟨rfl, y8⟩; have Y8 := Y7.trans (y8.mono Y7.size); have F_8_c0 := ((Two.on (w := w6.drew) F_6 Y8)).c0; have F_8_c1 := ((Two.on (w := w6.drew) F_6 Y8)).c1; have X_8_c0 := ((Three.on (w := w6.drew) X_6 Y8)).c0; have X_8_c1 := ((Three.on (w := w6.drew) X_6 Y8)).c1; have X_8_c2 := ((Three.on (w := w6.drew) X_6 Y8)).c2))
  have R_8 := (Rd.on (w := w6.drew) R_6 Y8)
  have RV_8 := (Rd.on (w := w6.drew) RV_6 Y8)
  have SV_8 := (Rd.on (w := w6.drew) SV_6 Y8)
  have B_8 := (Two.on (w := w6.drew) B_6 Y8)
  have V_8 := (Three.on (w := w6.drew) V_6 Y8)
  have X_8 := (Three.on (w := w6.drew) X_6 Y8)
  have F_8 := (Two.on (w := w6.drew) F_6 Y8)
  have G_8 := (Two.on (w := w6.drew) G_6 Y8)
  have Z8 := (belowD Z6).trans (Y8.mono (belowD Z6).size)
  clear F_7_c0 F_7_c1 X_7_c0 X_7_c1 X_7_c2 F_8_c0 F_8_c1 X_8_c0 X_8_c1 X_8_c2
  clear R_6 RV_6 SV_6 B_6 B_6_c0 B_6_c1 V_6 V_6_c0 V_6_c1 V_6_c2 X_6 X_6_c0 X_6_c1 X_6_c2 F_6 F_6_c0 F_6_c1 G_6 G_6_c0 G_6_c1
  have B_8_c0 := B_8.c0
  have B_8_c1 := B_8.c1
  have V_8_c0 := V_8.c0
  have V_8_c1 := V_8.c1
  have V_8_c2 := V_8.c2
  have X_8_c0 := X_8.c0
  have X_8_c1 := X_8.c1
  have X_8_c2 := X_8.c2
  have F_8_c0 := F_8.c0
  have F_8_c1 := F_8.c1
  have G_8_c0 := G_8.c0
  have G_8_c1 := G_8.c1
  go_wp2
  go_ret
  exact ⟨rfl, Z8⟩
set_option maxRecDepth 100000 in
set_option maxHeartbeats 3200000 in
theorem rb_no {A : Option Addr} {n c : Nat} {d : List Nat} {cnt : Int} (hd : ∀ k, d.getD k 0 < 256) (hlo : -9223372036854775808 ≤ cnt) (hhi : cnt ≤ 9223372036854775807) (hno : ¬ Ok d cnt) {Av : Option Addr} {nv cv : Nat} {As : Option Addr} {nsv csv : Nat} {lv : List Nat} (v01 : Is01 lv) (hlv : lv.length ≤ 131072)  (w : World) (h : Rd w A n c (bcells d)) (hv : Rd w Av nv cv (bcells (pack lv))) (hs : Rd w As nsv csv (ncells (sumsL lv))) :
    Calls Try.prog 3 #[.agg #[.slice A n c, .int .i64 cnt], .agg #[.slice Av nv cv, .int .i64 (lv.length : Nat), .slice As nsv csv]] w fun e w' => e = .returned (.bool true) ∧ Below w.heap.size w w' := by
  have HD := Lib.hid hd
  have HNO := Lib.hid hno
  clear hd hno
  have V01 := Lib.hid v01
  clear v01
  have R_0 := ((h).alloc (.cells #[.slice A n c, .int .i64 cnt] 24)).alloc (.cells #[.slice Av nv cv, .int .i64 (lv.length : Nat), .slice As nsv csv] 27)
  have RV_0 := ((hv).alloc (.cells #[.slice A n c, .int .i64 cnt] 24)).alloc (.cells #[.slice Av nv cv, .int .i64 (lv.length : Nat), .slice As nsv csv] 27)
  have SV_0 := ((hs).alloc (.cells #[.slice A n c, .int .i64 cnt] 24)).alloc (.cells #[.slice Av nv cv, .int .i64 (lv.length : Nat), .slice As nsv csv] 27)
  have B_0 := ((Two.new w 24 (.slice A n c) (.int .i64 cnt))).alloc (.cells #[.slice Av nv cv, .int .i64 (lv.length : Nat), .slice As nsv csv] 27)
  have V_0 := (Three.new1 w (.cells #[.slice A n c, .int .i64 cnt] 24) 27 (.slice Av nv cv) (.int .i64 (lv.length : Nat)) (.slice As nsv csv))
  have Z0 := ((Below.refl w.heap.size w).alloc (by simp) (.cells #[.slice A n c, .int .i64 cnt] 24)).alloc (by simp) (.cells #[.slice Av nv cv, .int .i64 (lv.length : Nat), .slice As nsv csv] 27)
  have B_0_c0 := B_0.c0
  have B_0_c1 := B_0.c1
  have V_0_c0 := V_0.c0
  have V_0_c1 := V_0.c1
  have V_0_c2 := V_0.c2
  go_enter Try.func3, Try.ntmps3
  go_wp2_with fail
  refine (build_no R_0 HNO.out).mono ?_
  rintro e w1 ⟨rfl, y1⟩
  have R_1 := ((R_0.on y1).alloc (.cells #[.slice none 0 0, .int .i64 0, .slice none 0 0] 27)).alloc (.cells #[.int .i64 6, .int .i64 (-1)] 29)
  have RV_1 := ((RV_0.on y1).alloc (.cells #[.slice none 0 0, .int .i64 0, .slice none 0 0] 27)).alloc (.cells #[.int .i64 6, .int .i64 (-1)] 29)
  have SV_1 := ((SV_0.on y1).alloc (.cells #[.slice none 0 0, .int .i64 0, .slice none 0 0] 27)).alloc (.cells #[.int .i64 6, .int .i64 (-1)] 29)
  have B_1 := ((B_0.on y1).alloc (.cells #[.slice none 0 0, .int .i64 0, .slice none 0 0] 27)).alloc (.cells #[.int .i64 6, .int .i64 (-1)] 29)
  have V_1 := ((V_0.on y1).alloc (.cells #[.slice none 0 0, .int .i64 0, .slice none 0 0] 27)).alloc (.cells #[.int .i64 6, .int .i64 (-1)] 29)
  have X_1 := ((Three.new w1 27 (.slice none 0 0) (.int .i64 0) (.slice none 0 0))).alloc (.cells #[.int .i64 6, .int .i64 (-1)] 29)
  have F_1 := (Two.new1 w1 (.cells #[.slice none 0 0, .int .i64 0, .slice none 0 0] 27) 29 (.int .i64 6) (.int .i64 (-1)))
  clear R_0 RV_0 SV_0 B_0 B_0_c0 B_0_c1 V_0 V_0_c0 V_0_c1 V_0_c2
  have z1 := Z0.trans (y1.mono Z0.size)
  have Z1 := ((z1).alloc (by have := z1.size; omega) (.cells #[.slice none 0 0, .int .i64 0, .slice none 0 0] 27)).alloc (by have := z1.size; simp; omega) (.cells #[.int .i64 6, .int .i64 (-1)] 29)
  have B_1_c0 := B_1.c0
  have B_1_c1 := B_1.c1
  have V_1_c0 := V_1.c0
  have V_1_c1 := V_1.c1
  have V_1_c2 := V_1.c2
  have X_1_c0 := X_1.c0
  have X_1_c1 := X_1.c1
  have X_1_c2 := X_1.c2
  have F_1_c0 := F_1.c0
  have F_1_c1 := F_1.c1
  go_wp2_with fail
  refine (validate_good RV_1 SV_1 V01.out hlv).mono ?_
  rintro e w2 ⟨rfl, y2⟩
  have R_2 := (R_1.on y2).alloc (.cells #[.int .i64 0, .int .i64 0] 29)
  have RV_2 := (RV_1.on y2).alloc (.cells #[.int .i64 0, .int .i64 0] 29)
  have SV_2 := (SV_1.on y2).alloc (.cells #[.int .i64 0, .int .i64 0] 29)
  have B_2 := (B_1.on y2).alloc (.cells #[.int .i64 0, .int .i64 0] 29)
  have V_2 := (V_1.on y2).alloc (.cells #[.int .i64 0, .int .i64 0] 29)
  have X_2 := (X_1.on y2).alloc (.cells #[.int .i64 0, .int .i64 0] 29)
  have F_2 := (F_1.on y2).alloc (.cells #[.int .i64 0, .int .i64 0] 29)
  have G_2 := (Two.new w2 29 (.int .i64 0) (.int .i64 0))
  clear R_1 RV_1 SV_1 B_1 B_1_c0 B_1_c1 V_1 V_1_c0 V_1_c1 V_1_c2 X_1 X_1_c0 X_1_c1 X_1_c2 F_1 F_1_c0 F_1_c1
  have z2 := Z1.trans (y2.mono Z1.size)
  have Z2 := (z2).alloc (by have := z2.size; omega) (.cells #[.int .i64 0, .int .i64 0] 29)
  have B_2_c0 := B_2.c0
  have B_2_c1 := B_2.c1
  have V_2_c0 := V_2.c0
  have V_2_c1 := V_2.c1
  have V_2_c2 := V_2.c2
  have X_2_c0 := X_2.c0
  have X_2_c1 := X_2.c1
  have X_2_c2 := X_2.c2
  have F_2_c0 := F_2.c0
  have F_2_c1 := F_2.c1
  have G_2_c0 := G_2.c0
  have G_2_c1 := G_2.c1
  go_wp2_with fail
  apply share
  · intro key
    first | go_region_with (first | (go_at_call 10; refine (ranks_true _).mono ?_; rintro e w3 ⟨rfl, y3⟩; have Y3 : Below ((w2).alloc (.cells #[.int .i64 0, .int .i64 0] 29)).heap.size ((w2).alloc (.cells #[.int .i64 0, .int .i64 0] 29)).drew w3 := y3; have G_3_c0 := ((Two.on (w := ((w2).alloc (.cells #[.int .i64 0, .int .i64 0] 29)).drew) G_2 Y3)).c0; have G_3_c1 := ((Two.on (w := ((w2).alloc (.cells #[.int .i64 0, .int .i64 0] 29)).drew) G_2 Y3)).c1; have V_3_c0 := ((Three.on (w := ((w2).alloc (.cells #[.int .i64 0, .int .i64 0] 29)).drew) V_2 Y3)).c0; have V_3_c1 := ((Three.on (w := ((w2).alloc (.cells #[.int .i64 0, .int .i64 0] 29)).drew) V_2 Y3)).c1; have V_3_c2 := ((Three.on (w := ((w2).alloc (.cells #[.int .i64 0, .int .i64 0] 29)).drew) V_2 Y3)).c2) | (go_at_call 11; refine (vectorok_good (Rd.on (w := ((w2).alloc (.cells #[.int .i64 0, .int .i64 0] 29)).drew) RV_2 Y3) (Rd.on (w := ((w2).alloc (.cells #[.int .i64 0, .int .i64 0] 29)).drew) SV_2 Y3) V01.out hlv).mono ?_; rintro e w4 ⟨rfl, y4⟩; have Y4 := Y3.trans (y4.mono Y3.size); have G_4_c0 := ((Two.on (w := ((w2).alloc (.cells #[.int .i64 0, .int .i64 0] 29)).drew) G_2 Y4)).c0; have G_4_c1 := ((Two.on (w := ((w2).alloc (.cells #[.int .i64 0, .int .i64 0] 29)).drew) G_2 Y4)).c1; have V_4_c0 := ((Three.on (w := ((w2).alloc (.cells #[.int .i64 0, .int .i64 0] 29)).drew) V_2 Y4)).c0; have V_4_c1 := ((Three.on (w := ((w2).alloc (.cells #[.int .i64 0, .int .i64 0] 29)).drew) V_2 Y4)).c1; have V_4_c2 := ((Three.on (w := ((w2).alloc (.cells #[.int .i64 0, .int .i64 0] 29)).drew) V_2 Y4)).c2)) | fail
    all_goals
      have R_4 := (Rd.on (w := ((w2).alloc (.cells #[.int .i64 0, .int .i64 0] 29)).drew) R_2 Y4)
      have RV_4 := (Rd.on (w := ((w2).alloc (.cells #[.int .i64 0, .int .i64 0] 29)).drew) RV_2 Y4)
      have SV_4 := (Rd.on (w := ((w2).alloc (.cells #[.int .i64 0, .int .i64 0] 29)).drew) SV_2 Y4)
      have B_4 := (Two.on (w := ((w2).alloc (.cells #[.int .i64 0, .int .i64 0] 29)).drew) B_2 Y4)
      have V_4 := (Three.on (w := ((w2).alloc (.cells #[.int .i64 0, .int .i64 0] 29)).drew) V_2 Y4)
      have X_4 := (Three.on (w := ((w2).alloc (.cells #[.int .i64 0, .int .i64 0] 29)).drew) X_2 Y4)
      have F_4 := (Two.on (w := ((w2).alloc (.cells #[.int .i64 0, .int .i64 0] 29)).drew) F_2 Y4)
      have G_4 := (Two.on (w := ((w2).alloc (.cells #[.int .i64 0, .int .i64 0] 29)).drew) G_2 Y4)
      have Z4 := (belowD Z2).trans (Y4.mono (belowD Z2).size)
      clear G_3_c0 G_3_c1 V_3_c0 V_3_c1 V_3_c2 G_4_c0 G_4_c1 V_4_c0 V_4_c1 V_4_c2
      (try simp only [Act.put, List.setIfInBounds_toArray, List.set_cons_zero, List.set_cons_succ])
      clear Y3 Y4 y3 y4
      revert R_4 RV_4 SV_4 B_4 V_4 X_4 F_4 G_4 Z4
      revert w4
      exact key
  intro w4 R_4 RV_4 SV_4 B_4 V_4 X_4 F_4 G_4 Z4
  clear R_2 RV_2 SV_2 B_2 B_2_c0 B_2_c1 V_2 V_2_c0 V_2_c1 V_2_c2 X_2 X_2_c0 X_2_c1 X_2_c2 F_2 F_2_c0 F_2_c1 G_2 G_2_c0 G_2_c1
  have B_4_c0 := B_4.c0
  have B_4_c1 := B_4.c1
  have V_4_c0 := V_4.c0
  have V_4_c1 := V_4.c1
  have V_4_c2 := V_4.c2
  have X_4_c0 := X_4.c0
  have X_4_c1 := X_4.c1
  have X_4_c2 := X_4.c2
  have F_4_c0 := F_4.c0
  have F_4_c1 := F_4.c1
  have G_4_c0 := G_4.c0
  have G_4_c1 := G_4.c1
  go_wp2_with fail
  refine (bitsok_any R_4 HD.out hlo hhi false ⟨(fun h => by cases h), fun h => absurd h HNO.out⟩).mono ?_
  rintro e w5 ⟨rfl, y5⟩
  have R_5 := R_4.on y5
  have RV_5 := RV_4.on y5
  have SV_5 := SV_4.on y5
  have B_5 := B_4.on y5
  have V_5 := V_4.on y5
  have X_5 := X_4.on y5
  have F_5 := F_4.on y5
  have G_5 := G_4.on y5
  clear R_4 RV_4 SV_4 B_4 B_4_c0 B_4_c1 V_4 V_4_c0 V_4_c1 V_4_c2 X_4 X_4_c0 X_4_c1 X_4_c2 F_4 F_4_c0 F_4_c1 G_4 G_4_c0 G_4_c1
  have z5 := Z4.trans (y5.mono Z4.size)
  have Z5 := z5
  have B_5_c0 := B_5.c0
  have B_5_c1 := B_5.c1
  have V_5_c0 := V_5.c0
  have V_5_c1 := V_5.c1
  have V_5_c2 := V_5.c2
  have X_5_c0 := X_5.c0
  have X_5_c1 := X_5.c1
  have X_5_c2 := X_5.c2
  have F_5_c0 := F_5.c0
  have F_5_c1 := F_5.c1
  have G_5_c0 := G_5.c0
  have G_5_c1 := G_5.c1
  go_wp2_with fail
  go_region_held3 (fun w' => w'.cell? ⟨w1.heap.size + 1, 0, none⟩ = some (.int .i64 6) ∧ w'.cell? ⟨w1.heap.size + 1, 1, none⟩ = some (.int .i64 (-1)) ∧ w'.cell? ⟨w1.heap.size, 0, none⟩ = some (.slice none 0 0) ∧ w'.cell? ⟨w1.heap.size, 1, none⟩ = some (.int .i64 0) ∧ w'.cell? ⟨w1.heap.size, 2, none⟩ = some (.slice none 0 0)) (go_keep) (first | (go_at_call 12; refine (refat_any _ _ _).mono ?_; rintro e w6 ⟨rfl, y6⟩; have Y6 : Below w5.heap.size w5.drew w6 := y6; have F_6_c0 := ((Two.on (w := w5.drew) F_5 Y6)).c0; have F_6_c1 := ((Two.on (w := w5.drew) F_5 Y6)).c1; have X_6_c0 := ((Three.on (w := w5.drew) X_5 Y6)).c0; have X_6_c1 := ((Three.on (w := w5.drew) X_5 Y6)).c1; have X_6_c2 := ((Three.on (w := w5.drew) X_5 Y6)).c2) | (go_at_call 14; refine (samevec_nil).mono ?_; rintro e w7 ⟨rfl, y7⟩; have Y7 := Y6.trans (y7.mono Y6.size); have F_7_c0 := ((Two.on (w := w5.drew) F_5 Y7)).c0; have F_7_c1 := ((Two.on (w := w5.drew) F_5 Y7)).c1; have X_7_c0 := ((Three.on (w := w5.drew) X_5 Y7)).c0; have X_7_c1 := ((Three.on (w := w5.drew) X_5 Y7)).c1; have X_7_c2 := ((Three.on (w := w5.drew) X_5 Y7)).c2))
  have R_7 := (Rd.on (w := w5.drew) R_5 Y7)
  have RV_7 := (Rd.on (w := w5.drew) RV_5 Y7)
  have SV_7 := (Rd.on (w := w5.drew) SV_5 Y7)
  have B_7 := (Two.on (w := w5.drew) B_5 Y7)
  have V_7 := (Three.on (w := w5.drew) V_5 Y7)
  have X_7 := (Three.on (w := w5.drew) X_5 Y7)
  have F_7 := (Two.on (w := w5.drew) F_5 Y7)
  have G_7 := (Two.on (w := w5.drew) G_5 Y7)
  have Z7 := (belowD Z5).trans (Y7.mono (belowD Z5).size)
  clear F_6_c0 F_6_c1 X_6_c0 X_6_c1 X_6_c2 F_7_c0 F_7_c1 X_7_c0 X_7_c1 X_7_c2
  clear R_5 RV_5 SV_5 B_5 B_5_c0 B_5_c1 V_5 V_5_c0 V_5_c1 V_5_c2 X_5 X_5_c0 X_5_c1 X_5_c2 F_5 F_5_c0 F_5_c1 G_5 G_5_c0 G_5_c1
  have B_7_c0 := B_7.c0
  have B_7_c1 := B_7.c1
  have V_7_c0 := V_7.c0
  have V_7_c1 := V_7.c1
  have V_7_c2 := V_7.c2
  have X_7_c0 := X_7.c0
  have X_7_c1 := X_7.c1
  have X_7_c2 := X_7.c2
  have F_7_c0 := F_7.c0
  have F_7_c1 := F_7.c1
  have G_7_c0 := G_7.c0
  have G_7_c1 := G_7.c1
  go_wp2
  go_ret
  exact ⟨rfl, Z7⟩
set_option maxRecDepth 100000 in
set_option maxHeartbeats 3200000 in
theorem rb_on {A : Option Addr} {n c : Nat} {l : List Nat} (h01 : Is01 l) (hl : l.length ≤ 131072) {Av : Option Addr} {nv cv : Nat} {As : Option Addr} {nsv csv : Nat} {dv : List Nat} {cntv_ : Int} {zs : List Int} (hdv : ∀ k, dv.getD k 0 < 256) (hlov : -9223372036854775808 ≤ cntv_) (hhiv : cntv_ ≤ 9223372036854775807) (hV : VNo dv cntv_ zs)  (w : World) (h : Rd w A n c (bcells (pack l))) (hv : Rd w Av nv cv (bcells dv)) (hs : Rd w As nsv csv (icells zs)) :
    Calls Try.prog 3 #[.agg #[.slice A n c, .int .i64 (l.length : Nat)], .agg #[.slice Av nv cv, .int .i64 cntv_, .slice As nsv csv]] w fun e w' => e = .returned (.bool true) ∧ Below w.heap.size w w' := by
  have H01 := Lib.hid h01
  have HLL := Lib.hid hl
  have HOK := Lib.hid (Ok.of_list h01 hl)
  clear h01
  obtain ⟨ns, hns⟩ : ∃ ns, ns = l.length / 64 + 1 := ⟨_, rfl⟩
  have HVO := Lib.hid (fun W (hW : Rd W A n c (bcells (pack l))) => vectorof_any hW H01.out hl ns hns)
  clear hns
  have HV := Lib.hid hV
  have HDV := Lib.hid hdv
  clear hV hdv
  have R_0 := ((h).alloc (.cells #[.slice A n c, .int .i64 (l.length : Nat)] 24)).alloc (.cells #[.slice Av nv cv, .int .i64 cntv_, .slice As nsv csv] 27)
  have RV_0 := ((hv).alloc (.cells #[.slice A n c, .int .i64 (l.length : Nat)] 24)).alloc (.cells #[.slice Av nv cv, .int .i64 cntv_, .slice As nsv csv] 27)
  have SV_0 := ((hs).alloc (.cells #[.slice A n c, .int .i64 (l.length : Nat)] 24)).alloc (.cells #[.slice Av nv cv, .int .i64 cntv_, .slice As nsv csv] 27)
  have B_0 := ((Two.new w 24 (.slice A n c) (.int .i64 (l.length : Nat)))).alloc (.cells #[.slice Av nv cv, .int .i64 cntv_, .slice As nsv csv] 27)
  have V_0 := (Three.new1 w (.cells #[.slice A n c, .int .i64 (l.length : Nat)] 24) 27 (.slice Av nv cv) (.int .i64 cntv_) (.slice As nsv csv))
  have Z0 := ((Below.refl w.heap.size w).alloc (by simp) (.cells #[.slice A n c, .int .i64 (l.length : Nat)] 24)).alloc (by simp) (.cells #[.slice Av nv cv, .int .i64 cntv_, .slice As nsv csv] 27)
  have B_0_c0 := B_0.c0
  have B_0_c1 := B_0.c1
  have V_0_c0 := V_0.c0
  have V_0_c1 := V_0.c1
  have V_0_c2 := V_0.c2
  go_enter Try.func3, Try.ntmps3
  go_wp2_with fail
  refine (build_ok R_0 H01.out hl).mono ?_
  rintro e w1 ⟨A1, c1, A2, n2, c2, rfl, RX, SX, y1⟩
  have R_1 := ((R_0.on y1).alloc (.cells #[.slice A1 n c1, .int .i64 (l.length : Nat), .slice A2 n2 c2] 27)).alloc (.cells #[.int .i64 0, .int .i64 0] 29)
  have RV_1 := ((RV_0.on y1).alloc (.cells #[.slice A1 n c1, .int .i64 (l.length : Nat), .slice A2 n2 c2] 27)).alloc (.cells #[.int .i64 0, .int .i64 0] 29)
  have SV_1 := ((SV_0.on y1).alloc (.cells #[.slice A1 n c1, .int .i64 (l.length : Nat), .slice A2 n2 c2] 27)).alloc (.cells #[.int .i64 0, .int .i64 0] 29)
  have B_1 := ((B_0.on y1).alloc (.cells #[.slice A1 n c1, .int .i64 (l.length : Nat), .slice A2 n2 c2] 27)).alloc (.cells #[.int .i64 0, .int .i64 0] 29)
  have V_1 := ((V_0.on y1).alloc (.cells #[.slice A1 n c1, .int .i64 (l.length : Nat), .slice A2 n2 c2] 27)).alloc (.cells #[.int .i64 0, .int .i64 0] 29)
  have RX_1 := ((RX).alloc (.cells #[.slice A1 n c1, .int .i64 (l.length : Nat), .slice A2 n2 c2] 27)).alloc (.cells #[.int .i64 0, .int .i64 0] 29)
  have SX_1 := ((SX).alloc (.cells #[.slice A1 n c1, .int .i64 (l.length : Nat), .slice A2 n2 c2] 27)).alloc (.cells #[.int .i64 0, .int .i64 0] 29)
  have X_1 := ((Three.new w1 27 (.slice A1 n c1) (.int .i64 (l.length : Nat)) (.slice A2 n2 c2))).alloc (.cells #[.int .i64 0, .int .i64 0] 29)
  have F_1 := (Two.new1 w1 (.cells #[.slice A1 n c1, .int .i64 (l.length : Nat), .slice A2 n2 c2] 27) 29 (.int .i64 0) (.int .i64 0))
  clear R_0 RV_0 SV_0 B_0 B_0_c0 B_0_c1 V_0 V_0_c0 V_0_c1 V_0_c2
  have z1 := Z0.trans (y1.mono Z0.size)
  have Z1 := ((z1).alloc (by have := z1.size; omega) (.cells #[.slice A1 n c1, .int .i64 (l.length : Nat), .slice A2 n2 c2] 27)).alloc (by have := z1.size; simp; omega) (.cells #[.int .i64 0, .int .i64 0] 29)
  have B_1_c0 := B_1.c0
  have B_1_c1 := B_1.c1
  have V_1_c0 := V_1.c0
  have V_1_c1 := V_1.c1
  have V_1_c2 := V_1.c2
  have X_1_c0 := X_1.c0
  have X_1_c1 := X_1.c1
  have X_1_c2 := X_1.c2
  have F_1_c0 := F_1.c0
  have F_1_c1 := F_1.c1
  go_wp2_with fail
  refine (validate_bad RV_1 SV_1 HV.out).mono ?_
  rintro e w2 ⟨rfl, y2⟩
  have R_2 := (R_1.on y2).alloc (.cells #[.int .i64 6, .int .i64 (-1)] 29)
  have RV_2 := (RV_1.on y2).alloc (.cells #[.int .i64 6, .int .i64 (-1)] 29)
  have SV_2 := (SV_1.on y2).alloc (.cells #[.int .i64 6, .int .i64 (-1)] 29)
  have B_2 := (B_1.on y2).alloc (.cells #[.int .i64 6, .int .i64 (-1)] 29)
  have V_2 := (V_1.on y2).alloc (.cells #[.int .i64 6, .int .i64 (-1)] 29)
  have RX_2 := (RX_1.on y2).alloc (.cells #[.int .i64 6, .int .i64 (-1)] 29)
  have SX_2 := (SX_1.on y2).alloc (.cells #[.int .i64 6, .int .i64 (-1)] 29)
  have X_2 := (X_1.on y2).alloc (.cells #[.int .i64 6, .int .i64 (-1)] 29)
  have F_2 := (F_1.on y2).alloc (.cells #[.int .i64 6, .int .i64 (-1)] 29)
  have G_2 := (Two.new w2 29 (.int .i64 6) (.int .i64 (-1)))
  clear R_1 RV_1 SV_1 B_1 B_1_c0 B_1_c1 V_1 V_1_c0 V_1_c1 V_1_c2 RX_1 SX_1 X_1 X_1_c0 X_1_c1 X_1_c2 F_1 F_1_c0 F_1_c1
  have z2 := Z1.trans (y2.mono Z1.size)
  have Z2 := (z2).alloc (by have := z2.size; omega) (.cells #[.int .i64 6, .int .i64 (-1)] 29)
  have B_2_c0 := B_2.c0
  have B_2_c1 := B_2.c1
  have V_2_c0 := V_2.c0
  have V_2_c1 := V_2.c1
  have V_2_c2 := V_2.c2
  have X_2_c0 := X_2.c0
  have X_2_c1 := X_2.c1
  have X_2_c2 := X_2.c2
  have F_2_c0 := F_2.c0
  have F_2_c1 := F_2.c1
  have G_2_c0 := G_2.c0
  have G_2_c1 := G_2.c1
  go_wp2_with fail
  go_region_held3 (fun w' => w'.cell? ⟨w2.heap.size, 0, none⟩ = some (.int .i64 6) ∧ w'.cell? ⟨w2.heap.size, 1, none⟩ = some (.int .i64 (-1)) ∧ w'.cell? ⟨w.heap.size + 1, 0, none⟩ = some (.slice Av nv cv) ∧ w'.cell? ⟨w.heap.size + 1, 1, none⟩ = some (.int .i64 cntv_) ∧ w'.cell? ⟨w.heap.size + 1, 2, none⟩ = some (.slice As nsv csv)) (go_keep) (first | (go_at_call 10; refine (ranks_true _).mono ?_; rintro e w3 ⟨rfl, y3⟩; have Y3 : Below ((w2).alloc (.cells #[.int .i64 6, .int .i64 (-1)] 29)).heap.size ((w2).alloc (.cells #[.int .i64 6, .int .i64 (-1)] 29)).drew w3 := y3; have G_3_c0 := ((Two.on (w := ((w2).alloc (.cells #[.int .i64 6, .int .i64 (-1)] 29)).drew) G_2 Y3)).c0; have G_3_c1 := ((Two.on (w := ((w2).alloc (.cells #[.int .i64 6, .int .i64 (-1)] 29)).drew) G_2 Y3)).c1; have V_3_c0 := ((Three.on (w := ((w2).alloc (.cells #[.int .i64 6, .int .i64 (-1)] 29)).drew) V_2 Y3)).c0; have V_3_c1 := ((Three.on (w := ((w2).alloc (.cells #[.int .i64 6, .int .i64 (-1)] 29)).drew) V_2 Y3)).c1; have V_3_c2 := ((Three.on (w := ((w2).alloc (.cells #[.int .i64 6, .int .i64 (-1)] 29)).drew) V_2 Y3)).c2) | (go_at_call 11; refine (vectorok_bad (Rd.on (w := ((w2).alloc (.cells #[.int .i64 6, .int .i64 (-1)] 29)).drew) RV_2 Y3) (Rd.on (w := ((w2).alloc (.cells #[.int .i64 6, .int .i64 (-1)] 29)).drew) SV_2 Y3) HDV.out hlov hhiv HV.out).mono ?_; rintro e w4 ⟨rfl, y4⟩; have Y4 := Y3.trans (y4.mono Y3.size); have G_4_c0 := ((Two.on (w := ((w2).alloc (.cells #[.int .i64 6, .int .i64 (-1)] 29)).drew) G_2 Y4)).c0; have G_4_c1 := ((Two.on (w := ((w2).alloc (.cells #[.int .i64 6, .int .i64 (-1)] 29)).drew) G_2 Y4)).c1; have V_4_c0 := ((Three.on (w := ((w2).alloc (.cells #[.int .i64 6, .int .i64 (-1)] 29)).drew) V_2 Y4)).c0; have V_4_c1 := ((Three.on (w := ((w2).alloc (.cells #[.int .i64 6, .int .i64 (-1)] 29)).drew) V_2 Y4)).c1; have V_4_c2 := ((Three.on (w := ((w2).alloc (.cells #[.int .i64 6, .int .i64 (-1)] 29)).drew) V_2 Y4)).c2) | (go_at_call 12; refine (refat_any _ _ _).mono ?_; rintro e w5 ⟨rfl, y5⟩; have Y5 := Y4.trans (y5.mono Y4.size); have G_5_c0 := ((Two.on (w := ((w2).alloc (.cells #[.int .i64 6, .int .i64 (-1)] 29)).drew) G_2 Y5)).c0; have G_5_c1 := ((Two.on (w := ((w2).alloc (.cells #[.int .i64 6, .int .i64 (-1)] 29)).drew) G_2 Y5)).c1; have V_5_c0 := ((Three.on (w := ((w2).alloc (.cells #[.int .i64 6, .int .i64 (-1)] 29)).drew) V_2 Y5)).c0; have V_5_c1 := ((Three.on (w := ((w2).alloc (.cells #[.int .i64 6, .int .i64 (-1)] 29)).drew) V_2 Y5)).c1; have V_5_c2 := ((Three.on (w := ((w2).alloc (.cells #[.int .i64 6, .int .i64 (-1)] 29)).drew) V_2 Y5)).c2))
  have R_5 := (Rd.on (w := ((w2).alloc (.cells #[.int .i64 6, .int .i64 (-1)] 29)).drew) R_2 Y5)
  have RV_5 := (Rd.on (w := ((w2).alloc (.cells #[.int .i64 6, .int .i64 (-1)] 29)).drew) RV_2 Y5)
  have SV_5 := (Rd.on (w := ((w2).alloc (.cells #[.int .i64 6, .int .i64 (-1)] 29)).drew) SV_2 Y5)
  have B_5 := (Two.on (w := ((w2).alloc (.cells #[.int .i64 6, .int .i64 (-1)] 29)).drew) B_2 Y5)
  have V_5 := (Three.on (w := ((w2).alloc (.cells #[.int .i64 6, .int .i64 (-1)] 29)).drew) V_2 Y5)
  have RX_5 := (Rd.on (w := ((w2).alloc (.cells #[.int .i64 6, .int .i64 (-1)] 29)).drew) RX_2 Y5)
  have SX_5 := (Rd.on (w := ((w2).alloc (.cells #[.int .i64 6, .int .i64 (-1)] 29)).drew) SX_2 Y5)
  have X_5 := (Three.on (w := ((w2).alloc (.cells #[.int .i64 6, .int .i64 (-1)] 29)).drew) X_2 Y5)
  have F_5 := (Two.on (w := ((w2).alloc (.cells #[.int .i64 6, .int .i64 (-1)] 29)).drew) F_2 Y5)
  have G_5 := (Two.on (w := ((w2).alloc (.cells #[.int .i64 6, .int .i64 (-1)] 29)).drew) G_2 Y5)
  have Z5 := (belowD Z2).trans (Y5.mono (belowD Z2).size)
  clear G_3_c0 G_3_c1 V_3_c0 V_3_c1 V_3_c2 G_4_c0 G_4_c1 V_4_c0 V_4_c1 V_4_c2 G_5_c0 G_5_c1 V_5_c0 V_5_c1 V_5_c2
  clear R_2 RV_2 SV_2 B_2 B_2_c0 B_2_c1 V_2 V_2_c0 V_2_c1 V_2_c2 RX_2 SX_2 X_2 X_2_c0 X_2_c1 X_2_c2 F_2 F_2_c0 F_2_c1 G_2 G_2_c0 G_2_c1
  have B_5_c0 := B_5.c0
  have B_5_c1 := B_5.c1
  have V_5_c0 := V_5.c0
  have V_5_c1 := V_5.c1
  have V_5_c2 := V_5.c2
  have X_5_c0 := X_5.c0
  have X_5_c1 := X_5.c1
  have X_5_c2 := X_5.c2
  have F_5_c0 := F_5.c0
  have F_5_c1 := F_5.c1
  have G_5_c0 := G_5.c0
  have G_5_c1 := G_5.c1
  go_wp2_with fail
  refine (bitsok_any R_5 (pack_lt H01.out) (by omega) (by have := HLL.out; omega) true ⟨fun _ => HOK.out, fun _ => rfl⟩).mono ?_
  rintro e w6 ⟨rfl, y6⟩
  have R_6 := R_5.on y6
  have RV_6 := RV_5.on y6
  have SV_6 := SV_5.on y6
  have B_6 := B_5.on y6
  have V_6 := V_5.on y6
  have RX_6 := RX_5.on y6
  have SX_6 := SX_5.on y6
  have X_6 := X_5.on y6
  have F_6 := F_5.on y6
  have G_6 := G_5.on y6
  clear R_5 RV_5 SV_5 B_5 B_5_c0 B_5_c1 V_5 V_5_c0 V_5_c1 V_5_c2 RX_5 SX_5 X_5 X_5_c0 X_5_c1 X_5_c2 F_5 F_5_c0 F_5_c1 G_5 G_5_c0 G_5_c1
  have z6 := Z5.trans (y6.mono Z5.size)
  have Z6 := z6
  have B_6_c0 := B_6.c0
  have B_6_c1 := B_6.c1
  have V_6_c0 := V_6.c0
  have V_6_c1 := V_6.c1
  have V_6_c2 := V_6.c2
  have X_6_c0 := X_6.c0
  have X_6_c1 := X_6.c1
  have X_6_c2 := X_6.c2
  have F_6_c0 := F_6.c0
  have F_6_c1 := F_6.c1
  have G_6_c0 := G_6.c0
  have G_6_c1 := G_6.c1
  go_wp2_with fail
  go_region_held3 (fun w' => w'.cell? ⟨w1.heap.size + 1, 0, none⟩ = some (.int .i64 0) ∧ w'.cell? ⟨w1.heap.size + 1, 1, none⟩ = some (.int .i64 0) ∧ w'.cell? ⟨w1.heap.size, 0, none⟩ = some (.slice A1 n c1) ∧ w'.cell? ⟨w1.heap.size, 1, none⟩ = some (.int .i64 (l.length : Nat)) ∧ w'.cell? ⟨w1.heap.size, 2, none⟩ = some (.slice A2 n2 c2) ∧ w'.cell? ⟨w.heap.size, 0, none⟩ = some (.slice A n c) ∧ w'.cell? ⟨w.heap.size, 1, none⟩ = some (.int .i64 (l.length : Nat))) (go_keep) (first | (go_at_call 15; refine (HVO.out _ (Rd.drew R_6)).mono ?_; rintro e w7 ⟨Ao, co, rfl, SO, y7⟩; have Y7 : Below w6.heap.size w6.drew w7 := y7; have F_7_c0 := ((Two.on (w := w6.drew) F_6 Y7)).c0; have F_7_c1 := ((Two.on (w := w6.drew) F_6 Y7)).c1; have X_7_c0 := ((Three.on (w := w6.drew) X_6 Y7)).c0; have X_7_c1 := ((Three.on (w := w6.drew) X_6 Y7)).c1; have X_7_c2 := ((Three.on (w := w6.drew) X_6 Y7)).c2; have B_7_c0 := ((Two.on (w := w6.drew) B_6 Y7)).c0; have B_7_c1 := ((Two.on (w := w6.drew) B_6 Y7)).c1) | (go_at_call 14; refine (samevec_list (Rd.on (w := w6.drew) RX_6 Y7) (Rd.on (w := w6.drew) SX_6 Y7) (Rd.on (w := w6.drew) R_6 Y7) SO H01.out).mono ?_; rintro e w8 ⟨rfl, y8⟩; have Y8 := Y7.trans (y8.mono Y7.size); have F_8_c0 := ((Two.on (w := w6.drew) F_6 Y8)).c0; have F_8_c1 := ((Two.on (w := w6.drew) F_6 Y8)).c1; have X_8_c0 := ((Three.on (w := w6.drew) X_6 Y8)).c0; have X_8_c1 := ((Three.on (w := w6.drew) X_6 Y8)).c1; have X_8_c2 := ((Three.on (w := w6.drew) X_6 Y8)).c2; have B_8_c0 := ((Two.on (w := w6.drew) B_6 Y8)).c0; have B_8_c1 := ((Two.on (w := w6.drew) B_6 Y8)).c1))
  have R_8 := (Rd.on (w := w6.drew) R_6 Y8)
  have RV_8 := (Rd.on (w := w6.drew) RV_6 Y8)
  have SV_8 := (Rd.on (w := w6.drew) SV_6 Y8)
  have B_8 := (Two.on (w := w6.drew) B_6 Y8)
  have V_8 := (Three.on (w := w6.drew) V_6 Y8)
  have RX_8 := (Rd.on (w := w6.drew) RX_6 Y8)
  have SX_8 := (Rd.on (w := w6.drew) SX_6 Y8)
  have X_8 := (Three.on (w := w6.drew) X_6 Y8)
  have F_8 := (Two.on (w := w6.drew) F_6 Y8)
  have G_8 := (Two.on (w := w6.drew) G_6 Y8)
  have Z8 := (belowD Z6).trans (Y8.mono (belowD Z6).size)
  clear F_7_c0 F_7_c1 X_7_c0 X_7_c1 X_7_c2 B_7_c0 B_7_c1 F_8_c0 F_8_c1 X_8_c0 X_8_c1 X_8_c2 B_8_c0 B_8_c1
  clear R_6 RV_6 SV_6 B_6 B_6_c0 B_6_c1 V_6 V_6_c0 V_6_c1 V_6_c2 RX_6 SX_6 X_6 X_6_c0 X_6_c1 X_6_c2 F_6 F_6_c0 F_6_c1 G_6 G_6_c0 G_6_c1
  have B_8_c0 := B_8.c0
  have B_8_c1 := B_8.c1
  have V_8_c0 := V_8.c0
  have V_8_c1 := V_8.c1
  have V_8_c2 := V_8.c2
  have X_8_c0 := X_8.c0
  have X_8_c1 := X_8.c1
  have X_8_c2 := X_8.c2
  have F_8_c0 := F_8.c0
  have F_8_c1 := F_8.c1
  have G_8_c0 := G_8.c0
  have G_8_c1 := G_8.c1
  go_wp2
  go_ret
  exact ⟨rfl, Z8⟩
set_option maxRecDepth 100000 in
set_option maxHeartbeats 3200000 in
theorem rb_oo {A : Option Addr} {n c : Nat} {l : List Nat} (h01 : Is01 l) (hl : l.length ≤ 131072) {Av : Option Addr} {nv cv : Nat} {As : Option Addr} {nsv csv : Nat} {lv : List Nat} (v01 : Is01 lv) (hlv : lv.length ≤ 131072)  (w : World) (h : Rd w A n c (bcells (pack l))) (hv : Rd w Av nv cv (bcells (pack lv))) (hs : Rd w As nsv csv (ncells (sumsL lv))) :
    Calls Try.prog 3 #[.agg #[.slice A n c, .int .i64 (l.length : Nat)], .agg #[.slice Av nv cv, .int .i64 (lv.length : Nat), .slice As nsv csv]] w fun e w' => e = .returned (.bool true) ∧ Below w.heap.size w w' := by
  have H01 := Lib.hid h01
  have HLL := Lib.hid hl
  have HOK := Lib.hid (Ok.of_list h01 hl)
  clear h01
  obtain ⟨ns, hns⟩ : ∃ ns, ns = l.length / 64 + 1 := ⟨_, rfl⟩
  have HVO := Lib.hid (fun W (hW : Rd W A n c (bcells (pack l))) => vectorof_any hW H01.out hl ns hns)
  clear hns
  have V01 := Lib.hid v01
  clear v01
  have R_0 := ((h).alloc (.cells #[.slice A n c, .int .i64 (l.length : Nat)] 24)).alloc (.cells #[.slice Av nv cv, .int .i64 (lv.length : Nat), .slice As nsv csv] 27)
  have RV_0 := ((hv).alloc (.cells #[.slice A n c, .int .i64 (l.length : Nat)] 24)).alloc (.cells #[.slice Av nv cv, .int .i64 (lv.length : Nat), .slice As nsv csv] 27)
  have SV_0 := ((hs).alloc (.cells #[.slice A n c, .int .i64 (l.length : Nat)] 24)).alloc (.cells #[.slice Av nv cv, .int .i64 (lv.length : Nat), .slice As nsv csv] 27)
  have B_0 := ((Two.new w 24 (.slice A n c) (.int .i64 (l.length : Nat)))).alloc (.cells #[.slice Av nv cv, .int .i64 (lv.length : Nat), .slice As nsv csv] 27)
  have V_0 := (Three.new1 w (.cells #[.slice A n c, .int .i64 (l.length : Nat)] 24) 27 (.slice Av nv cv) (.int .i64 (lv.length : Nat)) (.slice As nsv csv))
  have Z0 := ((Below.refl w.heap.size w).alloc (by simp) (.cells #[.slice A n c, .int .i64 (l.length : Nat)] 24)).alloc (by simp) (.cells #[.slice Av nv cv, .int .i64 (lv.length : Nat), .slice As nsv csv] 27)
  have B_0_c0 := B_0.c0
  have B_0_c1 := B_0.c1
  have V_0_c0 := V_0.c0
  have V_0_c1 := V_0.c1
  have V_0_c2 := V_0.c2
  go_enter Try.func3, Try.ntmps3
  go_wp2_with fail
  refine (build_ok R_0 H01.out hl).mono ?_
  rintro e w1 ⟨A1, c1, A2, n2, c2, rfl, RX, SX, y1⟩
  have R_1 := ((R_0.on y1).alloc (.cells #[.slice A1 n c1, .int .i64 (l.length : Nat), .slice A2 n2 c2] 27)).alloc (.cells #[.int .i64 0, .int .i64 0] 29)
  have RV_1 := ((RV_0.on y1).alloc (.cells #[.slice A1 n c1, .int .i64 (l.length : Nat), .slice A2 n2 c2] 27)).alloc (.cells #[.int .i64 0, .int .i64 0] 29)
  have SV_1 := ((SV_0.on y1).alloc (.cells #[.slice A1 n c1, .int .i64 (l.length : Nat), .slice A2 n2 c2] 27)).alloc (.cells #[.int .i64 0, .int .i64 0] 29)
  have B_1 := ((B_0.on y1).alloc (.cells #[.slice A1 n c1, .int .i64 (l.length : Nat), .slice A2 n2 c2] 27)).alloc (.cells #[.int .i64 0, .int .i64 0] 29)
  have V_1 := ((V_0.on y1).alloc (.cells #[.slice A1 n c1, .int .i64 (l.length : Nat), .slice A2 n2 c2] 27)).alloc (.cells #[.int .i64 0, .int .i64 0] 29)
  have RX_1 := ((RX).alloc (.cells #[.slice A1 n c1, .int .i64 (l.length : Nat), .slice A2 n2 c2] 27)).alloc (.cells #[.int .i64 0, .int .i64 0] 29)
  have SX_1 := ((SX).alloc (.cells #[.slice A1 n c1, .int .i64 (l.length : Nat), .slice A2 n2 c2] 27)).alloc (.cells #[.int .i64 0, .int .i64 0] 29)
  have X_1 := ((Three.new w1 27 (.slice A1 n c1) (.int .i64 (l.length : Nat)) (.slice A2 n2 c2))).alloc (.cells #[.int .i64 0, .int .i64 0] 29)
  have F_1 := (Two.new1 w1 (.cells #[.slice A1 n c1, .int .i64 (l.length : Nat), .slice A2 n2 c2] 27) 29 (.int .i64 0) (.int .i64 0))
  clear R_0 RV_0 SV_0 B_0 B_0_c0 B_0_c1 V_0 V_0_c0 V_0_c1 V_0_c2
  have z1 := Z0.trans (y1.mono Z0.size)
  have Z1 := ((z1).alloc (by have := z1.size; omega) (.cells #[.slice A1 n c1, .int .i64 (l.length : Nat), .slice A2 n2 c2] 27)).alloc (by have := z1.size; simp; omega) (.cells #[.int .i64 0, .int .i64 0] 29)
  have B_1_c0 := B_1.c0
  have B_1_c1 := B_1.c1
  have V_1_c0 := V_1.c0
  have V_1_c1 := V_1.c1
  have V_1_c2 := V_1.c2
  have X_1_c0 := X_1.c0
  have X_1_c1 := X_1.c1
  have X_1_c2 := X_1.c2
  have F_1_c0 := F_1.c0
  have F_1_c1 := F_1.c1
  go_wp2_with fail
  refine (validate_good RV_1 SV_1 V01.out hlv).mono ?_
  rintro e w2 ⟨rfl, y2⟩
  have R_2 := (R_1.on y2).alloc (.cells #[.int .i64 0, .int .i64 0] 29)
  have RV_2 := (RV_1.on y2).alloc (.cells #[.int .i64 0, .int .i64 0] 29)
  have SV_2 := (SV_1.on y2).alloc (.cells #[.int .i64 0, .int .i64 0] 29)
  have B_2 := (B_1.on y2).alloc (.cells #[.int .i64 0, .int .i64 0] 29)
  have V_2 := (V_1.on y2).alloc (.cells #[.int .i64 0, .int .i64 0] 29)
  have RX_2 := (RX_1.on y2).alloc (.cells #[.int .i64 0, .int .i64 0] 29)
  have SX_2 := (SX_1.on y2).alloc (.cells #[.int .i64 0, .int .i64 0] 29)
  have X_2 := (X_1.on y2).alloc (.cells #[.int .i64 0, .int .i64 0] 29)
  have F_2 := (F_1.on y2).alloc (.cells #[.int .i64 0, .int .i64 0] 29)
  have G_2 := (Two.new w2 29 (.int .i64 0) (.int .i64 0))
  clear R_1 RV_1 SV_1 B_1 B_1_c0 B_1_c1 V_1 V_1_c0 V_1_c1 V_1_c2 RX_1 SX_1 X_1 X_1_c0 X_1_c1 X_1_c2 F_1 F_1_c0 F_1_c1
  have z2 := Z1.trans (y2.mono Z1.size)
  have Z2 := (z2).alloc (by have := z2.size; omega) (.cells #[.int .i64 0, .int .i64 0] 29)
  have B_2_c0 := B_2.c0
  have B_2_c1 := B_2.c1
  have V_2_c0 := V_2.c0
  have V_2_c1 := V_2.c1
  have V_2_c2 := V_2.c2
  have X_2_c0 := X_2.c0
  have X_2_c1 := X_2.c1
  have X_2_c2 := X_2.c2
  have F_2_c0 := F_2.c0
  have F_2_c1 := F_2.c1
  have G_2_c0 := G_2.c0
  have G_2_c1 := G_2.c1
  go_wp2_with fail
  apply share
  · intro key
    first | go_region_with (first | (go_at_call 10; refine (ranks_true _).mono ?_; rintro e w3 ⟨rfl, y3⟩; have Y3 : Below ((w2).alloc (.cells #[.int .i64 0, .int .i64 0] 29)).heap.size ((w2).alloc (.cells #[.int .i64 0, .int .i64 0] 29)).drew w3 := y3; have G_3_c0 := ((Two.on (w := ((w2).alloc (.cells #[.int .i64 0, .int .i64 0] 29)).drew) G_2 Y3)).c0; have G_3_c1 := ((Two.on (w := ((w2).alloc (.cells #[.int .i64 0, .int .i64 0] 29)).drew) G_2 Y3)).c1; have V_3_c0 := ((Three.on (w := ((w2).alloc (.cells #[.int .i64 0, .int .i64 0] 29)).drew) V_2 Y3)).c0; have V_3_c1 := ((Three.on (w := ((w2).alloc (.cells #[.int .i64 0, .int .i64 0] 29)).drew) V_2 Y3)).c1; have V_3_c2 := ((Three.on (w := ((w2).alloc (.cells #[.int .i64 0, .int .i64 0] 29)).drew) V_2 Y3)).c2) | (go_at_call 11; refine (vectorok_good (Rd.on (w := ((w2).alloc (.cells #[.int .i64 0, .int .i64 0] 29)).drew) RV_2 Y3) (Rd.on (w := ((w2).alloc (.cells #[.int .i64 0, .int .i64 0] 29)).drew) SV_2 Y3) V01.out hlv).mono ?_; rintro e w4 ⟨rfl, y4⟩; have Y4 := Y3.trans (y4.mono Y3.size); have G_4_c0 := ((Two.on (w := ((w2).alloc (.cells #[.int .i64 0, .int .i64 0] 29)).drew) G_2 Y4)).c0; have G_4_c1 := ((Two.on (w := ((w2).alloc (.cells #[.int .i64 0, .int .i64 0] 29)).drew) G_2 Y4)).c1; have V_4_c0 := ((Three.on (w := ((w2).alloc (.cells #[.int .i64 0, .int .i64 0] 29)).drew) V_2 Y4)).c0; have V_4_c1 := ((Three.on (w := ((w2).alloc (.cells #[.int .i64 0, .int .i64 0] 29)).drew) V_2 Y4)).c1; have V_4_c2 := ((Three.on (w := ((w2).alloc (.cells #[.int .i64 0, .int .i64 0] 29)).drew) V_2 Y4)).c2)) | fail
    all_goals
      have R_4 := (Rd.on (w := ((w2).alloc (.cells #[.int .i64 0, .int .i64 0] 29)).drew) R_2 Y4)
      have RV_4 := (Rd.on (w := ((w2).alloc (.cells #[.int .i64 0, .int .i64 0] 29)).drew) RV_2 Y4)
      have SV_4 := (Rd.on (w := ((w2).alloc (.cells #[.int .i64 0, .int .i64 0] 29)).drew) SV_2 Y4)
      have B_4 := (Two.on (w := ((w2).alloc (.cells #[.int .i64 0, .int .i64 0] 29)).drew) B_2 Y4)
      have V_4 := (Three.on (w := ((w2).alloc (.cells #[.int .i64 0, .int .i64 0] 29)).drew) V_2 Y4)
      have RX_4 := (Rd.on (w := ((w2).alloc (.cells #[.int .i64 0, .int .i64 0] 29)).drew) RX_2 Y4)
      have SX_4 := (Rd.on (w := ((w2).alloc (.cells #[.int .i64 0, .int .i64 0] 29)).drew) SX_2 Y4)
      have X_4 := (Three.on (w := ((w2).alloc (.cells #[.int .i64 0, .int .i64 0] 29)).drew) X_2 Y4)
      have F_4 := (Two.on (w := ((w2).alloc (.cells #[.int .i64 0, .int .i64 0] 29)).drew) F_2 Y4)
      have G_4 := (Two.on (w := ((w2).alloc (.cells #[.int .i64 0, .int .i64 0] 29)).drew) G_2 Y4)
      have Z4 := (belowD Z2).trans (Y4.mono (belowD Z2).size)
      clear G_3_c0 G_3_c1 V_3_c0 V_3_c1 V_3_c2 G_4_c0 G_4_c1 V_4_c0 V_4_c1 V_4_c2
      (try simp only [Act.put, List.setIfInBounds_toArray, List.set_cons_zero, List.set_cons_succ])
      clear Y3 Y4 y3 y4
      revert R_4 RV_4 SV_4 B_4 V_4 RX_4 SX_4 X_4 F_4 G_4 Z4
      revert w4
      exact key
  intro w4 R_4 RV_4 SV_4 B_4 V_4 RX_4 SX_4 X_4 F_4 G_4 Z4
  clear R_2 RV_2 SV_2 B_2 B_2_c0 B_2_c1 V_2 V_2_c0 V_2_c1 V_2_c2 RX_2 SX_2 X_2 X_2_c0 X_2_c1 X_2_c2 F_2 F_2_c0 F_2_c1 G_2 G_2_c0 G_2_c1
  have B_4_c0 := B_4.c0
  have B_4_c1 := B_4.c1
  have V_4_c0 := V_4.c0
  have V_4_c1 := V_4.c1
  have V_4_c2 := V_4.c2
  have X_4_c0 := X_4.c0
  have X_4_c1 := X_4.c1
  have X_4_c2 := X_4.c2
  have F_4_c0 := F_4.c0
  have F_4_c1 := F_4.c1
  have G_4_c0 := G_4.c0
  have G_4_c1 := G_4.c1
  go_wp2_with fail
  refine (bitsok_any R_4 (pack_lt H01.out) (by omega) (by have := HLL.out; omega) true ⟨fun _ => HOK.out, fun _ => rfl⟩).mono ?_
  rintro e w5 ⟨rfl, y5⟩
  have R_5 := R_4.on y5
  have RV_5 := RV_4.on y5
  have SV_5 := SV_4.on y5
  have B_5 := B_4.on y5
  have V_5 := V_4.on y5
  have RX_5 := RX_4.on y5
  have SX_5 := SX_4.on y5
  have X_5 := X_4.on y5
  have F_5 := F_4.on y5
  have G_5 := G_4.on y5
  clear R_4 RV_4 SV_4 B_4 B_4_c0 B_4_c1 V_4 V_4_c0 V_4_c1 V_4_c2 RX_4 SX_4 X_4 X_4_c0 X_4_c1 X_4_c2 F_4 F_4_c0 F_4_c1 G_4 G_4_c0 G_4_c1
  have z5 := Z4.trans (y5.mono Z4.size)
  have Z5 := z5
  have B_5_c0 := B_5.c0
  have B_5_c1 := B_5.c1
  have V_5_c0 := V_5.c0
  have V_5_c1 := V_5.c1
  have V_5_c2 := V_5.c2
  have X_5_c0 := X_5.c0
  have X_5_c1 := X_5.c1
  have X_5_c2 := X_5.c2
  have F_5_c0 := F_5.c0
  have F_5_c1 := F_5.c1
  have G_5_c0 := G_5.c0
  have G_5_c1 := G_5.c1
  go_wp2_with fail
  go_region_held3 (fun w' => w'.cell? ⟨w1.heap.size + 1, 0, none⟩ = some (.int .i64 0) ∧ w'.cell? ⟨w1.heap.size + 1, 1, none⟩ = some (.int .i64 0) ∧ w'.cell? ⟨w1.heap.size, 0, none⟩ = some (.slice A1 n c1) ∧ w'.cell? ⟨w1.heap.size, 1, none⟩ = some (.int .i64 (l.length : Nat)) ∧ w'.cell? ⟨w1.heap.size, 2, none⟩ = some (.slice A2 n2 c2) ∧ w'.cell? ⟨w.heap.size, 0, none⟩ = some (.slice A n c) ∧ w'.cell? ⟨w.heap.size, 1, none⟩ = some (.int .i64 (l.length : Nat))) (go_keep) (first | (go_at_call 15; refine (HVO.out _ (Rd.drew R_5)).mono ?_; rintro e w6 ⟨Ao, co, rfl, SO, y6⟩; have Y6 : Below w5.heap.size w5.drew w6 := y6; have F_6_c0 := ((Two.on (w := w5.drew) F_5 Y6)).c0; have F_6_c1 := ((Two.on (w := w5.drew) F_5 Y6)).c1; have X_6_c0 := ((Three.on (w := w5.drew) X_5 Y6)).c0; have X_6_c1 := ((Three.on (w := w5.drew) X_5 Y6)).c1; have X_6_c2 := ((Three.on (w := w5.drew) X_5 Y6)).c2; have B_6_c0 := ((Two.on (w := w5.drew) B_5 Y6)).c0; have B_6_c1 := ((Two.on (w := w5.drew) B_5 Y6)).c1) | (go_at_call 14; refine (samevec_list (Rd.on (w := w5.drew) RX_5 Y6) (Rd.on (w := w5.drew) SX_5 Y6) (Rd.on (w := w5.drew) R_5 Y6) SO H01.out).mono ?_; rintro e w7 ⟨rfl, y7⟩; have Y7 := Y6.trans (y7.mono Y6.size); have F_7_c0 := ((Two.on (w := w5.drew) F_5 Y7)).c0; have F_7_c1 := ((Two.on (w := w5.drew) F_5 Y7)).c1; have X_7_c0 := ((Three.on (w := w5.drew) X_5 Y7)).c0; have X_7_c1 := ((Three.on (w := w5.drew) X_5 Y7)).c1; have X_7_c2 := ((Three.on (w := w5.drew) X_5 Y7)).c2; have B_7_c0 := ((Two.on (w := w5.drew) B_5 Y7)).c0; have B_7_c1 := ((Two.on (w := w5.drew) B_5 Y7)).c1))
  have R_7 := (Rd.on (w := w5.drew) R_5 Y7)
  have RV_7 := (Rd.on (w := w5.drew) RV_5 Y7)
  have SV_7 := (Rd.on (w := w5.drew) SV_5 Y7)
  have B_7 := (Two.on (w := w5.drew) B_5 Y7)
  have V_7 := (Three.on (w := w5.drew) V_5 Y7)
  have RX_7 := (Rd.on (w := w5.drew) RX_5 Y7)
  have SX_7 := (Rd.on (w := w5.drew) SX_5 Y7)
  have X_7 := (Three.on (w := w5.drew) X_5 Y7)
  have F_7 := (Two.on (w := w5.drew) F_5 Y7)
  have G_7 := (Two.on (w := w5.drew) G_5 Y7)
  have Z7 := (belowD Z5).trans (Y7.mono (belowD Z5).size)
  clear F_6_c0 F_6_c1 X_6_c0 X_6_c1 X_6_c2 B_6_c0 B_6_c1 F_7_c0 F_7_c1 X_7_c0 X_7_c1 X_7_c2 B_7_c0 B_7_c1
  clear R_5 RV_5 SV_5 B_5 B_5_c0 B_5_c1 V_5 V_5_c0 V_5_c1 V_5_c2 RX_5 SX_5 X_5 X_5_c0 X_5_c1 X_5_c2 F_5 F_5_c0 F_5_c1 G_5 G_5_c0 G_5_c1
  have B_7_c0 := B_7.c0
  have B_7_c1 := B_7.c1
  have V_7_c0 := V_7.c0
  have V_7_c1 := V_7.c1
  have V_7_c2 := V_7.c2
  have X_7_c0 := X_7.c0
  have X_7_c1 := X_7.c1
  have X_7_c2 := X_7.c2
  have F_7_c0 := F_7.c0
  have F_7_c1 := F_7.c1
  have G_7_c0 := G_7.c0
  have G_7_c1 := G_7.c1
  go_wp2
  go_ret
  exact ⟨rfl, Z7⟩
theorem rb_all {A : Option Addr} {n c : Nat} {d : List Nat} {cnt : Int} {Av : Option Addr} {nv cv : Nat} {As : Option Addr} {nsv csv : Nat} {dv : List Nat} {cntv_ : Int} {zs : List Int} (hd : ∀ k, d.getD k 0 < 256) (hlo : -9223372036854775808 ≤ cnt) (hhi : cnt ≤ 9223372036854775807) (hdv : ∀ k, dv.getD k 0 < 256) (hlov : -9223372036854775808 ≤ cntv_) (hhiv : cntv_ ≤ 9223372036854775807) (w : World) (h : Rd w A n c (bcells d)) (hv : Rd w Av nv cv (bcells dv)) (hs : Rd w As nsv csv (icells zs)) :
    Calls Try.prog 3 #[.agg #[.slice A n c, .int .i64 cnt], .agg #[.slice Av nv cv, .int .i64 cntv_, .slice As nsv csv]] w fun e w' => e = .returned (.bool true) ∧ Below w.heap.size w w' := by
  rcases vector_cases dv cntv_ zs hdv with hV | ⟨lv, k1, k2, rfl, rfl, rfl⟩
  · by_cases hok : Ok d cnt
    · obtain ⟨l, g1, g2, rfl, rfl⟩ := hok.list hd
      exact rb_on g1 g2 hdv hlov hhiv hV w h hv hs
    · exact rb_nn hd hlo hhi hok hdv hlov hhiv hV w h hv hs
  · rw [← isums_cells] at hs
    by_cases hok : Ok d cnt
    · obtain ⟨l, g1, g2, rfl, rfl⟩ := hok.list hd
      exact rb_oo g1 g2 k1 k2 w h hv hs
    · exact rb_no hd hlo hhi hok k1 k2 w h hv hs
end PB
end Go.Proofs.Ytckimocmppdecaa
