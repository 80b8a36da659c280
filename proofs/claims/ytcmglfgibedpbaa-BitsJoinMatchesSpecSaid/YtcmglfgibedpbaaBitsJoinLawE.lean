/-
  Joined bit strings and parts, with all errors, are as specified: the walk of the statement BitsJoinMatchesSpec.
-/
import Derived.Test.YtcmglfgibedpbaaRows
import Derived.Test.YtcmglfgibedpbaaBitsApi
import Derived.Test.YtcmglfgibedpbaaBitsApi2
import Derived.Deep.RegionHeld3
import Derived.Deep.DrawnRows
namespace Go.Proofs.Ytcmglfgibedpbaa
open Go.RowKit
attribute [local go_sem ↓] Go.wp_at_zero Go.wp_at_succ
set_option linter.unusedVariables false
set_option linter.unusedSimpArgs false
namespace PB
set_option maxRecDepth 100000 in
set_option maxHeartbeats 3200000 in
theorem jm_eb {Aq : Option Addr} {nq_ cq : Nat} {xs : List BItem} (hw : ∀ x ∈ xs, x.wf) {code idx : Int} (hJ : JOut xs code idx) (hc : code ≠ 0) {A : Option Addr} {n c : Nat} {d : List Nat} {cnt f t : Int} (hd : ∀ k, d.getD k 0 < 256) (hlo : -9223372036854775808 ≤ cnt) (hhi : cnt ≤ 9223372036854775807) (hno : ¬ Ok d cnt)  (w : World) (hq : RdB w Aq nq_ cq xs) (h : Rd w A n c (bcells d)) :
    Calls Try.prog 9 #[.slice Aq nq_ cq, .agg #[.slice A n c, .int .i64 cnt], .int .i64 f, .int .i64 t] w fun e w' => e = .returned (.bool true) ∧ Below w.heap.size w w' := by
  obtain ⟨i0, hi, hz0, hz1, hz2⟩ := info_parts int_info
  have HW := Lib.hid hw
  have k1 : (code != 0) = true := by rw [bne_iff_ne]; exact hc
  have k2 : (code == 0) = false := by rw [beq_eq_false_iff_ne]; exact hc
  have er : JRes xs code idx = [] := by unfold JRes; rw [if_neg hc]
  have HJN := Lib.hid (fun W (hW : RdB W Aq nq_ cq xs) => join_any hW HW.out hJ)
  rw [er] at HJN
  have HJF := Lib.hid (fun W (hW : RdB W Aq nq_ cq xs) => joinfault_any hW HW.out hJ)
  clear hJ hc er hw
  have HD := Lib.hid hd
  have HNO := Lib.hid hno
  have HS := Lib.hid (fun W (hW : Rd W A n c (bcells d)) => slice_err (f := f) (t := t) HD.out (.inl ⟨HNO.out, rfl, rfl⟩) W hW)
  clear hd hno
  have R_0 := (h).alloc (.cells #[.slice A n c, .int .i64 cnt] 24)
  have Q_0 := (hq).alloc (.cells #[.slice A n c, .int .i64 cnt] 24)
  have B_0 := (Two.new w 24 (.slice A n c) (.int .i64 cnt))
  have Z0 := (Below.refl w.heap.size w).alloc (by simp) (.cells #[.slice A n c, .int .i64 cnt] 24)
  have B_0_c0 := B_0.c0
  have B_0_c1 := B_0.c1
  go_enter Try.func9, Try.ntmps9
  go_wp2_with fail
  refine (HJN.out _ Q_0).mono ?_
  rintro e w1 ⟨Ax, nx, cx, rfl, ox, y1⟩
  have R_1 := ((R_0.on y1).alloc (.cells #[.slice Ax nx cx, .int .i64 0] 24)).alloc (.cells #[.int .i64 code, .int .i64 idx] 26)
  have Q_1 := ((Q_0.on y1).alloc (.cells #[.slice Ax nx cx, .int .i64 0] 24)).alloc (.cells #[.int .i64 code, .int .i64 idx] 26)
  have B_1 := ((B_0.on y1).alloc (.cells #[.slice Ax nx cx, .int .i64 0] 24)).alloc (.cells #[.int .i64 code, .int .i64 idx] 26)
  have RX_1 := ((Rd.own ox).alloc (.cells #[.slice Ax nx cx, .int .i64 0] 24)).alloc (.cells #[.int .i64 code, .int .i64 idx] 26)
  have X_1 := ((Two.new w1 24 (.slice Ax nx cx) (.int .i64 0))).alloc (.cells #[.int .i64 code, .int .i64 idx] 26)
  have F_1 := (Two.new1 w1 (.cells #[.slice Ax nx cx, .int .i64 0] 24) 26 (.int .i64 code) (.int .i64 idx))
  clear R_0 Q_0 B_0 B_0_c0 B_0_c1
  have z1 := Z0.trans (y1.mono Z0.size)
  have Z1 := ((z1).alloc (by have := z1.size; omega) (.cells #[.slice Ax nx cx, .int .i64 0] 24)).alloc (by have := z1.size; simp; omega) (.cells #[.int .i64 code, .int .i64 idx] 26)
  have B_1_c0 := B_1.c0
  have B_1_c1 := B_1.c1
  have X_1_c0 := X_1.c0
  have X_1_c1 := X_1.c1
  have F_1_c0 := F_1.c0
  have F_1_c1 := F_1.c1
  go_wp2_with fail
  refine (HS.out _ R_1).mono ?_
  rintro e w2 ⟨rfl, y2⟩
  have R_2 := ((R_1.on y2).alloc (.cells #[.slice none 0 0, .int .i64 0] 24)).alloc (.cells #[.int .i64 6, .int .i64 (-1)] 26)
  have Q_2 := ((Q_1.on y2).alloc (.cells #[.slice none 0 0, .int .i64 0] 24)).alloc (.cells #[.int .i64 6, .int .i64 (-1)] 26)
  have B_2 := ((B_1.on y2).alloc (.cells #[.slice none 0 0, .int .i64 0] 24)).alloc (.cells #[.int .i64 6, .int .i64 (-1)] 26)
  have RX_2 := ((RX_1.on y2).alloc (.cells #[.slice none 0 0, .int .i64 0] 24)).alloc (.cells #[.int .i64 6, .int .i64 (-1)] 26)
  have X_2 := ((X_1.on y2).alloc (.cells #[.slice none 0 0, .int .i64 0] 24)).alloc (.cells #[.int .i64 6, .int .i64 (-1)] 26)
  have F_2 := ((F_1.on y2).alloc (.cells #[.slice none 0 0, .int .i64 0] 24)).alloc (.cells #[.int .i64 6, .int .i64 (-1)] 26)
  have RY_2 := ((Rd.none_ w2).alloc (.cells #[.slice none 0 0, .int .i64 0] 24)).alloc (.cells #[.int .i64 6, .int .i64 (-1)] 26)
  have Y_2 := ((Two.new w2 24 (.slice none 0 0) (.int .i64 0))).alloc (.cells #[.int .i64 6, .int .i64 (-1)] 26)
  have G_2 := (Two.new1 w2 (.cells #[.slice none 0 0, .int .i64 0] 24) 26 (.int .i64 6) (.int .i64 (-1)))
  clear R_1 Q_1 B_1 B_1_c0 B_1_c1 RX_1 X_1 X_1_c0 X_1_c1 F_1 F_1_c0 F_1_c1
  have z2 := Z1.trans (y2.mono Z1.size)
  have Z2 := ((z2).alloc (by have := z2.size; omega) (.cells #[.slice none 0 0, .int .i64 0] 24)).alloc (by have := z2.size; simp; omega) (.cells #[.int .i64 6, .int .i64 (-1)] 26)
  have B_2_c0 := B_2.c0
  have B_2_c1 := B_2.c1
  have X_2_c0 := X_2.c0
  have X_2_c1 := X_2.c1
  have F_2_c0 := F_2.c0
  have F_2_c1 := F_2.c1
  have Y_2_c0 := Y_2.c0
  have Y_2_c1 := Y_2.c1
  have G_2_c0 := G_2.c0
  have G_2_c1 := G_2.c1
  go_wp2_with fail
  refine (HJF.out _ Q_2).mono ?_
  rintro e w3 ⟨rfl, y3⟩
  have R_3 := (R_2.on y3).alloc (.cells #[.int .i64 code, .int .i64 idx] 26)
  have Q_3 := (Q_2.on y3).alloc (.cells #[.int .i64 code, .int .i64 idx] 26)
  have B_3 := (B_2.on y3).alloc (.cells #[.int .i64 code, .int .i64 idx] 26)
  have RX_3 := (RX_2.on y3).alloc (.cells #[.int .i64 code, .int .i64 idx] 26)
  have X_3 := (X_2.on y3).alloc (.cells #[.int .i64 code, .int .i64 idx] 26)
  have F_3 := (F_2.on y3).alloc (.cells #[.int .i64 code, .int .i64 idx] 26)
  have RY_3 := (RY_2.on y3).alloc (.cells #[.int .i64 code, .int .i64 idx] 26)
  have Y_3 := (Y_2.on y3).alloc (.cells #[.int .i64 code, .int .i64 idx] 26)
  have G_3 := (G_2.on y3).alloc (.cells #[.int .i64 code, .int .i64 idx] 26)
  have R_b := R_2.on y3
  have Q_b := Q_2.on y3
  have B_b := B_2.on y3
  have RX_b := RX_2.on y3
  have X_b := X_2.on y3
  have F_b := F_2.on y3
  have RY_b := RY_2.on y3
  have Y_b := Y_2.on y3
  have G_b := G_2.on y3
  have W_3 := (Two.new w3 26 (.int .i64 code) (.int .i64 idx))
  clear R_2 Q_2 B_2 B_2_c0 B_2_c1 RX_2 X_2 X_2_c0 X_2_c1 F_2 F_2_c0 F_2_c1 RY_2 Y_2 Y_2_c0 Y_2_c1 G_2 G_2_c0 G_2_c1
  have z3 := Z2.trans (y3.mono Z2.size)
  have Z3 := (z3).alloc (by have := z3.size; omega) (.cells #[.int .i64 code, .int .i64 idx] 26)
  have CW_3 := (Below.refl w3.heap.size w3).alloc (by simp) (.cells #[.int .i64 code, .int .i64 idx] 26)
  have B_3_c0 := B_3.c0
  have B_3_c1 := B_3.c1
  have X_3_c0 := X_3.c0
  have X_3_c1 := X_3.c1
  have F_3_c0 := F_3.c0
  have F_3_c1 := F_3.c1
  have Y_3_c0 := Y_3.c0
  have Y_3_c1 := Y_3.c1
  have G_3_c0 := G_3.c0
  have G_3_c1 := G_3.c1
  have W_3_c0 := W_3.c0
  have W_3_c1 := W_3.c1
  have W_3_f0 := W_3.f0
  have W_3_f1 := W_3.f1
  go_wp2_with fail
  apply share
  · intro key
    first | go_region_with (first | (go_at_call 14; refine (strings_true _).mono ?_; rintro e w4 ⟨rfl, y4⟩; have Y4 : Below ((w3).alloc (.cells #[.int .i64 code, .int .i64 idx] 26)).heap.size ((w3).alloc (.cells #[.int .i64 code, .int .i64 idx] 26)).drew w4 := y4; have F_4_c0 := ((Two.on (w := ((w3).alloc (.cells #[.int .i64 code, .int .i64 idx] 26)).drew) F_3 Y4)).c0; have F_4_c1 := ((Two.on (w := ((w3).alloc (.cells #[.int .i64 code, .int .i64 idx] 26)).drew) F_3 Y4)).c1; have W_4_c0 := ((Two.on (w := ((w3).alloc (.cells #[.int .i64 code, .int .i64 idx] 26)).drew) W_3 Y4)).c0; have W_4_c1 := ((Two.on (w := ((w3).alloc (.cells #[.int .i64 code, .int .i64 idx] 26)).drew) W_3 Y4)).c1; have X_4_c0 := ((Two.on (w := ((w3).alloc (.cells #[.int .i64 code, .int .i64 idx] 26)).drew) X_3 Y4)).c0; have X_4_c1 := ((Two.on (w := ((w3).alloc (.cells #[.int .i64 code, .int .i64 idx] 26)).drew) X_3 Y4)).c1) | (go_at_call 17; refine (api_same (l := []) (l2 := []) (Rd.on (w := ((w3).alloc (.cells #[.int .i64 code, .int .i64 idx] 26)).drew) RX_3 Y4) (Rd.none_ _) Is01.nil Is01.nil true (by decide) _ _ rfl rfl).mono ?_; rintro e w5 ⟨rfl, y5⟩; have Y5 := Y4.trans (y5.mono Y4.size); have F_5_c0 := ((Two.on (w := ((w3).alloc (.cells #[.int .i64 code, .int .i64 idx] 26)).drew) F_3 Y5)).c0; have F_5_c1 := ((Two.on (w := ((w3).alloc (.cells #[.int .i64 code, .int .i64 idx] 26)).drew) F_3 Y5)).c1; have W_5_c0 := ((Two.on (w := ((w3).alloc (.cells #[.int .i64 code, .int .i64 idx] 26)).drew) W_3 Y5)).c0; have W_5_c1 := ((Two.on (w := ((w3).alloc (.cells #[.int .i64 code, .int .i64 idx] 26)).drew) W_3 Y5)).c1; have X_5_c0 := ((Two.on (w := ((w3).alloc (.cells #[.int .i64 code, .int .i64 idx] 26)).drew) X_3 Y5)).c0; have X_5_c1 := ((Two.on (w := ((w3).alloc (.cells #[.int .i64 code, .int .i64 idx] 26)).drew) X_3 Y5)).c1)) | fail
    all_goals
      have R_5 := (Rd.on (w := ((w3).alloc (.cells #[.int .i64 code, .int .i64 idx] 26)).drew) R_3 Y5)
      have Q_5 := (RdB.on (w := ((w3).alloc (.cells #[.int .i64 code, .int .i64 idx] 26)).drew) Q_3 Y5)
      have B_5 := (Two.on (w := ((w3).alloc (.cells #[.int .i64 code, .int .i64 idx] 26)).drew) B_3 Y5)
      have RX_5 := (Rd.on (w := ((w3).alloc (.cells #[.int .i64 code, .int .i64 idx] 26)).drew) RX_3 Y5)
      have X_5 := (Two.on (w := ((w3).alloc (.cells #[.int .i64 code, .int .i64 idx] 26)).drew) X_3 Y5)
      have F_5 := (Two.on (w := ((w3).alloc (.cells #[.int .i64 code, .int .i64 idx] 26)).drew) F_3 Y5)
      have RY_5 := (Rd.on (w := ((w3).alloc (.cells #[.int .i64 code, .int .i64 idx] 26)).drew) RY_3 Y5)
      have Y_5 := (Two.on (w := ((w3).alloc (.cells #[.int .i64 code, .int .i64 idx] 26)).drew) Y_3 Y5)
      have G_5 := (Two.on (w := ((w3).alloc (.cells #[.int .i64 code, .int .i64 idx] 26)).drew) G_3 Y5)
      have W_5 := (Two.on (w := ((w3).alloc (.cells #[.int .i64 code, .int .i64 idx] 26)).drew) W_3 Y5)
      have Z5 := (belowD Z3).trans (Y5.mono (belowD Z3).size)
      have CW_5 := (belowD CW_3).trans (Y5.mono (belowD CW_3).size)
      clear F_4_c0 F_4_c1 W_4_c0 W_4_c1 X_4_c0 X_4_c1 F_5_c0 F_5_c1 W_5_c0 W_5_c1 X_5_c0 X_5_c1
      (try simp only [Act.put, List.setIfInBounds_toArray, List.set_cons_zero, List.set_cons_succ])
      clear Y4 Y5 y4 y5
      revert R_5 Q_5 B_5 RX_5 X_5 F_5 RY_5 Y_5 G_5 W_5 Z5 CW_5
      revert w5
      exact key
  intro w5 R_5 Q_5 B_5 RX_5 X_5 F_5 RY_5 Y_5 G_5 W_5 Z5 CW_5
  clear R_3 Q_3 B_3 B_3_c0 B_3_c1 RX_3 X_3 X_3_c0 X_3_c1 F_3 F_3_c0 F_3_c1 RY_3 Y_3 Y_3_c0 Y_3_c1 G_3 G_3_c0 G_3_c1 W_3 W_3_c0 W_3_c1 W_3_f0 W_3_f1
  have B_5_c0 := B_5.c0
  have B_5_c1 := B_5.c1
  have X_5_c0 := X_5.c0
  have X_5_c1 := X_5.c1
  have F_5_c0 := F_5.c0
  have F_5_c1 := F_5.c1
  have Y_5_c0 := Y_5.c0
  have Y_5_c1 := Y_5.c1
  have G_5_c0 := G_5.c0
  have G_5_c1 := G_5.c1
  have W_5_c0 := W_5.c0
  have W_5_c1 := W_5.c1
  have W_5_f0 := W_5.f0
  have W_5_f1 := W_5.f1
  have CW_6 := (CW_5.setCell (p := ⟨w3.heap.size, 0, none⟩) (by simp) (.int .i64 0)).setCell (p := ⟨w3.heap.size, 1, none⟩) (by simp) (.int .i64 0)
  have Z6 := (Z5.setCell (p := ⟨w3.heap.size, 0, none⟩) (by have := z3.size; simp; omega) (.int .i64 0)).setCell (p := ⟨w3.heap.size, 1, none⟩) (by have := z3.size; simp; omega) (.int .i64 0)
  have R_6 := R_b.on CW_6
  have Q_6 := Q_b.on CW_6
  have B_6 := B_b.on CW_6
  have RX_6 := RX_b.on CW_6
  have X_6 := X_b.on CW_6
  have F_6 := F_b.on CW_6
  have RY_6 := RY_b.on CW_6
  have Y_6 := Y_b.on CW_6
  have G_6 := G_b.on CW_6
  have W_6 := (W_5.set0 (.int .i64 0)).set1 (.int .i64 0)
  have B_6_c0 := B_6.c0
  have B_6_c1 := B_6.c1
  have X_6_c0 := X_6.c0
  have X_6_c1 := X_6.c1
  have F_6_c0 := F_6.c0
  have F_6_c1 := F_6.c1
  have Y_6_c0 := Y_6.c0
  have Y_6_c1 := Y_6.c1
  have G_6_c0 := G_6.c0
  have G_6_c1 := G_6.c1
  have W_6_c0 := W_6.c0
  have W_6_c1 := W_6.c1
  have W_6_f0 := W_6.f0
  have W_6_f1 := W_6.f1
  go_wp2_with fail
  refine (bitsok_any R_6 HD.out hlo hhi false ⟨(fun h => by cases h), fun h => absurd h HNO.out⟩).mono ?_
  rintro e w7 ⟨rfl, y7⟩
  have R_7 := R_6.on y7
  have Q_7 := Q_6.on y7
  have B_7 := B_6.on y7
  have RX_7 := RX_6.on y7
  have X_7 := X_6.on y7
  have F_7 := F_6.on y7
  have RY_7 := RY_6.on y7
  have Y_7 := Y_6.on y7
  have G_7 := G_6.on y7
  have W_7 := W_6.on y7
  clear R_5 Q_5 B_5 B_5_c0 B_5_c1 RX_5 X_5 X_5_c0 X_5_c1 F_5 F_5_c0 F_5_c1 RY_5 Y_5 Y_5_c0 Y_5_c1 G_5 G_5_c0 G_5_c1 W_5 W_5_c0 W_5_c1 W_5_f0 W_5_f1 R_6 Q_6 B_6 B_6_c0 B_6_c1 RX_6 X_6 X_6_c0 X_6_c1 F_6 F_6_c0 F_6_c1 RY_6 Y_6 Y_6_c0 Y_6_c1 G_6 G_6_c0 G_6_c1 W_6 W_6_c0 W_6_c1 W_6_f0 W_6_f1
  have z7 := Z6.trans (y7.mono Z6.size)
  have Z7 := z7
  have cW7 := CW_6.trans (y7.mono CW_6.size)
  have CW_7 := cW7
  have B_7_c0 := B_7.c0
  have B_7_c1 := B_7.c1
  have X_7_c0 := X_7.c0
  have X_7_c1 := X_7.c1
  have F_7_c0 := F_7.c0
  have F_7_c1 := F_7.c1
  have Y_7_c0 := Y_7.c0
  have Y_7_c1 := Y_7.c1
  have G_7_c0 := G_7.c0
  have G_7_c1 := G_7.c1
  have W_7_c0 := W_7.c0
  have W_7_c1 := W_7.c1
  have W_7_f0 := W_7.f0
  have W_7_f1 := W_7.f1
  go_wp2_with fail
  refine (refat_any _ _ _).mono ?_
  rintro e w8 ⟨rfl, y8⟩
  have R_8 := R_7.on y8
  have Q_8 := Q_7.on y8
  have B_8 := B_7.on y8
  have RX_8 := RX_7.on y8
  have X_8 := X_7.on y8
  have F_8 := F_7.on y8
  have RY_8 := RY_7.on y8
  have Y_8 := Y_7.on y8
  have G_8 := G_7.on y8
  have W_8 := W_7.on y8
  clear R_7 Q_7 B_7 B_7_c0 B_7_c1 RX_7 X_7 X_7_c0 X_7_c1 F_7 F_7_c0 F_7_c1 RY_7 Y_7 Y_7_c0 Y_7_c1 G_7 G_7_c0 G_7_c1 W_7 W_7_c0 W_7_c1 W_7_f0 W_7_f1
  have z8 := Z7.trans (y8.mono Z7.size)
  have Z8 := z8
  have cW8 := CW_7.trans (y8.mono CW_7.size)
  have CW_8 := cW8
  have B_8_c0 := B_8.c0
  have B_8_c1 := B_8.c1
  have X_8_c0 := X_8.c0
  have X_8_c1 := X_8.c1
  have F_8_c0 := F_8.c0
  have F_8_c1 := F_8.c1
  have Y_8_c0 := Y_8.c0
  have Y_8_c1 := Y_8.c1
  have G_8_c0 := G_8.c0
  have G_8_c1 := G_8.c1
  have W_8_c0 := W_8.c0
  have W_8_c1 := W_8.c1
  have W_8_f0 := W_8.f0
  have W_8_f1 := W_8.f1
  have CW_9 := (CW_8.setCell (p := ⟨w3.heap.size, 0, none⟩) (by simp) (.int .i64 6)).setCell (p := ⟨w3.heap.size, 1, none⟩) (by simp) (.int .i64 (-1))
  have Z9 := (Z8.setCell (p := ⟨w3.heap.size, 0, none⟩) (by have := z3.size; simp; omega) (.int .i64 6)).setCell (p := ⟨w3.heap.size, 1, none⟩) (by have := z3.size; simp; omega) (.int .i64 (-1))
  have R_9 := R_b.on CW_9
  have Q_9 := Q_b.on CW_9
  have B_9 := B_b.on CW_9
  have RX_9 := RX_b.on CW_9
  have X_9 := X_b.on CW_9
  have F_9 := F_b.on CW_9
  have RY_9 := RY_b.on CW_9
  have Y_9 := Y_b.on CW_9
  have G_9 := G_b.on CW_9
  have W_9 := (W_8.set0 (.int .i64 6)).set1 (.int .i64 (-1))
  have B_9_c0 := B_9.c0
  have B_9_c1 := B_9.c1
  have X_9_c0 := X_9.c0
  have X_9_c1 := X_9.c1
  have F_9_c0 := F_9.c0
  have F_9_c1 := F_9.c1
  have Y_9_c0 := Y_9.c0
  have Y_9_c1 := Y_9.c1
  have G_9_c0 := G_9.c0
  have G_9_c1 := G_9.c1
  have W_9_c0 := W_9.c0
  have W_9_c1 := W_9.c1
  have W_9_f0 := W_9.f0
  have W_9_f1 := W_9.f1
  go_wp2_with fail
  refine (api_same (l := []) (l2 := []) RY_9 (Rd.none_ _) Is01.nil Is01.nil true (by decide) _ _ rfl rfl).mono ?_
  rintro e w10 ⟨rfl, y10⟩
  have R_10 := R_9.on y10
  have Q_10 := Q_9.on y10
  have B_10 := B_9.on y10
  have RX_10 := RX_9.on y10
  have X_10 := X_9.on y10
  have F_10 := F_9.on y10
  have RY_10 := RY_9.on y10
  have Y_10 := Y_9.on y10
  have G_10 := G_9.on y10
  have W_10 := W_9.on y10
  clear R_8 Q_8 B_8 B_8_c0 B_8_c1 RX_8 X_8 X_8_c0 X_8_c1 F_8 F_8_c0 F_8_c1 RY_8 Y_8 Y_8_c0 Y_8_c1 G_8 G_8_c0 G_8_c1 W_8 W_8_c0 W_8_c1 W_8_f0 W_8_f1 R_9 Q_9 B_9 B_9_c0 B_9_c1 RX_9 X_9 X_9_c0 X_9_c1 F_9 F_9_c0 F_9_c1 RY_9 Y_9 Y_9_c0 Y_9_c1 G_9 G_9_c0 G_9_c1 W_9 W_9_c0 W_9_c1 W_9_f0 W_9_f1
  have z10 := Z9.trans (y10.mono Z9.size)
  have Z10 := z10
  have cW10 := CW_9.trans (y10.mono CW_9.size)
  have CW_10 := cW10
  have B_10_c0 := B_10.c0
  have B_10_c1 := B_10.c1
  have X_10_c0 := X_10.c0
  have X_10_c1 := X_10.c1
  have F_10_c0 := F_10.c0
  have F_10_c1 := F_10.c1
  have Y_10_c0 := Y_10.c0
  have Y_10_c1 := Y_10.c1
  have G_10_c0 := G_10.c0
  have G_10_c1 := G_10.c1
  have W_10_c0 := W_10.c0
  have W_10_c1 := W_10.c1
  have W_10_f0 := W_10.f0
  have W_10_f1 := W_10.f1
  go_wp2
  go_ret
  exact ⟨rfl, Z10⟩
set_option maxRecDepth 100000 in
set_option maxHeartbeats 3200000 in
theorem jm_ef {Aq : Option Addr} {nq_ cq : Nat} {xs : List BItem} (hw : ∀ x ∈ xs, x.wf) {code idx : Int} (hJ : JOut xs code idx) (hc : code ≠ 0) {A : Option Addr} {n c : Nat} {l : List Nat} (h01 : Is01 l) (hl : l.length ≤ 131072) {f t : Int} (hf : f < 0 ∨ ((l.length : Nat) : Int) < f)  (w : World) (hq : RdB w Aq nq_ cq xs) (h : Rd w A n c (bcells (pack l))) :
    Calls Try.prog 9 #[.slice Aq nq_ cq, .agg #[.slice A n c, .int .i64 (l.length : Nat)], .int .i64 f, .int .i64 t] w fun e w' => e = .returned (.bool true) ∧ Below w.heap.size w w' := by
  obtain ⟨i0, hi, hz0, hz1, hz2⟩ := info_parts int_info
  have HW := Lib.hid hw
  have k1 : (code != 0) = true := by rw [bne_iff_ne]; exact hc
  have k2 : (code == 0) = false := by rw [beq_eq_false_iff_ne]; exact hc
  have er : JRes xs code idx = [] := by unfold JRes; rw [if_neg hc]
  have HJN := Lib.hid (fun W (hW : RdB W Aq nq_ cq xs) => join_any hW HW.out hJ)
  rw [er] at HJN
  have HJF := Lib.hid (fun W (hW : RdB W Aq nq_ cq xs) => joinfault_any hW HW.out hJ)
  clear hJ hc er hw
  have H01 := Lib.hid h01
  have HLL := Lib.hid hl
  have HOK := Lib.hid (Ok.of_list h01 hl)
  clear h01
  have HS := Lib.hid (fun W (hW : Rd W A n c (bcells (pack l))) => slice_err (f := f) (t := t) (pack_lt H01.out) (.inr (.inl ⟨HOK.out, hf, rfl, rfl⟩)) W hW)
  have HF := Lib.hid hf
  clear hf
  have R_0 := (h).alloc (.cells #[.slice A n c, .int .i64 (l.length : Nat)] 24)
  have Q_0 := (hq).alloc (.cells #[.slice A n c, .int .i64 (l.length : Nat)] 24)
  have B_0 := (Two.new w 24 (.slice A n c) (.int .i64 (l.length : Nat)))
  have Z0 := (Below.refl w.heap.size w).alloc (by simp) (.cells #[.slice A n c, .int .i64 (l.length : Nat)] 24)
  have B_0_c0 := B_0.c0
  have B_0_c1 := B_0.c1
  go_enter Try.func9, Try.ntmps9
  go_wp2_with fail
  refine (HJN.out _ Q_0).mono ?_
  rintro e w1 ⟨Ax, nx, cx, rfl, ox, y1⟩
  have R_1 := ((R_0.on y1).alloc (.cells #[.slice Ax nx cx, .int .i64 0] 24)).alloc (.cells #[.int .i64 code, .int .i64 idx] 26)
  have Q_1 := ((Q_0.on y1).alloc (.cells #[.slice Ax nx cx, .int .i64 0] 24)).alloc (.cells #[.int .i64 code, .int .i64 idx] 26)
  have B_1 := ((B_0.on y1).alloc (.cells #[.slice Ax nx cx, .int .i64 0] 24)).alloc (.cells #[.int .i64 code, .int .i64 idx] 26)
  have RX_1 := ((Rd.own ox).alloc (.cells #[.slice Ax nx cx, .int .i64 0] 24)).alloc (.cells #[.int .i64 code, .int .i64 idx] 26)
  have X_1 := ((Two.new w1 24 (.slice Ax nx cx) (.int .i64 0))).alloc (.cells #[.int .i64 code, .int .i64 idx] 26)
  have F_1 := (Two.new1 w1 (.cells #[.slice Ax nx cx, .int .i64 0] 24) 26 (.int .i64 code) (.int .i64 idx))
  clear R_0 Q_0 B_0 B_0_c0 B_0_c1
  have z1 := Z0.trans (y1.mono Z0.size)
  have Z1 := ((z1).alloc (by have := z1.size; omega) (.cells #[.slice Ax nx cx, .int .i64 0] 24)).alloc (by have := z1.size; simp; omega) (.cells #[.int .i64 code, .int .i64 idx] 26)
  have B_1_c0 := B_1.c0
  have B_1_c1 := B_1.c1
  have X_1_c0 := X_1.c0
  have X_1_c1 := X_1.c1
  have F_1_c0 := F_1.c0
  have F_1_c1 := F_1.c1
  go_wp2_with fail
  refine (HS.out _ R_1).mono ?_
  rintro e w2 ⟨rfl, y2⟩
  have R_2 := ((R_1.on y2).alloc (.cells #[.slice none 0 0, .int .i64 0] 24)).alloc (.cells #[.int .i64 4, .int .i64 (-2)] 26)
  have Q_2 := ((Q_1.on y2).alloc (.cells #[.slice none 0 0, .int .i64 0] 24)).alloc (.cells #[.int .i64 4, .int .i64 (-2)] 26)
  have B_2 := ((B_1.on y2).alloc (.cells #[.slice none 0 0, .int .i64 0] 24)).alloc (.cells #[.int .i64 4, .int .i64 (-2)] 26)
  have RX_2 := ((RX_1.on y2).alloc (.cells #[.slice none 0 0, .int .i64 0] 24)).alloc (.cells #[.int .i64 4, .int .i64 (-2)] 26)
  have X_2 := ((X_1.on y2).alloc (.cells #[.slice none 0 0, .int .i64 0] 24)).alloc (.cells #[.int .i64 4, .int .i64 (-2)] 26)
  have F_2 := ((F_1.on y2).alloc (.cells #[.slice none 0 0, .int .i64 0] 24)).alloc (.cells #[.int .i64 4, .int .i64 (-2)] 26)
  have RY_2 := ((Rd.none_ w2).alloc (.cells #[.slice none 0 0, .int .i64 0] 24)).alloc (.cells #[.int .i64 4, .int .i64 (-2)] 26)
  have Y_2 := ((Two.new w2 24 (.slice none 0 0) (.int .i64 0))).alloc (.cells #[.int .i64 4, .int .i64 (-2)] 26)
  have G_2 := (Two.new1 w2 (.cells #[.slice none 0 0, .int .i64 0] 24) 26 (.int .i64 4) (.int .i64 (-2)))
  clear R_1 Q_1 B_1 B_1_c0 B_1_c1 RX_1 X_1 X_1_c0 X_1_c1 F_1 F_1_c0 F_1_c1
  have z2 := Z1.trans (y2.mono Z1.size)
  have Z2 := ((z2).alloc (by have := z2.size; omega) (.cells #[.slice none 0 0, .int .i64 0] 24)).alloc (by have := z2.size; simp; omega) (.cells #[.int .i64 4, .int .i64 (-2)] 26)
  have B_2_c0 := B_2.c0
  have B_2_c1 := B_2.c1
  have X_2_c0 := X_2.c0
  have X_2_c1 := X_2.c1
  have F_2_c0 := F_2.c0
  have F_2_c1 := F_2.c1
  have Y_2_c0 := Y_2.c0
  have Y_2_c1 := Y_2.c1
  have G_2_c0 := G_2.c0
  have G_2_c1 := G_2.c1
  go_wp2_with fail
  refine (HJF.out _ Q_2).mono ?_
  rintro e w3 ⟨rfl, y3⟩
  have R_3 := (R_2.on y3).alloc (.cells #[.int .i64 code, .int .i64 idx] 26)
  have Q_3 := (Q_2.on y3).alloc (.cells #[.int .i64 code, .int .i64 idx] 26)
  have B_3 := (B_2.on y3).alloc (.cells #[.int .i64 code, .int .i64 idx] 26)
  have RX_3 := (RX_2.on y3).alloc (.cells #[.int .i64 code, .int .i64 idx] 26)
  have X_3 := (X_2.on y3).alloc (.cells #[.int .i64 code, .int .i64 idx] 26)
  have F_3 := (F_2.on y3).alloc (.cells #[.int .i64 code, .int .i64 idx] 26)
  have RY_3 := (RY_2.on y3).alloc (.cells #[.int .i64 code, .int .i64 idx] 26)
  have Y_3 := (Y_2.on y3).alloc (.cells #[.int .i64 code, .int .i64 idx] 26)
  have G_3 := (G_2.on y3).alloc (.cells #[.int .i64 code, .int .i64 idx] 26)
  have R_b := R_2.on y3
  have Q_b := Q_2.on y3
  have B_b := B_2.on y3
  have RX_b := RX_2.on y3
  have X_b := X_2.on y3
  have F_b := F_2.on y3
  have RY_b := RY_2.on y3
  have Y_b := Y_2.on y3
  have G_b := G_2.on y3
  have W_3 := (Two.new w3 26 (.int .i64 code) (.int .i64 idx))
  clear R_2 Q_2 B_2 B_2_c0 B_2_c1 RX_2 X_2 X_2_c0 X_2_c1 F_2 F_2_c0 F_2_c1 RY_2 Y_2 Y_2_c0 Y_2_c1 G_2 G_2_c0 G_2_c1
  have z3 := Z2.trans (y3.mono Z2.size)
  have Z3 := (z3).alloc (by have := z3.size; omega) (.cells #[.int .i64 code, .int .i64 idx] 26)
  have CW_3 := (Below.refl w3.heap.size w3).alloc (by simp) (.cells #[.int .i64 code, .int .i64 idx] 26)
  have B_3_c0 := B_3.c0
  have B_3_c1 := B_3.c1
  have X_3_c0 := X_3.c0
  have X_3_c1 := X_3.c1
  have F_3_c0 := F_3.c0
  have F_3_c1 := F_3.c1
  have Y_3_c0 := Y_3.c0
  have Y_3_c1 := Y_3.c1
  have G_3_c0 := G_3.c0
  have G_3_c1 := G_3.c1
  have W_3_c0 := W_3.c0
  have W_3_c1 := W_3.c1
  have W_3_f0 := W_3.f0
  have W_3_f1 := W_3.f1
  go_wp2_with fail
  apply share
  · intro key
    first | go_region_with (first | (go_at_call 14; refine (strings_true _).mono ?_; rintro e w4 ⟨rfl, y4⟩; have Y4 : Below ((w3).alloc (.cells #[.int .i64 code, .int .i64 idx] 26)).heap.size ((w3).alloc (.cells #[.int .i64 code, .int .i64 idx] 26)).drew w4 := y4; have F_4_c0 := ((Two.on (w := ((w3).alloc (.cells #[.int .i64 code, .int .i64 idx] 26)).drew) F_3 Y4)).c0; have F_4_c1 := ((Two.on (w := ((w3).alloc (.cells #[.int .i64 code, .int .i64 idx] 26)).drew) F_3 Y4)).c1; have W_4_c0 := ((Two.on (w := ((w3).alloc (.cells #[.int .i64 code, .int .i64 idx] 26)).drew) W_3 Y4)).c0; have W_4_c1 := ((Two.on (w := ((w3).alloc (.cells #[.int .i64 code, .int .i64 idx] 26)).drew) W_3 Y4)).c1; have X_4_c0 := ((Two.on (w := ((w3).alloc (.cells #[.int .i64 code, .int .i64 idx] 26)).drew) X_3 Y4)).c0; have X_4_c1 := ((Two.on (w := ((w3).alloc (.cells #[.int .i64 code, .int .i64 idx] 26)).drew) X_3 Y4)).c1) | (go_at_call 17; refine (api_same (l := []) (l2 := []) (Rd.on (w := ((w3).alloc (.cells #[.int .i64 code, .int .i64 idx] 26)).drew) RX_3 Y4) (Rd.none_ _) Is01.nil Is01.nil true (by decide) _ _ rfl rfl).mono ?_; rintro e w5 ⟨rfl, y5⟩; have Y5 := Y4.trans (y5.mono Y4.size); have F_5_c0 := ((Two.on (w := ((w3).alloc (.cells #[.int .i64 code, .int .i64 idx] 26)).drew) F_3 Y5)).c0; have F_5_c1 := ((Two.on (w := ((w3).alloc (.cells #[.int .i64 code, .int .i64 idx] 26)).drew) F_3 Y5)).c1; have W_5_c0 := ((Two.on (w := ((w3).alloc (.cells #[.int .i64 code, .int .i64 idx] 26)).drew) W_3 Y5)).c0; have W_5_c1 := ((Two.on (w := ((w3).alloc (.cells #[.int .i64 code, .int .i64 idx] 26)).drew) W_3 Y5)).c1; have X_5_c0 := ((Two.on (w := ((w3).alloc (.cells #[.int .i64 code, .int .i64 idx] 26)).drew) X_3 Y5)).c0; have X_5_c1 := ((Two.on (w := ((w3).alloc (.cells #[.int .i64 code, .int .i64 idx] 26)).drew) X_3 Y5)).c1)) | fail
    all_goals
      have R_5 := (Rd.on (w := ((w3).alloc (.cells #[.int .i64 code, .int .i64 idx] 26)).drew) R_3 Y5)
      have Q_5 := (RdB.on (w := ((w3).alloc (.cells #[.int .i64 code, .int .i64 idx] 26)).drew) Q_3 Y5)
      have B_5 := (Two.on (w := ((w3).alloc (.cells #[.int .i64 code, .int .i64 idx] 26)).drew) B_3 Y5)
      have RX_5 := (Rd.on (w := ((w3).alloc (.cells #[.int .i64 code, .int .i64 idx] 26)).drew) RX_3 Y5)
      have X_5 := (Two.on (w := ((w3).alloc (.cells #[.int .i64 code, .int .i64 idx] 26)).drew) X_3 Y5)
      have F_5 := (Two.on (w := ((w3).alloc (.cells #[.int .i64 code, .int .i64 idx] 26)).drew) F_3 Y5)
      have RY_5 := (Rd.on (w := ((w3).alloc (.cells #[.int .i64 code, .int .i64 idx] 26)).drew) RY_3 Y5)
      have Y_5 := (Two.on (w := ((w3).alloc (.cells #[.int .i64 code, .int .i64 idx] 26)).drew) Y_3 Y5)
      have G_5 := (Two.on (w := ((w3).alloc (.cells #[.int .i64 code, .int .i64 idx] 26)).drew) G_3 Y5)
      have W_5 := (Two.on (w := ((w3).alloc (.cells #[.int .i64 code, .int .i64 idx] 26)).drew) W_3 Y5)
      have Z5 := (belowD Z3).trans (Y5.mono (belowD Z3).size)
      have CW_5 := (belowD CW_3).trans (Y5.mono (belowD CW_3).size)
      clear F_4_c0 F_4_c1 W_4_c0 W_4_c1 X_4_c0 X_4_c1 F_5_c0 F_5_c1 W_5_c0 W_5_c1 X_5_c0 X_5_c1
      (try simp only [Act.put, List.setIfInBounds_toArray, List.set_cons_zero, List.set_cons_succ])
      clear Y4 Y5 y4 y5
      revert R_5 Q_5 B_5 RX_5 X_5 F_5 RY_5 Y_5 G_5 W_5 Z5 CW_5
      revert w5
      exact key
  intro w5 R_5 Q_5 B_5 RX_5 X_5 F_5 RY_5 Y_5 G_5 W_5 Z5 CW_5
  clear R_3 Q_3 B_3 B_3_c0 B_3_c1 RX_3 X_3 X_3_c0 X_3_c1 F_3 F_3_c0 F_3_c1 RY_3 Y_3 Y_3_c0 Y_3_c1 G_3 G_3_c0 G_3_c1 W_3 W_3_c0 W_3_c1 W_3_f0 W_3_f1
  have B_5_c0 := B_5.c0
  have B_5_c1 := B_5.c1
  have X_5_c0 := X_5.c0
  have X_5_c1 := X_5.c1
  have F_5_c0 := F_5.c0
  have F_5_c1 := F_5.c1
  have Y_5_c0 := Y_5.c0
  have Y_5_c1 := Y_5.c1
  have G_5_c0 := G_5.c0
  have G_5_c1 := G_5.c1
  have W_5_c0 := W_5.c0
  have W_5_c1 := W_5.c1
  have W_5_f0 := W_5.f0
  have W_5_f1 := W_5.f1
  have CW_6 := (CW_5.setCell (p := ⟨w3.heap.size, 0, none⟩) (by simp) (.int .i64 0)).setCell (p := ⟨w3.heap.size, 1, none⟩) (by simp) (.int .i64 0)
  have Z6 := (Z5.setCell (p := ⟨w3.heap.size, 0, none⟩) (by have := z3.size; simp; omega) (.int .i64 0)).setCell (p := ⟨w3.heap.size, 1, none⟩) (by have := z3.size; simp; omega) (.int .i64 0)
  have R_6 := R_b.on CW_6
  have Q_6 := Q_b.on CW_6
  have B_6 := B_b.on CW_6
  have RX_6 := RX_b.on CW_6
  have X_6 := X_b.on CW_6
  have F_6 := F_b.on CW_6
  have RY_6 := RY_b.on CW_6
  have Y_6 := Y_b.on CW_6
  have G_6 := G_b.on CW_6
  have W_6 := (W_5.set0 (.int .i64 0)).set1 (.int .i64 0)
  have B_6_c0 := B_6.c0
  have B_6_c1 := B_6.c1
  have X_6_c0 := X_6.c0
  have X_6_c1 := X_6.c1
  have F_6_c0 := F_6.c0
  have F_6_c1 := F_6.c1
  have Y_6_c0 := Y_6.c0
  have Y_6_c1 := Y_6.c1
  have G_6_c0 := G_6.c0
  have G_6_c1 := G_6.c1
  have W_6_c0 := W_6.c0
  have W_6_c1 := W_6.c1
  have W_6_f0 := W_6.f0
  have W_6_f1 := W_6.f1
  go_wp2_with fail
  refine (bitsok_any R_6 (pack_lt H01.out) (by omega) (by have := HLL.out; omega) true ⟨fun _ => HOK.out, fun _ => rfl⟩).mono ?_
  rintro e w7 ⟨rfl, y7⟩
  have R_7 := R_6.on y7
  have Q_7 := Q_6.on y7
  have B_7 := B_6.on y7
  have RX_7 := RX_6.on y7
  have X_7 := X_6.on y7
  have F_7 := F_6.on y7
  have RY_7 := RY_6.on y7
  have Y_7 := Y_6.on y7
  have G_7 := G_6.on y7
  have W_7 := W_6.on y7
  clear R_5 Q_5 B_5 B_5_c0 B_5_c1 RX_5 X_5 X_5_c0 X_5_c1 F_5 F_5_c0 F_5_c1 RY_5 Y_5 Y_5_c0 Y_5_c1 G_5 G_5_c0 G_5_c1 W_5 W_5_c0 W_5_c1 W_5_f0 W_5_f1 R_6 Q_6 B_6 B_6_c0 B_6_c1 RX_6 X_6 X_6_c0 X_6_c1 F_6 F_6_c0 F_6_c1 RY_6 Y_6 Y_6_c0 Y_6_c1 G_6 G_6_c0 G_6_c1 W_6 W_6_c0 W_6_c1 W_6_f0 W_6_f1
  have z7 := Z6.trans (y7.mono Z6.size)
  have Z7 := z7
  have cW7 := CW_6.trans (y7.mono CW_6.size)
  have CW_7 := cW7
  have B_7_c0 := B_7.c0
  have B_7_c1 := B_7.c1
  have X_7_c0 := X_7.c0
  have X_7_c1 := X_7.c1
  have F_7_c0 := F_7.c0
  have F_7_c1 := F_7.c1
  have Y_7_c0 := Y_7.c0
  have Y_7_c1 := Y_7.c1
  have G_7_c0 := G_7.c0
  have G_7_c1 := G_7.c1
  have W_7_c0 := W_7.c0
  have W_7_c1 := W_7.c1
  have W_7_f0 := W_7.f0
  have W_7_f1 := W_7.f1
  go_wp2_with fail
  refine (in_no f 0 (l.length : Nat) _ HF.out).mono ?_
  rintro e w9_1 ⟨rfl, rfl⟩
  go_wp2_with fail
  refine (refat_any _ _ _).mono ?_
  rintro e w8 ⟨rfl, y8⟩
  have R_8 := R_7.on y8
  have Q_8 := Q_7.on y8
  have B_8 := B_7.on y8
  have RX_8 := RX_7.on y8
  have X_8 := X_7.on y8
  have F_8 := F_7.on y8
  have RY_8 := RY_7.on y8
  have Y_8 := Y_7.on y8
  have G_8 := G_7.on y8
  have W_8 := W_7.on y8
  clear R_7 Q_7 B_7 B_7_c0 B_7_c1 RX_7 X_7 X_7_c0 X_7_c1 F_7 F_7_c0 F_7_c1 RY_7 Y_7 Y_7_c0 Y_7_c1 G_7 G_7_c0 G_7_c1 W_7 W_7_c0 W_7_c1 W_7_f0 W_7_f1
  have z8 := Z7.trans (y8.mono Z7.size)
  have Z8 := z8
  have cW8 := CW_7.trans (y8.mono CW_7.size)
  have CW_8 := cW8
  have B_8_c0 := B_8.c0
  have B_8_c1 := B_8.c1
  have X_8_c0 := X_8.c0
  have X_8_c1 := X_8.c1
  have F_8_c0 := F_8.c0
  have F_8_c1 := F_8.c1
  have Y_8_c0 := Y_8.c0
  have Y_8_c1 := Y_8.c1
  have G_8_c0 := G_8.c0
  have G_8_c1 := G_8.c1
  have W_8_c0 := W_8.c0
  have W_8_c1 := W_8.c1
  have W_8_f0 := W_8.f0
  have W_8_f1 := W_8.f1
  have CW_9 := (CW_8.setCell (p := ⟨w3.heap.size, 0, none⟩) (by simp) (.int .i64 4)).setCell (p := ⟨w3.heap.size, 1, none⟩) (by simp) (.int .i64 (-2))
  have Z9 := (Z8.setCell (p := ⟨w3.heap.size, 0, none⟩) (by have := z3.size; simp; omega) (.int .i64 4)).setCell (p := ⟨w3.heap.size, 1, none⟩) (by have := z3.size; simp; omega) (.int .i64 (-2))
  have R_9 := R_b.on CW_9
  have Q_9 := Q_b.on CW_9
  have B_9 := B_b.on CW_9
  have RX_9 := RX_b.on CW_9
  have X_9 := X_b.on CW_9
  have F_9 := F_b.on CW_9
  have RY_9 := RY_b.on CW_9
  have Y_9 := Y_b.on CW_9
  have G_9 := G_b.on CW_9
  have W_9 := (W_8.set0 (.int .i64 4)).set1 (.int .i64 (-2))
  have B_9_c0 := B_9.c0
  have B_9_c1 := B_9.c1
  have X_9_c0 := X_9.c0
  have X_9_c1 := X_9.c1
  have F_9_c0 := F_9.c0
  have F_9_c1 := F_9.c1
  have Y_9_c0 := Y_9.c0
  have Y_9_c1 := Y_9.c1
  have G_9_c0 := G_9.c0
  have G_9_c1 := G_9.c1
  have W_9_c0 := W_9.c0
  have W_9_c1 := W_9.c1
  have W_9_f0 := W_9.f0
  have W_9_f1 := W_9.f1
  go_wp2_with fail
  refine (api_same (l := []) (l2 := []) RY_9 (Rd.none_ _) Is01.nil Is01.nil true (by decide) _ _ rfl rfl).mono ?_
  rintro e w10 ⟨rfl, y10⟩
  have R_10 := R_9.on y10
  have Q_10 := Q_9.on y10
  have B_10 := B_9.on y10
  have RX_10 := RX_9.on y10
  have X_10 := X_9.on y10
  have F_10 := F_9.on y10
  have RY_10 := RY_9.on y10
  have Y_10 := Y_9.on y10
  have G_10 := G_9.on y10
  have W_10 := W_9.on y10
  clear R_8 Q_8 B_8 B_8_c0 B_8_c1 RX_8 X_8 X_8_c0 X_8_c1 F_8 F_8_c0 F_8_c1 RY_8 Y_8 Y_8_c0 Y_8_c1 G_8 G_8_c0 G_8_c1 W_8 W_8_c0 W_8_c1 W_8_f0 W_8_f1 R_9 Q_9 B_9 B_9_c0 B_9_c1 RX_9 X_9 X_9_c0 X_9_c1 F_9 F_9_c0 F_9_c1 RY_9 Y_9 Y_9_c0 Y_9_c1 G_9 G_9_c0 G_9_c1 W_9 W_9_c0 W_9_c1 W_9_f0 W_9_f1
  have z10 := Z9.trans (y10.mono Z9.size)
  have Z10 := z10
  have cW10 := CW_9.trans (y10.mono CW_9.size)
  have CW_10 := cW10
  have B_10_c0 := B_10.c0
  have B_10_c1 := B_10.c1
  have X_10_c0 := X_10.c0
  have X_10_c1 := X_10.c1
  have F_10_c0 := F_10.c0
  have F_10_c1 := F_10.c1
  have Y_10_c0 := Y_10.c0
  have Y_10_c1 := Y_10.c1
  have G_10_c0 := G_10.c0
  have G_10_c1 := G_10.c1
  have W_10_c0 := W_10.c0
  have W_10_c1 := W_10.c1
  have W_10_f0 := W_10.f0
  have W_10_f1 := W_10.f1
  go_wp2
  go_ret
  exact ⟨rfl, Z10⟩
set_option maxRecDepth 100000 in
set_option maxHeartbeats 3200000 in
theorem jm_et {Aq : Option Addr} {nq_ cq : Nat} {xs : List BItem} (hw : ∀ x ∈ xs, x.wf) {code idx : Int} (hJ : JOut xs code idx) (hc : code ≠ 0) {A : Option Addr} {n c : Nat} {l : List Nat} (h01 : Is01 l) (hl : l.length ≤ 131072) {f t : Int} (hf0 : 0 ≤ f) (hf1 : f ≤ ((l.length : Nat) : Int)) (ht : t < f ∨ ((l.length : Nat) : Int) < t)  (w : World) (hq : RdB w Aq nq_ cq xs) (h : Rd w A n c (bcells (pack l))) :
    Calls Try.prog 9 #[.slice Aq nq_ cq, .agg #[.slice A n c, .int .i64 (l.length : Nat)], .int .i64 f, .int .i64 t] w fun e w' => e = .returned (.bool true) ∧ Below w.heap.size w w' := by
  obtain ⟨i0, hi, hz0, hz1, hz2⟩ := info_parts int_info
  have HW := Lib.hid hw
  have k1 : (code != 0) = true := by rw [bne_iff_ne]; exact hc
  have k2 : (code == 0) = false := by rw [beq_eq_false_iff_ne]; exact hc
  have er : JRes xs code idx = [] := by unfold JRes; rw [if_neg hc]
  have HJN := Lib.hid (fun W (hW : RdB W Aq nq_ cq xs) => join_any hW HW.out hJ)
  rw [er] at HJN
  have HJF := Lib.hid (fun W (hW : RdB W Aq nq_ cq xs) => joinfault_any hW HW.out hJ)
  clear hJ hc er hw
  have H01 := Lib.hid h01
  have HLL := Lib.hid hl
  have HOK := Lib.hid (Ok.of_list h01 hl)
  clear h01
  have HS := Lib.hid (fun W (hW : Rd W A n c (bcells (pack l))) => slice_err (f := f) (t := t) (pack_lt H01.out) (.inr (.inr ⟨HOK.out, hf0, hf1, ht, rfl, rfl⟩)) W hW)
  have HF := Lib.hid ht
  clear ht
  have R_0 := (h).alloc (.cells #[.slice A n c, .int .i64 (l.length : Nat)] 24)
  have Q_0 := (hq).alloc (.cells #[.slice A n c, .int .i64 (l.length : Nat)] 24)
  have B_0 := (Two.new w 24 (.slice A n c) (.int .i64 (l.length : Nat)))
  have Z0 := (Below.refl w.heap.size w).alloc (by simp) (.cells #[.slice A n c, .int .i64 (l.length : Nat)] 24)
  have B_0_c0 := B_0.c0
  have B_0_c1 := B_0.c1
  go_enter Try.func9, Try.ntmps9
  go_wp2_with fail
  refine (HJN.out _ Q_0).mono ?_
  rintro e w1 ⟨Ax, nx, cx, rfl, ox, y1⟩
  have R_1 := ((R_0.on y1).alloc (.cells #[.slice Ax nx cx, .int .i64 0] 24)).alloc (.cells #[.int .i64 code, .int .i64 idx] 26)
  have Q_1 := ((Q_0.on y1).alloc (.cells #[.slice Ax nx cx, .int .i64 0] 24)).alloc (.cells #[.int .i64 code, .int .i64 idx] 26)
  have B_1 := ((B_0.on y1).alloc (.cells #[.slice Ax nx cx, .int .i64 0] 24)).alloc (.cells #[.int .i64 code, .int .i64 idx] 26)
  have RX_1 := ((Rd.own ox).alloc (.cells #[.slice Ax nx cx, .int .i64 0] 24)).alloc (.cells #[.int .i64 code, .int .i64 idx] 26)
  have X_1 := ((Two.new w1 24 (.slice Ax nx cx) (.int .i64 0))).alloc (.cells #[.int .i64 code, .int .i64 idx] 26)
  have F_1 := (Two.new1 w1 (.cells #[.slice Ax nx cx, .int .i64 0] 24) 26 (.int .i64 code) (.int .i64 idx))
  clear R_0 Q_0 B_0 B_0_c0 B_0_c1
  have z1 := Z0.trans (y1.mono Z0.size)
  have Z1 := ((z1).alloc (by have := z1.size; omega) (.cells #[.slice Ax nx cx, .int .i64 0] 24)).alloc (by have := z1.size; simp; omega) (.cells #[.int .i64 code, .int .i64 idx] 26)
  have B_1_c0 := B_1.c0
  have B_1_c1 := B_1.c1
  have X_1_c0 := X_1.c0
  have X_1_c1 := X_1.c1
  have F_1_c0 := F_1.c0
  have F_1_c1 := F_1.c1
  go_wp2_with fail
  refine (HS.out _ R_1).mono ?_
  rintro e w2 ⟨rfl, y2⟩
  have R_2 := ((R_1.on y2).alloc (.cells #[.slice none 0 0, .int .i64 0] 24)).alloc (.cells #[.int .i64 4, .int .i64 (-3)] 26)
  have Q_2 := ((Q_1.on y2).alloc (.cells #[.slice none 0 0, .int .i64 0] 24)).alloc (.cells #[.int .i64 4, .int .i64 (-3)] 26)
  have B_2 := ((B_1.on y2).alloc (.cells #[.slice none 0 0, .int .i64 0] 24)).alloc (.cells #[.int .i64 4, .int .i64 (-3)] 26)
  have RX_2 := ((RX_1.on y2).alloc (.cells #[.slice none 0 0, .int .i64 0] 24)).alloc (.cells #[.int .i64 4, .int .i64 (-3)] 26)
  have X_2 := ((X_1.on y2).alloc (.cells #[.slice none 0 0, .int .i64 0] 24)).alloc (.cells #[.int .i64 4, .int .i64 (-3)] 26)
  have F_2 := ((F_1.on y2).alloc (.cells #[.slice none 0 0, .int .i64 0] 24)).alloc (.cells #[.int .i64 4, .int .i64 (-3)] 26)
  have RY_2 := ((Rd.none_ w2).alloc (.cells #[.slice none 0 0, .int .i64 0] 24)).alloc (.cells #[.int .i64 4, .int .i64 (-3)] 26)
  have Y_2 := ((Two.new w2 24 (.slice none 0 0) (.int .i64 0))).alloc (.cells #[.int .i64 4, .int .i64 (-3)] 26)
  have G_2 := (Two.new1 w2 (.cells #[.slice none 0 0, .int .i64 0] 24) 26 (.int .i64 4) (.int .i64 (-3)))
  clear R_1 Q_1 B_1 B_1_c0 B_1_c1 RX_1 X_1 X_1_c0 X_1_c1 F_1 F_1_c0 F_1_c1
  have z2 := Z1.trans (y2.mono Z1.size)
  have Z2 := ((z2).alloc (by have := z2.size; omega) (.cells #[.slice none 0 0, .int .i64 0] 24)).alloc (by have := z2.size; simp; omega) (.cells #[.int .i64 4, .int .i64 (-3)] 26)
  have B_2_c0 := B_2.c0
  have B_2_c1 := B_2.c1
  have X_2_c0 := X_2.c0
  have X_2_c1 := X_2.c1
  have F_2_c0 := F_2.c0
  have F_2_c1 := F_2.c1
  have Y_2_c0 := Y_2.c0
  have Y_2_c1 := Y_2.c1
  have G_2_c0 := G_2.c0
  have G_2_c1 := G_2.c1
  go_wp2_with fail
  refine (HJF.out _ Q_2).mono ?_
  rintro e w3 ⟨rfl, y3⟩
  have R_3 := (R_2.on y3).alloc (.cells #[.int .i64 code, .int .i64 idx] 26)
  have Q_3 := (Q_2.on y3).alloc (.cells #[.int .i64 code, .int .i64 idx] 26)
  have B_3 := (B_2.on y3).alloc (.cells #[.int .i64 code, .int .i64 idx] 26)
  have RX_3 := (RX_2.on y3).alloc (.cells #[.int .i64 code, .int .i64 idx] 26)
  have X_3 := (X_2.on y3).alloc (.cells #[.int .i64 code, .int .i64 idx] 26)
  have F_3 := (F_2.on y3).alloc (.cells #[.int .i64 code, .int .i64 idx] 26)
  have RY_3 := (RY_2.on y3).alloc (.cells #[.int .i64 code, .int .i64 idx] 26)
  have Y_3 := (Y_2.on y3).alloc (.cells #[.int .i64 code, .int .i64 idx] 26)
  have G_3 := (G_2.on y3).alloc (.cells #[.int .i64 code, .int .i64 idx] 26)
  have R_b := R_2.on y3
  have Q_b := Q_2.on y3
  have B_b := B_2.on y3
  have RX_b := RX_2.on y3
  have X_b := X_2.on y3
  have F_b := F_2.on y3
  have RY_b := RY_2.on y3
  have Y_b := Y_2.on y3
  have G_b := G_2.on y3
  have W_3 := (Two.new w3 26 (.int .i64 code) (.int .i64 idx))
  clear R_2 Q_2 B_2 B_2_c0 B_2_c1 RX_2 X_2 X_2_c0 X_2_c1 F_2 F_2_c0 F_2_c1 RY_2 Y_2 Y_2_c0 Y_2_c1 G_2 G_2_c0 G_2_c1
  have z3 := Z2.trans (y3.mono Z2.size)
  have Z3 := (z3).alloc (by have := z3.size; omega) (.cells #[.int .i64 code, .int .i64 idx] 26)
  have CW_3 := (Below.refl w3.heap.size w3).alloc (by simp) (.cells #[.int .i64 code, .int .i64 idx] 26)
  have B_3_c0 := B_3.c0
  have B_3_c1 := B_3.c1
  have X_3_c0 := X_3.c0
  have X_3_c1 := X_3.c1
  have F_3_c0 := F_3.c0
  have F_3_c1 := F_3.c1
  have Y_3_c0 := Y_3.c0
  have Y_3_c1 := Y_3.c1
  have G_3_c0 := G_3.c0
  have G_3_c1 := G_3.c1
  have W_3_c0 := W_3.c0
  have W_3_c1 := W_3.c1
  have W_3_f0 := W_3.f0
  have W_3_f1 := W_3.f1
  go_wp2_with fail
  apply share
  · intro key
    first | go_region_with (first | (go_at_call 14; refine (strings_true _).mono ?_; rintro e w4 ⟨rfl, y4⟩; have Y4 : Below ((w3).alloc (.cells #[.int .i64 code, .int .i64 idx] 26)).heap.size ((w3).alloc (.cells #[.int .i64 code, .int .i64 idx] 26)).drew w4 := y4; have F_4_c0 := ((Two.on (w := ((w3).alloc (.cells #[.int .i64 code, .int .i64 idx] 26)).drew) F_3 Y4)).c0; have F_4_c1 := ((Two.on (w := ((w3).alloc (.cells #[.int .i64 code, .int .i64 idx] 26)).drew) F_3 Y4)).c1; have W_4_c0 := ((Two.on (w := ((w3).alloc (.cells #[.int .i64 code, .int .i64 idx] 26)).drew) W_3 Y4)).c0; have W_4_c1 := ((Two.on (w := ((w3).alloc (.cells #[.int .i64 code, .int .i64 idx] 26)).drew) W_3 Y4)).c1; have X_4_c0 := ((Two.on (w := ((w3).alloc (.cells #[.int .i64 code, .int .i64 idx] 26)).drew) X_3 Y4)).c0; have X_4_c1 := ((Two.on (w := ((w3).alloc (.cells #[.int .i64 code, .int .i64 idx] 26)).drew) X_3 Y4)).c1) | (go_at_call 17; refine (api_same (l := []) (l2 := []) (Rd.on (w := ((w3).alloc (.cells #[.int .i64 code, .int .i64 idx] 26)).drew) RX_3 Y4) (Rd.none_ _) Is01.nil Is01.nil true (by decide) _ _ rfl rfl).mono ?_; rintro e w5 ⟨rfl, y5⟩; have Y5 := Y4.trans (y5.mono Y4.size); have F_5_c0 := ((Two.on (w := ((w3).alloc (.cells #[.int .i64 code, .int .i64 idx] 26)).drew) F_3 Y5)).c0; have F_5_c1 := ((Two.on (w := ((w3).alloc (.cells #[.int .i64 code, .int .i64 idx] 26)).drew) F_3 Y5)).c1; have W_5_c0 := ((Two.on (w := ((w3).alloc (.cells #[.int .i64 code, .int .i64 idx] 26)).drew) W_3 Y5)).c0; have W_5_c1 := ((Two.on (w := ((w3).alloc (.cells #[.int .i64 code, .int .i64 idx] 26)).drew) W_3 Y5)).c1; have X_5_c0 := ((Two.on (w := ((w3).alloc (.cells #[.int .i64 code, .int .i64 idx] 26)).drew) X_3 Y5)).c0; have X_5_c1 := ((Two.on (w := ((w3).alloc (.cells #[.int .i64 code, .int .i64 idx] 26)).drew) X_3 Y5)).c1)) | fail
    all_goals
      have R_5 := (Rd.on (w := ((w3).alloc (.cells #[.int .i64 code, .int .i64 idx] 26)).drew) R_3 Y5)
      have Q_5 := (RdB.on (w := ((w3).alloc (.cells #[.int .i64 code, .int .i64 idx] 26)).drew) Q_3 Y5)
      have B_5 := (Two.on (w := ((w3).alloc (.cells #[.int .i64 code, .int .i64 idx] 26)).drew) B_3 Y5)
      have RX_5 := (Rd.on (w := ((w3).alloc (.cells #[.int .i64 code, .int .i64 idx] 26)).drew) RX_3 Y5)
      have X_5 := (Two.on (w := ((w3).alloc (.cells #[.int .i64 code, .int .i64 idx] 26)).drew) X_3 Y5)
      have F_5 := (Two.on (w := ((w3).alloc (.cells #[.int .i64 code, .int .i64 idx] 26)).drew) F_3 Y5)
      have RY_5 := (Rd.on (w := ((w3).alloc (.cells #[.int .i64 code, .int .i64 idx] 26)).drew) RY_3 Y5)
      have Y_5 := (Two.on (w := ((w3).alloc (.cells #[.int .i64 code, .int .i64 idx] 26)).drew) Y_3 Y5)
      have G_5 := (Two.on (w := ((w3).alloc (.cells #[.int .i64 code, .int .i64 idx] 26)).drew) G_3 Y5)
      have W_5 := (Two.on (w := ((w3).alloc (.cells #[.int .i64 code, .int .i64 idx] 26)).drew) W_3 Y5)
      have Z5 := (belowD Z3).trans (Y5.mono (belowD Z3).size)
      have CW_5 := (belowD CW_3).trans (Y5.mono (belowD CW_3).size)
      clear F_4_c0 F_4_c1 W_4_c0 W_4_c1 X_4_c0 X_4_c1 F_5_c0 F_5_c1 W_5_c0 W_5_c1 X_5_c0 X_5_c1
      (try simp only [Act.put, List.setIfInBounds_toArray, List.set_cons_zero, List.set_cons_succ])
      clear Y4 Y5 y4 y5
      revert R_5 Q_5 B_5 RX_5 X_5 F_5 RY_5 Y_5 G_5 W_5 Z5 CW_5
      revert w5
      exact key
  intro w5 R_5 Q_5 B_5 RX_5 X_5 F_5 RY_5 Y_5 G_5 W_5 Z5 CW_5
  clear R_3 Q_3 B_3 B_3_c0 B_3_c1 RX_3 X_3 X_3_c0 X_3_c1 F_3 F_3_c0 F_3_c1 RY_3 Y_3 Y_3_c0 Y_3_c1 G_3 G_3_c0 G_3_c1 W_3 W_3_c0 W_3_c1 W_3_f0 W_3_f1
  have B_5_c0 := B_5.c0
  have B_5_c1 := B_5.c1
  have X_5_c0 := X_5.c0
  have X_5_c1 := X_5.c1
  have F_5_c0 := F_5.c0
  have F_5_c1 := F_5.c1
  have Y_5_c0 := Y_5.c0
  have Y_5_c1 := Y_5.c1
  have G_5_c0 := G_5.c0
  have G_5_c1 := G_5.c1
  have W_5_c0 := W_5.c0
  have W_5_c1 := W_5.c1
  have W_5_f0 := W_5.f0
  have W_5_f1 := W_5.f1
  have CW_6 := (CW_5.setCell (p := ⟨w3.heap.size, 0, none⟩) (by simp) (.int .i64 0)).setCell (p := ⟨w3.heap.size, 1, none⟩) (by simp) (.int .i64 0)
  have Z6 := (Z5.setCell (p := ⟨w3.heap.size, 0, none⟩) (by have := z3.size; simp; omega) (.int .i64 0)).setCell (p := ⟨w3.heap.size, 1, none⟩) (by have := z3.size; simp; omega) (.int .i64 0)
  have R_6 := R_b.on CW_6
  have Q_6 := Q_b.on CW_6
  have B_6 := B_b.on CW_6
  have RX_6 := RX_b.on CW_6
  have X_6 := X_b.on CW_6
  have F_6 := F_b.on CW_6
  have RY_6 := RY_b.on CW_6
  have Y_6 := Y_b.on CW_6
  have G_6 := G_b.on CW_6
  have W_6 := (W_5.set0 (.int .i64 0)).set1 (.int .i64 0)
  have B_6_c0 := B_6.c0
  have B_6_c1 := B_6.c1
  have X_6_c0 := X_6.c0
  have X_6_c1 := X_6.c1
  have F_6_c0 := F_6.c0
  have F_6_c1 := F_6.c1
  have Y_6_c0 := Y_6.c0
  have Y_6_c1 := Y_6.c1
  have G_6_c0 := G_6.c0
  have G_6_c1 := G_6.c1
  have W_6_c0 := W_6.c0
  have W_6_c1 := W_6.c1
  have W_6_f0 := W_6.f0
  have W_6_f1 := W_6.f1
  go_wp2_with fail
  refine (bitsok_any R_6 (pack_lt H01.out) (by omega) (by have := HLL.out; omega) true ⟨fun _ => HOK.out, fun _ => rfl⟩).mono ?_
  rintro e w7 ⟨rfl, y7⟩
  have R_7 := R_6.on y7
  have Q_7 := Q_6.on y7
  have B_7 := B_6.on y7
  have RX_7 := RX_6.on y7
  have X_7 := X_6.on y7
  have F_7 := F_6.on y7
  have RY_7 := RY_6.on y7
  have Y_7 := Y_6.on y7
  have G_7 := G_6.on y7
  have W_7 := W_6.on y7
  clear R_5 Q_5 B_5 B_5_c0 B_5_c1 RX_5 X_5 X_5_c0 X_5_c1 F_5 F_5_c0 F_5_c1 RY_5 Y_5 Y_5_c0 Y_5_c1 G_5 G_5_c0 G_5_c1 W_5 W_5_c0 W_5_c1 W_5_f0 W_5_f1 R_6 Q_6 B_6 B_6_c0 B_6_c1 RX_6 X_6 X_6_c0 X_6_c1 F_6 F_6_c0 F_6_c1 RY_6 Y_6 Y_6_c0 Y_6_c1 G_6 G_6_c0 G_6_c1 W_6 W_6_c0 W_6_c1 W_6_f0 W_6_f1
  have z7 := Z6.trans (y7.mono Z6.size)
  have Z7 := z7
  have cW7 := CW_6.trans (y7.mono CW_6.size)
  have CW_7 := cW7
  have B_7_c0 := B_7.c0
  have B_7_c1 := B_7.c1
  have X_7_c0 := X_7.c0
  have X_7_c1 := X_7.c1
  have F_7_c0 := F_7.c0
  have F_7_c1 := F_7.c1
  have Y_7_c0 := Y_7.c0
  have Y_7_c1 := Y_7.c1
  have G_7_c0 := G_7.c0
  have G_7_c1 := G_7.c1
  have W_7_c0 := W_7.c0
  have W_7_c1 := W_7.c1
  have W_7_f0 := W_7.f0
  have W_7_f1 := W_7.f1
  go_wp2_with fail
  refine (in_yes f 0 (l.length : Nat) _ (by omega) (by omega)).mono ?_
  rintro e w9_1 ⟨rfl, rfl⟩
  go_wp2_with fail
  refine (in_no t f (l.length : Nat) _ HF.out).mono ?_
  rintro e w9_2 ⟨rfl, rfl⟩
  go_wp2_with fail
  refine (refat_any _ _ _).mono ?_
  rintro e w8 ⟨rfl, y8⟩
  have R_8 := R_7.on y8
  have Q_8 := Q_7.on y8
  have B_8 := B_7.on y8
  have RX_8 := RX_7.on y8
  have X_8 := X_7.on y8
  have F_8 := F_7.on y8
  have RY_8 := RY_7.on y8
  have Y_8 := Y_7.on y8
  have G_8 := G_7.on y8
  have W_8 := W_7.on y8
  clear R_7 Q_7 B_7 B_7_c0 B_7_c1 RX_7 X_7 X_7_c0 X_7_c1 F_7 F_7_c0 F_7_c1 RY_7 Y_7 Y_7_c0 Y_7_c1 G_7 G_7_c0 G_7_c1 W_7 W_7_c0 W_7_c1 W_7_f0 W_7_f1
  have z8 := Z7.trans (y8.mono Z7.size)
  have Z8 := z8
  have cW8 := CW_7.trans (y8.mono CW_7.size)
  have CW_8 := cW8
  have B_8_c0 := B_8.c0
  have B_8_c1 := B_8.c1
  have X_8_c0 := X_8.c0
  have X_8_c1 := X_8.c1
  have F_8_c0 := F_8.c0
  have F_8_c1 := F_8.c1
  have Y_8_c0 := Y_8.c0
  have Y_8_c1 := Y_8.c1
  have G_8_c0 := G_8.c0
  have G_8_c1 := G_8.c1
  have W_8_c0 := W_8.c0
  have W_8_c1 := W_8.c1
  have W_8_f0 := W_8.f0
  have W_8_f1 := W_8.f1
  have CW_9 := (CW_8.setCell (p := ⟨w3.heap.size, 0, none⟩) (by simp) (.int .i64 4)).setCell (p := ⟨w3.heap.size, 1, none⟩) (by simp) (.int .i64 (-3))
  have Z9 := (Z8.setCell (p := ⟨w3.heap.size, 0, none⟩) (by have := z3.size; simp; omega) (.int .i64 4)).setCell (p := ⟨w3.heap.size, 1, none⟩) (by have := z3.size; simp; omega) (.int .i64 (-3))
  have R_9 := R_b.on CW_9
  have Q_9 := Q_b.on CW_9
  have B_9 := B_b.on CW_9
  have RX_9 := RX_b.on CW_9
  have X_9 := X_b.on CW_9
  have F_9 := F_b.on CW_9
  have RY_9 := RY_b.on CW_9
  have Y_9 := Y_b.on CW_9
  have G_9 := G_b.on CW_9
  have W_9 := (W_8.set0 (.int .i64 4)).set1 (.int .i64 (-3))
  have B_9_c0 := B_9.c0
  have B_9_c1 := B_9.c1
  have X_9_c0 := X_9.c0
  have X_9_c1 := X_9.c1
  have F_9_c0 := F_9.c0
  have F_9_c1 := F_9.c1
  have Y_9_c0 := Y_9.c0
  have Y_9_c1 := Y_9.c1
  have G_9_c0 := G_9.c0
  have G_9_c1 := G_9.c1
  have W_9_c0 := W_9.c0
  have W_9_c1 := W_9.c1
  have W_9_f0 := W_9.f0
  have W_9_f1 := W_9.f1
  go_wp2_with fail
  refine (api_same (l := []) (l2 := []) RY_9 (Rd.none_ _) Is01.nil Is01.nil true (by decide) _ _ rfl rfl).mono ?_
  rintro e w10 ⟨rfl, y10⟩
  have R_10 := R_9.on y10
  have Q_10 := Q_9.on y10
  have B_10 := B_9.on y10
  have RX_10 := RX_9.on y10
  have X_10 := X_9.on y10
  have F_10 := F_9.on y10
  have RY_10 := RY_9.on y10
  have Y_10 := Y_9.on y10
  have G_10 := G_9.on y10
  have W_10 := W_9.on y10
  clear R_8 Q_8 B_8 B_8_c0 B_8_c1 RX_8 X_8 X_8_c0 X_8_c1 F_8 F_8_c0 F_8_c1 RY_8 Y_8 Y_8_c0 Y_8_c1 G_8 G_8_c0 G_8_c1 W_8 W_8_c0 W_8_c1 W_8_f0 W_8_f1 R_9 Q_9 B_9 B_9_c0 B_9_c1 RX_9 X_9 X_9_c0 X_9_c1 F_9 F_9_c0 F_9_c1 RY_9 Y_9 Y_9_c0 Y_9_c1 G_9 G_9_c0 G_9_c1 W_9 W_9_c0 W_9_c1 W_9_f0 W_9_f1
  have z10 := Z9.trans (y10.mono Z9.size)
  have Z10 := z10
  have cW10 := CW_9.trans (y10.mono CW_9.size)
  have CW_10 := cW10
  have B_10_c0 := B_10.c0
  have B_10_c1 := B_10.c1
  have X_10_c0 := X_10.c0
  have X_10_c1 := X_10.c1
  have F_10_c0 := F_10.c0
  have F_10_c1 := F_10.c1
  have Y_10_c0 := Y_10.c0
  have Y_10_c1 := Y_10.c1
  have G_10_c0 := G_10.c0
  have G_10_c1 := G_10.c1
  have W_10_c0 := W_10.c0
  have W_10_c1 := W_10.c1
  have W_10_f0 := W_10.f0
  have W_10_f1 := W_10.f1
  go_wp2
  go_ret
  exact ⟨rfl, Z10⟩
set_option maxRecDepth 100000 in
set_option maxHeartbeats 3200000 in
theorem jm_eo {Aq : Option Addr} {nq_ cq : Nat} {xs : List BItem} (hw : ∀ x ∈ xs, x.wf) {code idx : Int} (hJ : JOut xs code idx) (hc : code ≠ 0) {A : Option Addr} {n c : Nat} {l : List Nat} (h01 : Is01 l) (hl : l.length ≤ 131072) {f t : Nat} (hf : f ≤ t) (ht : t ≤ l.length)  (w : World) (hq : RdB w Aq nq_ cq xs) (h : Rd w A n c (bcells (pack l))) :
    Calls Try.prog 9 #[.slice Aq nq_ cq, .agg #[.slice A n c, .int .i64 (l.length : Nat)], .int .i64 (f : Nat), .int .i64 (t : Nat)] w fun e w' => e = .returned (.bool true) ∧ Below w.heap.size w w' := by
  obtain ⟨i0, hi, hz0, hz1, hz2⟩ := info_parts int_info
  have HW := Lib.hid hw
  have k1 : (code != 0) = true := by rw [bne_iff_ne]; exact hc
  have k2 : (code == 0) = false := by rw [beq_eq_false_iff_ne]; exact hc
  have er : JRes xs code idx = [] := by unfold JRes; rw [if_neg hc]
  have HJN := Lib.hid (fun W (hW : RdB W Aq nq_ cq xs) => join_any hW HW.out hJ)
  rw [er] at HJN
  have HJF := Lib.hid (fun W (hW : RdB W Aq nq_ cq xs) => joinfault_any hW HW.out hJ)
  clear hJ hc er hw
  have H01 := Lib.hid h01
  have HLL := Lib.hid hl
  have HOK := Lib.hid (Ok.of_list h01 hl)
  clear h01
  obtain ⟨Y, hY⟩ : ∃ Y, Y = (l.drop f).take (t - f) := ⟨_, rfl⟩
  have HS := Lib.hid (fun W (hW : Rd W A n c (bcells (pack l))) => api_slice hW H01.out HLL.out hf ht hY _ _ rfl rfl)
  have HY01 := Lib.hid (show Is01 Y by rw [hY]; exact (H01.out.drop _).take _)
  have hYl : t - f = Y.length := by rw [hY, List.length_take, List.length_drop]; omega
  have HYL := Lib.hid hYl
  have HYN := Lib.hid hY
  clear hY hYl
  have R_0 := (h).alloc (.cells #[.slice A n c, .int .i64 (l.length : Nat)] 24)
  have Q_0 := (hq).alloc (.cells #[.slice A n c, .int .i64 (l.length : Nat)] 24)
  have B_0 := (Two.new w 24 (.slice A n c) (.int .i64 (l.length : Nat)))
  have Z0 := (Below.refl w.heap.size w).alloc (by simp) (.cells #[.slice A n c, .int .i64 (l.length : Nat)] 24)
  have B_0_c0 := B_0.c0
  have B_0_c1 := B_0.c1
  go_enter Try.func9, Try.ntmps9
  go_wp2_with fail
  refine (HJN.out _ Q_0).mono ?_
  rintro e w1 ⟨Ax, nx, cx, rfl, ox, y1⟩
  have R_1 := ((R_0.on y1).alloc (.cells #[.slice Ax nx cx, .int .i64 0] 24)).alloc (.cells #[.int .i64 code, .int .i64 idx] 26)
  have Q_1 := ((Q_0.on y1).alloc (.cells #[.slice Ax nx cx, .int .i64 0] 24)).alloc (.cells #[.int .i64 code, .int .i64 idx] 26)
  have B_1 := ((B_0.on y1).alloc (.cells #[.slice Ax nx cx, .int .i64 0] 24)).alloc (.cells #[.int .i64 code, .int .i64 idx] 26)
  have RX_1 := ((Rd.own ox).alloc (.cells #[.slice Ax nx cx, .int .i64 0] 24)).alloc (.cells #[.int .i64 code, .int .i64 idx] 26)
  have X_1 := ((Two.new w1 24 (.slice Ax nx cx) (.int .i64 0))).alloc (.cells #[.int .i64 code, .int .i64 idx] 26)
  have F_1 := (Two.new1 w1 (.cells #[.slice Ax nx cx, .int .i64 0] 24) 26 (.int .i64 code) (.int .i64 idx))
  clear R_0 Q_0 B_0 B_0_c0 B_0_c1
  have z1 := Z0.trans (y1.mono Z0.size)
  have Z1 := ((z1).alloc (by have := z1.size; omega) (.cells #[.slice Ax nx cx, .int .i64 0] 24)).alloc (by have := z1.size; simp; omega) (.cells #[.int .i64 code, .int .i64 idx] 26)
  have B_1_c0 := B_1.c0
  have B_1_c1 := B_1.c1
  have X_1_c0 := X_1.c0
  have X_1_c1 := X_1.c1
  have F_1_c0 := F_1.c0
  have F_1_c1 := F_1.c1
  go_wp2_with fail
  refine (HS.out _ R_1).mono ?_
  rintro e w2 ⟨Ay, ny, cy, rfl, Ry, y2⟩
  have R_2 := ((R_1.on y2).alloc (.cells #[.slice Ay ny cy, .int .i64 (Y.length : Nat)] 24)).alloc (.cells #[.int .i64 0, .int .i64 0] 26)
  have Q_2 := ((Q_1.on y2).alloc (.cells #[.slice Ay ny cy, .int .i64 (Y.length : Nat)] 24)).alloc (.cells #[.int .i64 0, .int .i64 0] 26)
  have B_2 := ((B_1.on y2).alloc (.cells #[.slice Ay ny cy, .int .i64 (Y.length : Nat)] 24)).alloc (.cells #[.int .i64 0, .int .i64 0] 26)
  have RX_2 := ((RX_1.on y2).alloc (.cells #[.slice Ay ny cy, .int .i64 (Y.length : Nat)] 24)).alloc (.cells #[.int .i64 0, .int .i64 0] 26)
  have X_2 := ((X_1.on y2).alloc (.cells #[.slice Ay ny cy, .int .i64 (Y.length : Nat)] 24)).alloc (.cells #[.int .i64 0, .int .i64 0] 26)
  have F_2 := ((F_1.on y2).alloc (.cells #[.slice Ay ny cy, .int .i64 (Y.length : Nat)] 24)).alloc (.cells #[.int .i64 0, .int .i64 0] 26)
  have RY_2 := ((Ry).alloc (.cells #[.slice Ay ny cy, .int .i64 (Y.length : Nat)] 24)).alloc (.cells #[.int .i64 0, .int .i64 0] 26)
  have Y_2 := ((Two.new w2 24 (.slice Ay ny cy) (.int .i64 (Y.length : Nat)))).alloc (.cells #[.int .i64 0, .int .i64 0] 26)
  have G_2 := (Two.new1 w2 (.cells #[.slice Ay ny cy, .int .i64 (Y.length : Nat)] 24) 26 (.int .i64 0) (.int .i64 0))
  clear R_1 Q_1 B_1 B_1_c0 B_1_c1 RX_1 X_1 X_1_c0 X_1_c1 F_1 F_1_c0 F_1_c1
  have z2 := Z1.trans (y2.mono Z1.size)
  have Z2 := ((z2).alloc (by have := z2.size; omega) (.cells #[.slice Ay ny cy, .int .i64 (Y.length : Nat)] 24)).alloc (by have := z2.size; simp; omega) (.cells #[.int .i64 0, .int .i64 0] 26)
  have B_2_c0 := B_2.c0
  have B_2_c1 := B_2.c1
  have X_2_c0 := X_2.c0
  have X_2_c1 := X_2.c1
  have F_2_c0 := F_2.c0
  have F_2_c1 := F_2.c1
  have Y_2_c0 := Y_2.c0
  have Y_2_c1 := Y_2.c1
  have G_2_c0 := G_2.c0
  have G_2_c1 := G_2.c1
  go_wp2_with fail
  refine (HJF.out _ Q_2).mono ?_
  rintro e w3 ⟨rfl, y3⟩
  have R_3 := (R_2.on y3).alloc (.cells #[.int .i64 code, .int .i64 idx] 26)
  have Q_3 := (Q_2.on y3).alloc (.cells #[.int .i64 code, .int .i64 idx] 26)
  have B_3 := (B_2.on y3).alloc (.cells #[.int .i64 code, .int .i64 idx] 26)
  have RX_3 := (RX_2.on y3).alloc (.cells #[.int .i64 code, .int .i64 idx] 26)
  have X_3 := (X_2.on y3).alloc (.cells #[.int .i64 code, .int .i64 idx] 26)
  have F_3 := (F_2.on y3).alloc (.cells #[.int .i64 code, .int .i64 idx] 26)
  have RY_3 := (RY_2.on y3).alloc (.cells #[.int .i64 code, .int .i64 idx] 26)
  have Y_3 := (Y_2.on y3).alloc (.cells #[.int .i64 code, .int .i64 idx] 26)
  have G_3 := (G_2.on y3).alloc (.cells #[.int .i64 code, .int .i64 idx] 26)
  have R_b := R_2.on y3
  have Q_b := Q_2.on y3
  have B_b := B_2.on y3
  have RX_b := RX_2.on y3
  have X_b := X_2.on y3
  have F_b := F_2.on y3
  have RY_b := RY_2.on y3
  have Y_b := Y_2.on y3
  have G_b := G_2.on y3
  have W_3 := (Two.new w3 26 (.int .i64 code) (.int .i64 idx))
  clear R_2 Q_2 B_2 B_2_c0 B_2_c1 RX_2 X_2 X_2_c0 X_2_c1 F_2 F_2_c0 F_2_c1 RY_2 Y_2 Y_2_c0 Y_2_c1 G_2 G_2_c0 G_2_c1
  have z3 := Z2.trans (y3.mono Z2.size)
  have Z3 := (z3).alloc (by have := z3.size; omega) (.cells #[.int .i64 code, .int .i64 idx] 26)
  have CW_3 := (Below.refl w3.heap.size w3).alloc (by simp) (.cells #[.int .i64 code, .int .i64 idx] 26)
  have B_3_c0 := B_3.c0
  have B_3_c1 := B_3.c1
  have X_3_c0 := X_3.c0
  have X_3_c1 := X_3.c1
  have F_3_c0 := F_3.c0
  have F_3_c1 := F_3.c1
  have Y_3_c0 := Y_3.c0
  have Y_3_c1 := Y_3.c1
  have G_3_c0 := G_3.c0
  have G_3_c1 := G_3.c1
  have W_3_c0 := W_3.c0
  have W_3_c1 := W_3.c1
  have W_3_f0 := W_3.f0
  have W_3_f1 := W_3.f1
  go_wp2_with fail
  apply share
  · intro key
    first | go_region_with (first | (go_at_call 14; refine (strings_true _).mono ?_; rintro e w4 ⟨rfl, y4⟩; have Y4 : Below ((w3).alloc (.cells #[.int .i64 code, .int .i64 idx] 26)).heap.size ((w3).alloc (.cells #[.int .i64 code, .int .i64 idx] 26)).drew w4 := y4; have F_4_c0 := ((Two.on (w := ((w3).alloc (.cells #[.int .i64 code, .int .i64 idx] 26)).drew) F_3 Y4)).c0; have F_4_c1 := ((Two.on (w := ((w3).alloc (.cells #[.int .i64 code, .int .i64 idx] 26)).drew) F_3 Y4)).c1; have W_4_c0 := ((Two.on (w := ((w3).alloc (.cells #[.int .i64 code, .int .i64 idx] 26)).drew) W_3 Y4)).c0; have W_4_c1 := ((Two.on (w := ((w3).alloc (.cells #[.int .i64 code, .int .i64 idx] 26)).drew) W_3 Y4)).c1; have X_4_c0 := ((Two.on (w := ((w3).alloc (.cells #[.int .i64 code, .int .i64 idx] 26)).drew) X_3 Y4)).c0; have X_4_c1 := ((Two.on (w := ((w3).alloc (.cells #[.int .i64 code, .int .i64 idx] 26)).drew) X_3 Y4)).c1) | (go_at_call 17; refine (api_same (l := []) (l2 := []) (Rd.on (w := ((w3).alloc (.cells #[.int .i64 code, .int .i64 idx] 26)).drew) RX_3 Y4) (Rd.none_ _) Is01.nil Is01.nil true (by decide) _ _ rfl rfl).mono ?_; rintro e w5 ⟨rfl, y5⟩; have Y5 := Y4.trans (y5.mono Y4.size); have F_5_c0 := ((Two.on (w := ((w3).alloc (.cells #[.int .i64 code, .int .i64 idx] 26)).drew) F_3 Y5)).c0; have F_5_c1 := ((Two.on (w := ((w3).alloc (.cells #[.int .i64 code, .int .i64 idx] 26)).drew) F_3 Y5)).c1; have W_5_c0 := ((Two.on (w := ((w3).alloc (.cells #[.int .i64 code, .int .i64 idx] 26)).drew) W_3 Y5)).c0; have W_5_c1 := ((Two.on (w := ((w3).alloc (.cells #[.int .i64 code, .int .i64 idx] 26)).drew) W_3 Y5)).c1; have X_5_c0 := ((Two.on (w := ((w3).alloc (.cells #[.int .i64 code, .int .i64 idx] 26)).drew) X_3 Y5)).c0; have X_5_c1 := ((Two.on (w := ((w3).alloc (.cells #[.int .i64 code, .int .i64 idx] 26)).drew) X_3 Y5)).c1)) | fail
    all_goals
      have R_5 := (Rd.on (w := ((w3).alloc (.cells #[.int .i64 code, .int .i64 idx] 26)).drew) R_3 Y5)
      have Q_5 := (RdB.on (w := ((w3).alloc (.cells #[.int .i64 code, .int .i64 idx] 26)).drew) Q_3 Y5)
      have B_5 := (Two.on (w := ((w3).alloc (.cells #[.int .i64 code, .int .i64 idx] 26)).drew) B_3 Y5)
      have RX_5 := (Rd.on (w := ((w3).alloc (.cells #[.int .i64 code, .int .i64 idx] 26)).drew) RX_3 Y5)
      have X_5 := (Two.on (w := ((w3).alloc (.cells #[.int .i64 code, .int .i64 idx] 26)).drew) X_3 Y5)
      have F_5 := (Two.on (w := ((w3).alloc (.cells #[.int .i64 code, .int .i64 idx] 26)).drew) F_3 Y5)
      have RY_5 := (Rd.on (w := ((w3).alloc (.cells #[.int .i64 code, .int .i64 idx] 26)).drew) RY_3 Y5)
      have Y_5 := (Two.on (w := ((w3).alloc (.cells #[.int .i64 code, .int .i64 idx] 26)).drew) Y_3 Y5)
      have G_5 := (Two.on (w := ((w3).alloc (.cells #[.int .i64 code, .int .i64 idx] 26)).drew) G_3 Y5)
      have W_5 := (Two.on (w := ((w3).alloc (.cells #[.int .i64 code, .int .i64 idx] 26)).drew) W_3 Y5)
      have Z5 := (belowD Z3).trans (Y5.mono (belowD Z3).size)
      have CW_5 := (belowD CW_3).trans (Y5.mono (belowD CW_3).size)
      clear F_4_c0 F_4_c1 W_4_c0 W_4_c1 X_4_c0 X_4_c1 F_5_c0 F_5_c1 W_5_c0 W_5_c1 X_5_c0 X_5_c1
      (try simp only [Act.put, List.setIfInBounds_toArray, List.set_cons_zero, List.set_cons_succ])
      clear Y4 Y5 y4 y5
      revert R_5 Q_5 B_5 RX_5 X_5 F_5 RY_5 Y_5 G_5 W_5 Z5 CW_5
      revert w5
      exact key
  intro w5 R_5 Q_5 B_5 RX_5 X_5 F_5 RY_5 Y_5 G_5 W_5 Z5 CW_5
  clear R_3 Q_3 B_3 B_3_c0 B_3_c1 RX_3 X_3 X_3_c0 X_3_c1 F_3 F_3_c0 F_3_c1 RY_3 Y_3 Y_3_c0 Y_3_c1 G_3 G_3_c0 G_3_c1 W_3 W_3_c0 W_3_c1 W_3_f0 W_3_f1
  have B_5_c0 := B_5.c0
  have B_5_c1 := B_5.c1
  have X_5_c0 := X_5.c0
  have X_5_c1 := X_5.c1
  have F_5_c0 := F_5.c0
  have F_5_c1 := F_5.c1
  have Y_5_c0 := Y_5.c0
  have Y_5_c1 := Y_5.c1
  have G_5_c0 := G_5.c0
  have G_5_c1 := G_5.c1
  have W_5_c0 := W_5.c0
  have W_5_c1 := W_5.c1
  have W_5_f0 := W_5.f0
  have W_5_f1 := W_5.f1
  have CW_6 := (CW_5.setCell (p := ⟨w3.heap.size, 0, none⟩) (by simp) (.int .i64 0)).setCell (p := ⟨w3.heap.size, 1, none⟩) (by simp) (.int .i64 0)
  have Z6 := (Z5.setCell (p := ⟨w3.heap.size, 0, none⟩) (by have := z3.size; simp; omega) (.int .i64 0)).setCell (p := ⟨w3.heap.size, 1, none⟩) (by have := z3.size; simp; omega) (.int .i64 0)
  have R_6 := R_b.on CW_6
  have Q_6 := Q_b.on CW_6
  have B_6 := B_b.on CW_6
  have RX_6 := RX_b.on CW_6
  have X_6 := X_b.on CW_6
  have F_6 := F_b.on CW_6
  have RY_6 := RY_b.on CW_6
  have Y_6 := Y_b.on CW_6
  have G_6 := G_b.on CW_6
  have W_6 := (W_5.set0 (.int .i64 0)).set1 (.int .i64 0)
  have B_6_c0 := B_6.c0
  have B_6_c1 := B_6.c1
  have X_6_c0 := X_6.c0
  have X_6_c1 := X_6.c1
  have F_6_c0 := F_6.c0
  have F_6_c1 := F_6.c1
  have Y_6_c0 := Y_6.c0
  have Y_6_c1 := Y_6.c1
  have G_6_c0 := G_6.c0
  have G_6_c1 := G_6.c1
  have W_6_c0 := W_6.c0
  have W_6_c1 := W_6.c1
  have W_6_f0 := W_6.f0
  have W_6_f1 := W_6.f1
  go_wp2_with fail
  refine (bitsok_any R_6 (pack_lt H01.out) (by omega) (by have := HLL.out; omega) true ⟨fun _ => HOK.out, fun _ => rfl⟩).mono ?_
  rintro e w7 ⟨rfl, y7⟩
  have R_7 := R_6.on y7
  have Q_7 := Q_6.on y7
  have B_7 := B_6.on y7
  have RX_7 := RX_6.on y7
  have X_7 := X_6.on y7
  have F_7 := F_6.on y7
  have RY_7 := RY_6.on y7
  have Y_7 := Y_6.on y7
  have G_7 := G_6.on y7
  have W_7 := W_6.on y7
  clear R_5 Q_5 B_5 B_5_c0 B_5_c1 RX_5 X_5 X_5_c0 X_5_c1 F_5 F_5_c0 F_5_c1 RY_5 Y_5 Y_5_c0 Y_5_c1 G_5 G_5_c0 G_5_c1 W_5 W_5_c0 W_5_c1 W_5_f0 W_5_f1 R_6 Q_6 B_6 B_6_c0 B_6_c1 RX_6 X_6 X_6_c0 X_6_c1 F_6 F_6_c0 F_6_c1 RY_6 Y_6 Y_6_c0 Y_6_c1 G_6 G_6_c0 G_6_c1 W_6 W_6_c0 W_6_c1 W_6_f0 W_6_f1
  have z7 := Z6.trans (y7.mono Z6.size)
  have Z7 := z7
  have cW7 := CW_6.trans (y7.mono CW_6.size)
  have CW_7 := cW7
  have B_7_c0 := B_7.c0
  have B_7_c1 := B_7.c1
  have X_7_c0 := X_7.c0
  have X_7_c1 := X_7.c1
  have F_7_c0 := F_7.c0
  have F_7_c1 := F_7.c1
  have Y_7_c0 := Y_7.c0
  have Y_7_c1 := Y_7.c1
  have G_7_c0 := G_7.c0
  have G_7_c1 := G_7.c1
  have W_7_c0 := W_7.c0
  have W_7_c1 := W_7.c1
  have W_7_f0 := W_7.f0
  have W_7_f1 := W_7.f1
  go_wp2_with fail
  refine (in_yes (f : Nat) 0 (l.length : Nat) _ (by omega) (by omega)).mono ?_
  rintro e w9_1 ⟨rfl, rfl⟩
  go_wp2_with fail
  refine (in_yes (t : Nat) (f : Nat) (l.length : Nat) _ (by omega) (by omega)).mono ?_
  rintro e w9_2 ⟨rfl, rfl⟩
  go_wp2_with fail
  obtain ⟨wz, hwz⟩ : ∃ wz, wz = w7 := ⟨_, rfl⟩
  rw [← hwz] at R_7 Q_7 B_7 RX_7 X_7 F_7 RY_7 Y_7 G_7 W_7 Z7 CW_7
  rw [← hwz]
  clear hwz
  have B_7_c0 := B_7.c0
  have B_7_c1 := B_7.c1
  have X_7_c0 := X_7.c0
  have X_7_c1 := X_7.c1
  have F_7_c0 := F_7.c0
  have F_7_c1 := F_7.c1
  have Y_7_c0 := Y_7.c0
  have Y_7_c1 := Y_7.c1
  have G_7_c0 := G_7.c0
  have G_7_c1 := G_7.c1
  have W_7_c0 := W_7.c0
  have W_7_c1 := W_7.c1
  have W_7_f0 := W_7.f0
  have W_7_f1 := W_7.f1
  go_region_held3 (fun w' => w'.cell? ⟨w2.heap.size + 1, 0, none⟩ = some (.int .i64 0) ∧ w'.cell? ⟨w2.heap.size + 1, 1, none⟩ = some (.int .i64 0) ∧ w'.cell? ⟨w2.heap.size, 0, none⟩ = some (.slice Ay ny cy) ∧ w'.cell? ⟨w2.heap.size, 1, none⟩ = some (.int .i64 (Y.length : Nat)) ∧ w'.cell? ⟨w.heap.size, 0, none⟩ = some (.slice A n c) ∧ w'.cell? ⟨w.heap.size, 1, none⟩ = some (.int .i64 (l.length : Nat))) (go_keep) (first | (go_at_call 23; refine (bits_any (Rd.drew R_7) H01.out HLL.out _ rfl).mono ?_; rintro e w8 ⟨Ab, cb, rfl, hob, y8⟩; have Y8 : Below wz.heap.size wz.drew w8 := y8; obtain ⟨As, hsl, RS⟩ := Rd.cut (P := Try.prog) 35 3 i0 Try.underlying35 hi hz1 (Rd.own hob) f t hf ht; have G_8_c0 := ((Two.on (w := wz.drew) G_7 Y8)).c0; have G_8_c1 := ((Two.on (w := wz.drew) G_7 Y8)).c1; have Y_8_c0 := ((Two.on (w := wz.drew) Y_7 Y8)).c0; have Y_8_c1 := ((Two.on (w := wz.drew) Y_7 Y8)).c1; have B_8_c0 := ((Two.on (w := wz.drew) B_7 Y8)).c0; have B_8_c1 := ((Two.on (w := wz.drew) B_7 Y8)).c1) | (go_at_call 18; refine (packed_any _ HYL.out (l := Y) (by rw [HYN.out]; exact RS) HY01.out (by have := HLL.out; have := HYL.out; omega)).mono ?_; rintro e w9 ⟨Ap, np, cp, rfl, RP, y9⟩; have Y9 := Y8.trans (y9.mono Y8.size); have G_9_c0 := ((Two.on (w := wz.drew) G_7 Y9)).c0; have G_9_c1 := ((Two.on (w := wz.drew) G_7 Y9)).c1; have Y_9_c0 := ((Two.on (w := wz.drew) Y_7 Y9)).c0; have Y_9_c1 := ((Two.on (w := wz.drew) Y_7 Y9)).c1; have B_9_c0 := ((Two.on (w := wz.drew) B_7 Y9)).c0; have B_9_c1 := ((Two.on (w := wz.drew) B_7 Y9)).c1) | (go_at_call 17; refine (api_same (Rd.on (w := wz.drew) RY_7 Y9) RP HY01.out HY01.out true (by simp) _ _ rfl (by have := HYL.out; omega)).mono ?_; rintro e w10 ⟨rfl, y10⟩; have Y10 := Y9.trans (y10.mono Y9.size); have G_10_c0 := ((Two.on (w := wz.drew) G_7 Y10)).c0; have G_10_c1 := ((Two.on (w := wz.drew) G_7 Y10)).c1; have Y_10_c0 := ((Two.on (w := wz.drew) Y_7 Y10)).c0; have Y_10_c1 := ((Two.on (w := wz.drew) Y_7 Y10)).c1; have B_10_c0 := ((Two.on (w := wz.drew) B_7 Y10)).c0; have B_10_c1 := ((Two.on (w := wz.drew) B_7 Y10)).c1))
  have R_10 := (Rd.on (w := wz.drew) R_7 Y10)
  have Q_10 := (RdB.on (w := wz.drew) Q_7 Y10)
  have B_10 := (Two.on (w := wz.drew) B_7 Y10)
  have RX_10 := (Rd.on (w := wz.drew) RX_7 Y10)
  have X_10 := (Two.on (w := wz.drew) X_7 Y10)
  have F_10 := (Two.on (w := wz.drew) F_7 Y10)
  have RY_10 := (Rd.on (w := wz.drew) RY_7 Y10)
  have Y_10 := (Two.on (w := wz.drew) Y_7 Y10)
  have G_10 := (Two.on (w := wz.drew) G_7 Y10)
  have W_10 := (Two.on (w := wz.drew) W_7 Y10)
  have Z10 := (belowD Z7).trans (Y10.mono (belowD Z7).size)
  have CW_10 := (belowD CW_7).trans (Y10.mono (belowD CW_7).size)
  clear G_8_c0 G_8_c1 Y_8_c0 Y_8_c1 B_8_c0 B_8_c1 G_9_c0 G_9_c1 Y_9_c0 Y_9_c1 B_9_c0 B_9_c1 G_10_c0 G_10_c1 Y_10_c0 Y_10_c1 B_10_c0 B_10_c1
  clear R_7 Q_7 B_7 B_7_c0 B_7_c1 RX_7 X_7 X_7_c0 X_7_c1 F_7 F_7_c0 F_7_c1 RY_7 Y_7 Y_7_c0 Y_7_c1 G_7 G_7_c0 G_7_c1 W_7 W_7_c0 W_7_c1 W_7_f0 W_7_f1
  have B_10_c0 := B_10.c0
  have B_10_c1 := B_10.c1
  have X_10_c0 := X_10.c0
  have X_10_c1 := X_10.c1
  have F_10_c0 := F_10.c0
  have F_10_c1 := F_10.c1
  have Y_10_c0 := Y_10.c0
  have Y_10_c1 := Y_10.c1
  have G_10_c0 := G_10.c0
  have G_10_c1 := G_10.c1
  have W_10_c0 := W_10.c0
  have W_10_c1 := W_10.c1
  have W_10_f0 := W_10.f0
  have W_10_f1 := W_10.f1
  go_wp2
  go_ret
  exact ⟨rfl, Z10⟩
end PB
end Go.Proofs.Ytcmglfgibedpbaa
