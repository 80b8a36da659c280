/-
  Codes of choices, with all faults, are as specified: the walk of the statement ArithEncodeMatchesSpec.
-/
import Derived.Test.YtnnpkajmheglgaaRows
import Derived.Test.YtnnpkajmheglgaaArEx
import Derived.Deep.RegionHeld3
import Derived.Deep.DrawnRows
namespace Go.Proofs.Ytnnpkajmheglgaa
open Go.RowKit
attribute [local go_sem ↓] Go.wp_at_zero Go.wp_at_succ
set_option linter.unusedVariables false
set_option linter.unusedSimpArgs false
namespace PB
set_option maxRecDepth 100000 in
set_option maxHeartbeats 1600000 in
theorem ae_bad {A : Option Addr} {n c : Nat} {cs : List Cho} {code idx : Int} (hC : COut cs code idx) (hc : code ≠ 0) (w : World) (h : RdC w A n c cs) :
    Calls Try.prog 3 #[.slice A n c] w fun e w' => e = .returned (.bool true) ∧ Below w.heap.size w w' := by
  have hc2 : (code != 0) = true := by rw [bne_iff_ne]; exact hc
  have HEN := Lib.hid (fun (W : World) (hW : RdC W A n c cs) => arenc_any hW code idx hC [] (by rw [if_neg hc]) 0 rfl)
  have HCF := Lib.hid (fun (W : World) (hW : RdC W A n c cs) => choicefault_any hW code idx hC)
  clear hC hc
  have C_0 := h
  have Z0 := Below.refl w.heap.size w
  go_enter Try.func3, Try.ntmps3
  go_wp2_with fail
  refine (HEN.out _ C_0).mono ?_
  rintro e w1 ⟨A1, n1, c1, rfl, R1, y1⟩
  have C_1 := ((C_0.on y1).alloc (.cells #[.slice A1 n1 c1, .int .i64 0] 25)).alloc (.cells #[.int .i64 code, .int .i64 idx] 27)
  have R_1 := ((R1).alloc (.cells #[.slice A1 n1 c1, .int .i64 0] 25)).alloc (.cells #[.int .i64 code, .int .i64 idx] 27)
  have B_1 := ((Two.new w1 25 (.slice A1 n1 c1) (.int .i64 0))).alloc (.cells #[.int .i64 code, .int .i64 idx] 27)
  have F_1 := (Two.new1 w1 (.cells #[.slice A1 n1 c1, .int .i64 0] 25) 27 (.int .i64 code) (.int .i64 idx))
  clear C_0
  have z1 := Z0.trans (y1.mono Z0.size)
  have Z1 := ((z1).alloc (by have := z1.size; omega) (.cells #[.slice A1 n1 c1, .int .i64 0] 25)).alloc (by have := z1.size; simp; omega) (.cells #[.int .i64 code, .int .i64 idx] 27)
  have B_1_c0 := B_1.c0
  have B_1_c1 := B_1.c1
  have F_1_c0 := F_1.c0
  have F_1_c1 := F_1.c1
  go_wp2_with fail
  refine (HCF.out _ C_1).mono ?_
  rintro e w2 ⟨rfl, y2⟩
  have C_2 := (C_1.on y2).alloc (.cells #[.int .i64 code, .int .i64 idx] 27)
  have R_2 := (R_1.on y2).alloc (.cells #[.int .i64 code, .int .i64 idx] 27)
  have B_2 := (B_1.on y2).alloc (.cells #[.int .i64 code, .int .i64 idx] 27)
  have F_2 := (F_1.on y2).alloc (.cells #[.int .i64 code, .int .i64 idx] 27)
  have G_2 := (Two.new w2 27 (.int .i64 code) (.int .i64 idx))
  clear C_1 R_1 B_1 B_1_c0 B_1_c1 F_1 F_1_c0 F_1_c1
  have z2 := Z1.trans (y2.mono Z1.size)
  have Z2 := (z2).alloc (by have := z2.size; omega) (.cells #[.int .i64 code, .int .i64 idx] 27)
  have B_2_c0 := B_2.c0
  have B_2_c1 := B_2.c1
  have F_2_c0 := F_2.c0
  have F_2_c1 := F_2.c1
  have G_2_c0 := G_2.c0
  have G_2_c1 := G_2.c1
  go_wp2_with fail
  refine (codes_true _).mono ?_
  rintro e w3 ⟨rfl, y3⟩
  have C_3 := C_2.on y3
  have R_3 := R_2.on y3
  have B_3 := B_2.on y3
  have F_3 := F_2.on y3
  have G_3 := G_2.on y3
  clear C_2 R_2 B_2 B_2_c0 B_2_c1 F_2 F_2_c0 F_2_c1 G_2 G_2_c0 G_2_c1
  have z3 := Z2.trans (y3.mono Z2.size)
  have Z3 := z3
  have B_3_c0 := B_3.c0
  have B_3_c1 := B_3.c1
  have F_3_c0 := F_3.c0
  have F_3_c1 := F_3.c1
  have G_3_c0 := G_3.c0
  have G_3_c1 := G_3.c1
  have NN := Rd.none_ w3
  go_wp2_with fail
  refine (api_same (l := []) (l2 := []) R_3 (Rd.none_ _) Is01.nil Is01.nil true (by simp) _ _ rfl rfl).mono ?_
  rintro e w4 ⟨rfl, y4⟩
  have C_4 := C_3.on y4
  have R_4 := R_3.on y4
  have B_4 := B_3.on y4
  have F_4 := F_3.on y4
  have G_4 := G_3.on y4
  clear C_3 R_3 B_3 B_3_c0 B_3_c1 F_3 F_3_c0 F_3_c1 G_3 G_3_c0 G_3_c1
  have z4 := Z3.trans (y4.mono Z3.size)
  have Z4 := z4
  have B_4_c0 := B_4.c0
  have B_4_c1 := B_4.c1
  have F_4_c0 := F_4.c0
  have F_4_c1 := F_4.c1
  have G_4_c0 := G_4.c0
  have G_4_c1 := G_4.c1
  go_wp2
  go_ret
  exact ⟨rfl, Z4⟩
set_option maxRecDepth 100000 in
set_option maxHeartbeats 1600000 in
theorem ae_ok {A : Option Addr} {n c : Nat} {cs : List Cho} {idx : Int} (hC : COut cs 0 idx) (w : World) (h : RdC w A n c cs) :
    Calls Try.prog 3 #[.slice A n c] w fun e w' => e = .returned (.bool true) ∧ Below w.heap.size w w' := by
  obtain ⟨hall, hlen, rfl⟩ := cout_ok hC rfl
  obtain ⟨k, hk⟩ : ∃ k, k = (acode cs).length := ⟨_, rfl⟩
  have HEN := Lib.hid (fun (W : World) (hW : RdC W A n c cs) => arenc_any hW 0 0 hC (acode cs) (by rw [if_pos rfl]) k hk)
  have HCF := Lib.hid (fun (W : World) (hW : RdC W A n c cs) => choicefault_any hW 0 0 hC)
  have HRC := Lib.hid (fun (W : World) (hW : RdC W A n c cs) => refcode_any hW hall hlen)
  have H01 := Lib.hid (acode_01 hall)
  have HKL := Lib.hid (acode_le hall hlen)
  have HK := Lib.hid hk
  clear hC hall hlen hk
  have C_0 := h
  have Z0 := Below.refl w.heap.size w
  go_enter Try.func3, Try.ntmps3
  go_wp2_with fail
  refine (HEN.out _ C_0).mono ?_
  rintro e w1 ⟨A1, n1, c1, rfl, R1, y1⟩
  have C_1 := ((C_0.on y1).alloc (.cells #[.slice A1 n1 c1, .int .i64 (k : Nat)] 25)).alloc (.cells #[.int .i64 0, .int .i64 0] 27)
  have R_1 := ((R1).alloc (.cells #[.slice A1 n1 c1, .int .i64 (k : Nat)] 25)).alloc (.cells #[.int .i64 0, .int .i64 0] 27)
  have B_1 := ((Two.new w1 25 (.slice A1 n1 c1) (.int .i64 (k : Nat)))).alloc (.cells #[.int .i64 0, .int .i64 0] 27)
  have F_1 := (Two.new1 w1 (.cells #[.slice A1 n1 c1, .int .i64 (k : Nat)] 25) 27 (.int .i64 0) (.int .i64 0))
  clear C_0
  have z1 := Z0.trans (y1.mono Z0.size)
  have Z1 := ((z1).alloc (by have := z1.size; omega) (.cells #[.slice A1 n1 c1, .int .i64 (k : Nat)] 25)).alloc (by have := z1.size; simp; omega) (.cells #[.int .i64 0, .int .i64 0] 27)
  have B_1_c0 := B_1.c0
  have B_1_c1 := B_1.c1
  have F_1_c0 := F_1.c0
  have F_1_c1 := F_1.c1
  go_wp2_with fail
  refine (HCF.out _ C_1).mono ?_
  rintro e w2 ⟨rfl, y2⟩
  have C_2 := (C_1.on y2).alloc (.cells #[.int .i64 0, .int .i64 0] 27)
  have R_2 := (R_1.on y2).alloc (.cells #[.int .i64 0, .int .i64 0] 27)
  have B_2 := (B_1.on y2).alloc (.cells #[.int .i64 0, .int .i64 0] 27)
  have F_2 := (F_1.on y2).alloc (.cells #[.int .i64 0, .int .i64 0] 27)
  have G_2 := (Two.new w2 27 (.int .i64 0) (.int .i64 0))
  clear C_1 R_1 B_1 B_1_c0 B_1_c1 F_1 F_1_c0 F_1_c1
  have z2 := Z1.trans (y2.mono Z1.size)
  have Z2 := (z2).alloc (by have := z2.size; omega) (.cells #[.int .i64 0, .int .i64 0] 27)
  have B_2_c0 := B_2.c0
  have B_2_c1 := B_2.c1
  have F_2_c0 := F_2.c0
  have F_2_c1 := F_2.c1
  have G_2_c0 := G_2.c0
  have G_2_c1 := G_2.c1
  go_wp2_with fail
  refine (codes_true _).mono ?_
  rintro e w3 ⟨rfl, y3⟩
  have C_3 := C_2.on y3
  have R_3 := R_2.on y3
  have B_3 := B_2.on y3
  have F_3 := F_2.on y3
  have G_3 := G_2.on y3
  clear C_2 R_2 B_2 B_2_c0 B_2_c1 F_2 F_2_c0 F_2_c1 G_2 G_2_c0 G_2_c1
  have z3 := Z2.trans (y3.mono Z2.size)
  have Z3 := z3
  have B_3_c0 := B_3.c0
  have B_3_c1 := B_3.c1
  have F_3_c0 := F_3.c0
  have F_3_c1 := F_3.c1
  have G_3_c0 := G_3.c0
  have G_3_c1 := G_3.c1
  go_wp2_with fail
  go_region_held3 (fun w' => w'.cell? ⟨w1.heap.size, 0, none⟩ = some (.slice A1 n1 c1) ∧ w'.cell? ⟨w1.heap.size, 1, none⟩ = some (.int .i64 (k : Nat))) (go_keep) (first | (go_at_call 16; refine (HRC.out _ (RdC.drew C_3)).mono ?_; rintro e w4 ⟨Ac, nc, cc, rfl, hnc, oc, y4⟩; have Y4 : Below w3.heap.size w3.drew w4 := y4; have B_4_c0 := ((Two.on (w := w3.drew) B_3 Y4)).c0; have B_4_c1 := ((Two.on (w := w3.drew) B_3 Y4)).c1) | (go_at_call 15; refine (arpacked hnc (Rd.own oc) H01.out (Nat.le_trans HKL.out (by decide))).mono ?_; rintro e w5 ⟨Ap, np, cp, rfl, RP, y5⟩; have Y5 := Y4.trans (y5.mono Y4.size); have B_5_c0 := ((Two.on (w := w3.drew) B_3 Y5)).c0; have B_5_c1 := ((Two.on (w := w3.drew) B_3 Y5)).c1) | (go_at_call 14; refine (api_same (Rd.on (w := w3.drew) R_3 Y5) RP H01.out H01.out true (by simp) _ _ (by rw [← HK.out]) (by rw [hnc])).mono ?_; rintro e w6 ⟨rfl, y6⟩; have Y6 := Y5.trans (y6.mono Y5.size); have B_6_c0 := ((Two.on (w := w3.drew) B_3 Y6)).c0; have B_6_c1 := ((Two.on (w := w3.drew) B_3 Y6)).c1))
  have C_6 := (RdC.on (w := w3.drew) C_3 Y6)
  have R_6 := (Rd.on (w := w3.drew) R_3 Y6)
  have B_6 := (Two.on (w := w3.drew) B_3 Y6)
  have F_6 := (Two.on (w := w3.drew) F_3 Y6)
  have G_6 := (Two.on (w := w3.drew) G_3 Y6)
  have Z6 := (belowD Z3).trans (Y6.mono (belowD Z3).size)
  clear B_4_c0 B_4_c1 B_5_c0 B_5_c1 B_6_c0 B_6_c1
  clear C_3 R_3 B_3 B_3_c0 B_3_c1 F_3 F_3_c0 F_3_c1 G_3 G_3_c0 G_3_c1
  have B_6_c0 := B_6.c0
  have B_6_c1 := B_6.c1
  have F_6_c0 := F_6.c0
  have F_6_c1 := F_6.c1
  have G_6_c0 := G_6.c0
  have G_6_c1 := G_6.c1
  go_wp2
  go_ret
  exact ⟨rfl, Z6⟩
theorem ae_all {A : Option Addr} {n c : Nat} {cs : List Cho} (w : World) (h : RdC w A n c cs) : Calls Try.prog 3 #[.slice A n c] w fun e w' => e = .returned (.bool true) ∧ Below w.heap.size w w' := by
  obtain ⟨code, idx, hC⟩ := cout_ex cs
  by_cases hc : code = 0
  · subst hc
    exact ae_ok hC w h
  · exact ae_bad hC hc w h
end PB
end Go.Proofs.Ytnnpkajmheglgaa
