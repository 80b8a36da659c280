/-
  Trained dictionaries, with all faults, are as specified: the walk of the statement DictionaryTrainMatchesSpec.
-/
import Derived.Test.YtnahmiglogddaaaRows
import Derived.Test.YtnahmiglogddaaaDiTwo
import Derived.Deep.RegionHeld3
import Derived.Deep.DrawnRows
import Derived.Deep.Cut
import Derived.Lib.SlBytesConst
namespace Go.Proofs.Ytnahmiglogddaaa
open Go.RowKit
attribute [local go_sem ↓] Go.wp_at_zero Go.wp_at_succ
set_option linter.unusedVariables false
set_option linter.unusedSimpArgs false
namespace PB
set_option maxRecDepth 100000 in
set_option maxHeartbeats 1600000 in
theorem dt_sam {A : Option Addr} {n c : Nat} {xs : List SItem} {si mx : Int} (hB : ∀ x ∈ xs, ByteL x.d) {code idx : Int} (hF : SFault xs (-1) code idx) (hc : code ≠ 0) {w : World} (h : RdSS w A n c xs) (hm : Mx w mx) :
    Calls Try.prog 3 #[.slice A n c, .int .i64 si] w fun e w' => e = .returned (.bool true) ∧ Below w.heap.size w w' := by
  have HB := Lib.hid hB
  clear hB
  have hc2 : (code == 0) = false := by rw [beq_eq_false_iff_ne]; exact hc
  have hc3 : (code != 0) = true := by rw [bne_iff_ne]; exact hc
  have HF := Lib.hid hF
  have HC := Lib.hid hc
  clear hF hc
  have S_0 := h
  have X_0 := hm
  have Z0 := Below.refl w.heap.size w
  go_enter Try.func3, Try.ntmps3
  go_wp2_with fail
  refine (dtrain_sam S_0 si code idx HF.out HC.out).mono ?_
  rintro e w1 ⟨rfl, y1⟩
  have S_1 := (S_0.on y1).alloc (.cells #[.int .i64 code, .int .i64 idx] 25)
  have X_1 := (X_0.on y1).alloc (.cells #[.int .i64 code, .int .i64 idx] 25)
  have F_1 := (Two.new w1 25 (.int .i64 code) (.int .i64 idx))
  clear S_0 X_0
  have z1 := Z0.trans (y1.mono Z0.size)
  have Z1 := (z1).alloc (by have := z1.size; omega) (.cells #[.int .i64 code, .int .i64 idx] 25)
  have F_1_c0 := F_1.c0
  have F_1_c1 := F_1.c1
  go_wp2_with fail
  refine (samfault_any S_1 (-1) code idx HF.out).mono ?_
  rintro e w2 ⟨rfl, y2⟩
  have S_2 := (S_1.on y2).alloc (.cells #[.int .i64 code, .int .i64 idx] 25)
  have X_2 := (X_1.on y2).alloc (.cells #[.int .i64 code, .int .i64 idx] 25)
  have F_2 := (F_1.on y2).alloc (.cells #[.int .i64 code, .int .i64 idx] 25)
  have W_2 := (Two.new w2 25 (.int .i64 code) (.int .i64 idx))
  clear S_1 X_1 F_1 F_1_c0 F_1_c1
  have z2 := Z1.trans (y2.mono Z1.size)
  have Z2 := (z2).alloc (by have := z2.size; omega) (.cells #[.int .i64 code, .int .i64 idx] 25)
  have F_2_c0 := F_2.c0
  have F_2_c1 := F_2.c1
  have W_2_c0 := W_2.c0
  have W_2_c1 := W_2.c1
  have W_2_f0 := W_2.f0
  have W_2_f1 := W_2.f1
  go_wp2_with fail
  refine (trains_true X_2).mono ?_
  rintro e w3 ⟨rfl, y3⟩
  have S_3 := S_2.on y3
  have X_3 := X_2.on y3
  have F_3 := F_2.on y3
  have W_3 := W_2.on y3
  clear S_2 X_2 F_2 F_2_c0 F_2_c1 W_2 W_2_c0 W_2_c1 W_2_f0 W_2_f1
  have z3 := Z2.trans (y3.mono Z2.size)
  have Z3 := z3
  have F_3_c0 := F_3.c0
  have F_3_c1 := F_3.c1
  have W_3_c0 := W_3.c0
  have W_3_c1 := W_3.c1
  have W_3_f0 := W_3.f0
  have W_3_f1 := W_3.f1
  go_wp2_with fail
  refine (trains_true X_3).mono ?_
  rintro e w4 ⟨rfl, y4⟩
  have S_4 := S_3.on y4
  have X_4 := X_3.on y4
  have F_4 := F_3.on y4
  have W_4 := W_3.on y4
  clear S_3 X_3 F_3 F_3_c0 F_3_c1 W_3 W_3_c0 W_3_c1 W_3_f0 W_3_f1
  have z4 := Z3.trans (y4.mono Z3.size)
  have Z4 := z4
  have F_4_c0 := F_4.c0
  have F_4_c1 := F_4.c1
  have W_4_c0 := W_4.c0
  have W_4_c1 := W_4.c1
  have W_4_f0 := W_4.f0
  have W_4_f1 := W_4.f1
  go_wp2
  go_ret
  exact ⟨rfl, Z4⟩
set_option maxRecDepth 100000 in
set_option maxHeartbeats 1600000 in
theorem dt_size {A : Option Addr} {n c : Nat} {xs : List SItem} {si mx : Int} (hB : ∀ x ∈ xs, ByteL x.d) (hok : SamOk xs) (hs : si < 0 ∨ 512 < si) {w : World} (h : RdSS w A n c xs) (hm : Mx w mx) :
    Calls Try.prog 3 #[.slice A n c, .int .i64 si] w fun e w' => e = .returned (.bool true) ∧ Below w.heap.size w w' := by
  have HB := Lib.hid hB
  clear hB
  have HF := Lib.hid (show SFault xs (-1) 0 0 from .inr (.inr ⟨hok, rfl, rfl⟩))
  have HK := Lib.hid hok
  have HR := Lib.hid hs
  clear hok hs
  have S_0 := h
  have X_0 := hm
  have Z0 := Below.refl w.heap.size w
  go_enter Try.func3, Try.ntmps3
  go_wp2_with fail
  refine (dtrain_size S_0 HK.out si HR.out).mono ?_
  rintro e w1 ⟨rfl, y1⟩
  have S_1 := (S_0.on y1).alloc (.cells #[.int .i64 4, .int .i64 (-2)] 25)
  have X_1 := (X_0.on y1).alloc (.cells #[.int .i64 4, .int .i64 (-2)] 25)
  have F_1 := (Two.new w1 25 (.int .i64 4) (.int .i64 (-2)))
  clear S_0 X_0
  have z1 := Z0.trans (y1.mono Z0.size)
  have Z1 := (z1).alloc (by have := z1.size; omega) (.cells #[.int .i64 4, .int .i64 (-2)] 25)
  have F_1_c0 := F_1.c0
  have F_1_c1 := F_1.c1
  go_wp2_with fail
  refine (samfault_any S_1 (-1) 0 0 HF.out).mono ?_
  rintro e w2 ⟨rfl, y2⟩
  have S_2 := (S_1.on y2).alloc (.cells #[.int .i64 0, .int .i64 0] 25)
  have X_2 := (X_1.on y2).alloc (.cells #[.int .i64 0, .int .i64 0] 25)
  have F_2 := (F_1.on y2).alloc (.cells #[.int .i64 0, .int .i64 0] 25)
  have S_b := S_1.on y2
  have X_b := X_1.on y2
  have F_b := F_1.on y2
  have W_2 := (Two.new w2 25 (.int .i64 0) (.int .i64 0))
  clear S_1 X_1 F_1 F_1_c0 F_1_c1
  have z2 := Z1.trans (y2.mono Z1.size)
  have Z2 := (z2).alloc (by have := z2.size; omega) (.cells #[.int .i64 0, .int .i64 0] 25)
  have CW_2 := (Below.refl w2.heap.size w2).alloc (by simp) (.cells #[.int .i64 0, .int .i64 0] 25)
  have F_2_c0 := F_2.c0
  have F_2_c1 := F_2.c1
  have W_2_c0 := W_2.c0
  have W_2_c1 := W_2.c1
  have W_2_f0 := W_2.f0
  have W_2_f1 := W_2.f1
  go_wp2_with fail
  refine (in_no _ _ _ _ HR.out).mono ?_
  rintro e w9_1 ⟨rfl, rfl⟩
  go_wp2_with fail
  refine (refat_any _ _ _).mono ?_
  rintro e w3 ⟨rfl, y3⟩
  have S_3 := S_2.on y3
  have X_3 := X_2.on y3
  have F_3 := F_2.on y3
  have W_3 := W_2.on y3
  clear S_2 X_2 F_2 F_2_c0 F_2_c1 W_2 W_2_c0 W_2_c1 W_2_f0 W_2_f1
  have z3 := Z2.trans (y3.mono Z2.size)
  have Z3 := z3
  have cW3 := CW_2.trans (y3.mono CW_2.size)
  have CW_3 := cW3
  have F_3_c0 := F_3.c0
  have F_3_c1 := F_3.c1
  have W_3_c0 := W_3.c0
  have W_3_c1 := W_3.c1
  have W_3_f0 := W_3.f0
  have W_3_f1 := W_3.f1
  have CW_4 := (CW_3.setCell (p := ⟨w2.heap.size, 0, none⟩) (by simp) (.int .i64 4)).setCell (p := ⟨w2.heap.size, 1, none⟩) (by simp) (.int .i64 (-2))
  have Z4 := (Z3.setCell (p := ⟨w2.heap.size, 0, none⟩) (by have := z2.size; simp; omega) (.int .i64 4)).setCell (p := ⟨w2.heap.size, 1, none⟩) (by have := z2.size; simp; omega) (.int .i64 (-2))
  have S_4 := S_b.on CW_4
  have X_4 := X_b.on CW_4
  have F_4 := F_b.on CW_4
  have W_4 := (W_3.set0 (.int .i64 4)).set1 (.int .i64 (-2))
  have F_4_c0 := F_4.c0
  have F_4_c1 := F_4.c1
  have W_4_c0 := W_4.c0
  have W_4_c1 := W_4.c1
  have W_4_f0 := W_4.f0
  have W_4_f1 := W_4.f1
  go_wp2_with fail
  refine (trains_true X_4).mono ?_
  rintro e w5 ⟨rfl, y5⟩
  have S_5 := S_4.on y5
  have X_5 := X_4.on y5
  have F_5 := F_4.on y5
  have W_5 := W_4.on y5
  clear S_3 X_3 F_3 F_3_c0 F_3_c1 W_3 W_3_c0 W_3_c1 W_3_f0 W_3_f1 S_4 X_4 F_4 F_4_c0 F_4_c1 W_4 W_4_c0 W_4_c1 W_4_f0 W_4_f1
  have z5 := Z4.trans (y5.mono Z4.size)
  have Z5 := z5
  have cW5 := CW_4.trans (y5.mono CW_4.size)
  have CW_5 := cW5
  have F_5_c0 := F_5.c0
  have F_5_c1 := F_5.c1
  have W_5_c0 := W_5.c0
  have W_5_c1 := W_5.c1
  have W_5_f0 := W_5.f0
  have W_5_f1 := W_5.f1
  go_wp2_with fail
  refine (trains_true X_5).mono ?_
  rintro e w6 ⟨rfl, y6⟩
  have S_6 := S_5.on y6
  have X_6 := X_5.on y6
  have F_6 := F_5.on y6
  have W_6 := W_5.on y6
  clear S_5 X_5 F_5 F_5_c0 F_5_c1 W_5 W_5_c0 W_5_c1 W_5_f0 W_5_f1
  have z6 := Z5.trans (y6.mono Z5.size)
  have Z6 := z6
  have cW6 := CW_5.trans (y6.mono CW_5.size)
  have CW_6 := cW6
  have F_6_c0 := F_6.c0
  have F_6_c1 := F_6.c1
  have W_6_c0 := W_6.c0
  have W_6_c1 := W_6.c1
  have W_6_f0 := W_6.f0
  have W_6_f1 := W_6.f1
  go_wp2
  go_ret
  exact ⟨rfl, Z6⟩
set_option maxRecDepth 100000 in
set_option maxHeartbeats 1600000 in
theorem dt_long {A : Option Addr} {n c : Nat} {xs : List SItem} {si mx : Int} (hB : ∀ x ∈ xs, ByteL x.d) {size : Nat} (hs : size ≤ 512) (hsi : si = (size : Nat)) (hok : SamOk xs) (ht : ¬ tsum xs ≤ 160) {w : World} (h : RdSS w A n c xs) (hm : Mx w mx) :
    Calls Try.prog 3 #[.slice A n c, .int .i64 si] w fun e w' => e = .returned (.bool true) ∧ Below w.heap.size w w' := by
  have HB := Lib.hid hB
  clear hB
  have HSI := Lib.hid hsi
  clear hsi
  have HF := Lib.hid (show SFault xs (-1) 0 0 from .inr (.inr ⟨hok, rfl, rfl⟩))
  have HK := Lib.hid hok
  have HSB := Lib.hid (show SamB xs from ⟨hok, HB.out⟩)
  clear hok
  obtain ⟨N, hN⟩ : ∃ N, N = tsum xs := ⟨_, rfl⟩
  rw [← hN] at ht
  have kt : decide ((160 : Int) < ((161 : Nat) : Int)) = true := by decide
  have HT := Lib.hid (show 161 = if tsum xs ≤ 160 then tsum xs else 160 + 1 by rw [← hN]; rw [if_neg ht])
  clear hN
  have S_0 := h
  have X_0 := hm
  have Z0 := Below.refl w.heap.size w
  go_enter Try.func3, Try.ntmps3
  go_wp2_with fail
  refine (dtrain_ok S_0 HK.out X_0.cell X_0.lt size hs _ HSI.out).mono ?_
  rintro e w1 ⟨A1, n1, c1, l, hS, rfl, P1, y1⟩
  have S_1 := (S_0.on y1).alloc (.cells #[.int .i64 0, .int .i64 0] 25)
  have X_1 := (X_0.on y1).alloc (.cells #[.int .i64 0, .int .i64 0] 25)
  have P_1 := ((Rd.own P1)).alloc (.cells #[.int .i64 0, .int .i64 0] 25)
  have F_1 := (Two.new w1 25 (.int .i64 0) (.int .i64 0))
  clear S_0 X_0
  have z1 := Z0.trans (y1.mono Z0.size)
  have Z1 := (z1).alloc (by have := z1.size; omega) (.cells #[.int .i64 0, .int .i64 0] 25)
  have F_1_c0 := F_1.c0
  have F_1_c1 := F_1.c1
  have HSG := Lib.hid hS
  have hdl : decide ((n1 : Int) ≤ si) = true := by have h1 := Reads.len P_1; rw [bcells_length] at h1; have := traind_size size l; have := HSI.out; simp; omega
  clear hS P1
  go_wp2_with fail
  refine (samfault_any S_1 (-1) 0 0 HF.out).mono ?_
  rintro e w2 ⟨rfl, y2⟩
  have S_2 := (S_1.on y2).alloc (.cells #[.int .i64 0, .int .i64 0] 25)
  have X_2 := (X_1.on y2).alloc (.cells #[.int .i64 0, .int .i64 0] 25)
  have P_2 := (P_1.on y2).alloc (.cells #[.int .i64 0, .int .i64 0] 25)
  have F_2 := (F_1.on y2).alloc (.cells #[.int .i64 0, .int .i64 0] 25)
  have W_2 := (Two.new w2 25 (.int .i64 0) (.int .i64 0))
  clear S_1 X_1 P_1 F_1 F_1_c0 F_1_c1
  have z2 := Z1.trans (y2.mono Z1.size)
  have Z2 := (z2).alloc (by have := z2.size; omega) (.cells #[.int .i64 0, .int .i64 0] 25)
  have F_2_c0 := F_2.c0
  have F_2_c1 := F_2.c1
  have W_2_c0 := W_2.c0
  have W_2_c1 := W_2.c1
  have W_2_f0 := W_2.f0
  have W_2_f1 := W_2.f1
  go_wp2_with fail
  refine (in_yes _ _ _ _ (by have := HSI.out; omega) (by have := HSI.out; omega)).mono ?_
  rintro e w9_1 ⟨rfl, rfl⟩
  go_wp2_with fail
  refine (trains_true X_2).mono ?_
  rintro e w3 ⟨rfl, y3⟩
  have S_3 := S_2.on y3
  have X_3 := X_2.on y3
  have P_3 := P_2.on y3
  have F_3 := F_2.on y3
  have W_3 := W_2.on y3
  clear S_2 X_2 P_2 F_2 F_2_c0 F_2_c1 W_2 W_2_c0 W_2_c1 W_2_f0 W_2_f1
  have z3 := Z2.trans (y3.mono Z2.size)
  have Z3 := z3
  have F_3_c0 := F_3.c0
  have F_3_c1 := F_3.c1
  have W_3_c0 := W_3.c0
  have W_3_c1 := W_3.c1
  have W_3_f0 := W_3.f0
  have W_3_f1 := W_3.f1
  go_wp2_with fail
  refine (total_any S_3 160 (by decide) _ rfl _ HT.out).mono ?_
  rintro e w9_2 ⟨rfl, rfl⟩
  go_wp2
  go_ret
  exact ⟨rfl, Z3⟩
set_option maxRecDepth 100000 in
set_option maxHeartbeats 1600000 in
theorem dt_short {A : Option Addr} {n c : Nat} {xs : List SItem} {si mx : Int} (hB : ∀ x ∈ xs, ByteL x.d) {size : Nat} (hs : size ≤ 512) (hsi : si = (size : Nat)) (hok : SamOk xs) (ht : tsum xs ≤ 160) {w : World} (h : RdSS w A n c xs) (hm : Mx w mx) :
    Calls Try.prog 3 #[.slice A n c, .int .i64 si] w fun e w' => e = .returned (.bool true) ∧ Below w.heap.size w w' := by
  have HB := Lib.hid hB
  clear hB
  have HSI := Lib.hid hsi
  clear hsi
  have HF := Lib.hid (show SFault xs (-1) 0 0 from .inr (.inr ⟨hok, rfl, rfl⟩))
  have HK := Lib.hid hok
  have HSB := Lib.hid (show SamB xs from ⟨hok, HB.out⟩)
  clear hok
  obtain ⟨N, hN⟩ : ∃ N, N = tsum xs := ⟨_, rfl⟩
  rw [← hN] at ht
  have kt : decide ((160 : Int) < (N : Int)) = false := by simp; omega
  have HT := Lib.hid (show N = if tsum xs ≤ 160 then tsum xs else 160 + 1 by rw [← hN]; rw [if_pos ht])
  clear hN
  have S_0 := h
  have X_0 := hm
  have Z0 := Below.refl w.heap.size w
  go_enter Try.func3, Try.ntmps3
  go_wp2_with fail
  refine (dtrain_ok S_0 HK.out X_0.cell X_0.lt size hs _ HSI.out).mono ?_
  rintro e w1 ⟨A1, n1, c1, l, hS, rfl, P1, y1⟩
  have S_1 := (S_0.on y1).alloc (.cells #[.int .i64 0, .int .i64 0] 25)
  have X_1 := (X_0.on y1).alloc (.cells #[.int .i64 0, .int .i64 0] 25)
  have P_1 := ((Rd.own P1)).alloc (.cells #[.int .i64 0, .int .i64 0] 25)
  have F_1 := (Two.new w1 25 (.int .i64 0) (.int .i64 0))
  clear S_0 X_0
  have z1 := Z0.trans (y1.mono Z0.size)
  have Z1 := (z1).alloc (by have := z1.size; omega) (.cells #[.int .i64 0, .int .i64 0] 25)
  have F_1_c0 := F_1.c0
  have F_1_c1 := F_1.c1
  have HSG := Lib.hid hS
  have hdl : decide ((n1 : Int) ≤ si) = true := by have h1 := Reads.len P_1; rw [bcells_length] at h1; have := traind_size size l; have := HSI.out; simp; omega
  clear hS P1
  go_wp2_with fail
  refine (samfault_any S_1 (-1) 0 0 HF.out).mono ?_
  rintro e w2 ⟨rfl, y2⟩
  have S_2 := (S_1.on y2).alloc (.cells #[.int .i64 0, .int .i64 0] 25)
  have X_2 := (X_1.on y2).alloc (.cells #[.int .i64 0, .int .i64 0] 25)
  have P_2 := (P_1.on y2).alloc (.cells #[.int .i64 0, .int .i64 0] 25)
  have F_2 := (F_1.on y2).alloc (.cells #[.int .i64 0, .int .i64 0] 25)
  have W_2 := (Two.new w2 25 (.int .i64 0) (.int .i64 0))
  clear S_1 X_1 P_1 F_1 F_1_c0 F_1_c1
  have z2 := Z1.trans (y2.mono Z1.size)
  have Z2 := (z2).alloc (by have := z2.size; omega) (.cells #[.int .i64 0, .int .i64 0] 25)
  have F_2_c0 := F_2.c0
  have F_2_c1 := F_2.c1
  have W_2_c0 := W_2.c0
  have W_2_c1 := W_2.c1
  have W_2_f0 := W_2.f0
  have W_2_f1 := W_2.f1
  go_wp2_with fail
  refine (in_yes _ _ _ _ (by have := HSI.out; omega) (by have := HSI.out; omega)).mono ?_
  rintro e w9_1 ⟨rfl, rfl⟩
  go_wp2_with fail
  refine (trains_true X_2).mono ?_
  rintro e w3 ⟨rfl, y3⟩
  have S_3 := S_2.on y3
  have X_3 := X_2.on y3
  have P_3 := P_2.on y3
  have F_3 := F_2.on y3
  have W_3 := W_2.on y3
  clear S_2 X_2 P_2 F_2 F_2_c0 F_2_c1 W_2 W_2_c0 W_2_c1 W_2_f0 W_2_f1
  have z3 := Z2.trans (y3.mono Z2.size)
  have Z3 := z3
  have F_3_c0 := F_3.c0
  have F_3_c1 := F_3.c1
  have W_3_c0 := W_3.c0
  have W_3_c1 := W_3.c1
  have W_3_f0 := W_3.f0
  have W_3_f1 := W_3.f1
  go_wp2_with fail
  refine (total_any S_3 160 (by decide) _ rfl _ HT.out).mono ?_
  rintro e w9_2 ⟨rfl, rfl⟩
  go_wp2_with fail
  refine (trained_any S_3 HSB.out HSG.out size hs _ HSI.out).mono ?_
  rintro e w4 ⟨A3, n3, c3, rfl, Q3, y4⟩
  have S_4 := S_3.on y4
  have X_4 := X_3.on y4
  have P_4 := P_3.on y4
  have F_4 := F_3.on y4
  have W_4 := W_3.on y4
  have Q_4 := Q3
  clear S_3 X_3 P_3 F_3 F_3_c0 F_3_c1 W_3 W_3_c0 W_3_c1 W_3_f0 W_3_f1
  have z4 := Z3.trans (y4.mono Z3.size)
  have Z4 := z4
  have F_4_c0 := F_4.c0
  have F_4_c1 := F_4.c1
  have W_4_c0 := W_4.c0
  have W_4_c1 := W_4.c1
  have W_4_f0 := W_4.f0
  have W_4_f1 := W_4.f1
  go_wp2_with fail
  refine (same_q P_4 Q_4 (traind_byte _ _) (traind_byte _ _) true (by simp)).mono ?_
  rintro e w9_3 ⟨rfl, rfl⟩
  go_wp2
  go_ret
  exact ⟨rfl, Z4⟩
theorem dt_all {A : Option Addr} {n c : Nat} {xs : List SItem} {si mx : Int} (hB : ∀ x ∈ xs, ByteL x.d) {w : World} (h : RdSS w A n c xs) (hm : Mx w mx) :
    Calls Try.prog 3 #[.slice A n c, .int .i64 si] w fun e w' => e = .returned (.bool true) ∧ Below w.heap.size w w' := by
  obtain ⟨code, idx, hF⟩ := sfault_ex xs (-1)
  by_cases hc : code = 0
  · obtain ⟨hok, rfl⟩ := sfault_ok hF hc
    by_cases hs : si < 0 ∨ 512 < si
    · exact dt_size hB hok hs h hm
    · obtain ⟨size, hsi⟩ := Int.eq_ofNat_of_zero_le (show 0 ≤ si by omega)
      by_cases ht : tsum xs ≤ 160
      · exact dt_short hB (by omega) hsi hok ht h hm
      · exact dt_long hB (by omega) hsi hok ht h hm
  · exact dt_sam hB hF hc h hm
end PB
end Go.Proofs.Ytnahmiglogddaaa
