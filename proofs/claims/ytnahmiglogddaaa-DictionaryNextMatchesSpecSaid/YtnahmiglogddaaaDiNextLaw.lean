/-
  A dictionary that continues another one, with all faults, is the end of both: the walk of the statement DictionaryNextMatchesSpec.
-/
import Derived.Test.YtnahmiglogddaaaRows
import Derived.Test.YtnahmiglogddaaaDiTwo
import Derived.Deep.RegionHeld3
import Derived.Deep.DrawnRows
import Derived.Deep.Cut
import Derived.Lib.SlBytesConst
namespace Go.Proofs.Ytnahmiglogddaaa
open Go.RowKit
attribute [local go_sem ↓] Go.wp_at_zero Go.wp_at_succ
set_option linter.unusedVariables false
set_option linter.unusedSimpArgs false
namespace PB
set_option maxRecDepth 100000 in
set_option maxHeartbeats 1600000 in
theorem dn_long {B : Option Addr} {m k : Nat} {dd : List Nat} {A : Option Addr} {n c : Nat} {xs : List SItem} {si mx : Int} (hdB : ByteL dd) (hl : 512 < m) {w : World} (hd : Rd w B m k (bcells dd)) (h : RdSS w A n c xs) (hm : Mx w mx) :
    Calls Try.prog 4 #[.slice B m k, .slice A n c, .int .i64 si] w fun e w' => e = .returned (.bool true) ∧ Below w.heap.size w w' := by
  have HDB := Lib.hid hdB
  clear hdB
  have hdc := Reads.cap hd
  have hdm := Reads.capMax hd
  unfold maxLen at hdm
  have hdn := Reads.len hd
  rw [bcells_length] at hdn
  have kl : decide ((512 : Int) < (m : Int)) = true := by simp; omega
  have D_0 := hd
  have S_0 := h
  have X_0 := hm
  have Z0 := Below.refl w.heap.size w
  go_enter Try.func4, Try.ntmps4
  go_wp2_with fail
  refine (dnext_long S_0 D_0 si hl).mono ?_
  rintro e w1 ⟨rfl, y1⟩
  have D_1 := ((D_0.on y1).alloc (.cells #[.int .i64 3, .int .i64 (-1)] 25)).alloc (.cells #[.int .i64 0, .int .i64 0] 25)
  have S_1 := ((S_0.on y1).alloc (.cells #[.int .i64 3, .int .i64 (-1)] 25)).alloc (.cells #[.int .i64 0, .int .i64 0] 25)
  have X_1 := ((X_0.on y1).alloc (.cells #[.int .i64 3, .int .i64 (-1)] 25)).alloc (.cells #[.int .i64 0, .int .i64 0] 25)
  have D_b := D_0.on y1
  have S_b := S_0.on y1
  have X_b := X_0.on y1
  have F_1 := ((Two.new w1 25 (.int .i64 3) (.int .i64 (-1)))).alloc (.cells #[.int .i64 0, .int .i64 0] 25)
  have W_1 := (Two.new1 w1 (.cells #[.int .i64 3, .int .i64 (-1)] 25) 25 (.int .i64 0) (.int .i64 0))
  clear D_0 S_0 X_0
  have z1 := Z0.trans (y1.mono Z0.size)
  have Z1 := ((z1).alloc (by have := z1.size; omega) (.cells #[.int .i64 3, .int .i64 (-1)] 25)).alloc (by have := z1.size; simp; omega) (.cells #[.int .i64 0, .int .i64 0] 25)
  have CW_1 := ((Below.refl w1.heap.size w1).alloc (by simp) (.cells #[.int .i64 3, .int .i64 (-1)] 25)).alloc (by simp) (.cells #[.int .i64 0, .int .i64 0] 25)
  have F_1_c0 := F_1.c0
  have F_1_c1 := F_1.c1
  have W_1_c0 := W_1.c0
  have W_1_c1 := W_1.c1
  have W_1_f0 := W_1.f0
  have W_1_f1 := W_1.f1
  go_wp2_with fail
  refine (refat_any _ _ _).mono ?_
  rintro e w2 ⟨rfl, y2⟩
  have D_2 := D_1.on y2
  have S_2 := S_1.on y2
  have X_2 := X_1.on y2
  have F_2 := F_1.on y2
  have W_2 := W_1.on y2
  clear D_1 S_1 X_1 F_1 F_1_c0 F_1_c1 W_1 W_1_c0 W_1_c1 W_1_f0 W_1_f1
  have z2 := Z1.trans (y2.mono Z1.size)
  have Z2 := z2
  have cW2 := CW_1.trans (y2.mono CW_1.size)
  have CW_2 := cW2
  have F_2_c0 := F_2.c0
  have F_2_c1 := F_2.c1
  have W_2_c0 := W_2.c0
  have W_2_c1 := W_2.c1
  have W_2_f0 := W_2.f0
  have W_2_f1 := W_2.f1
  have CW_3 := (CW_2.setCell (p := ⟨w1.heap.size + 1, 0, none⟩) (by simp) (.int .i64 3)).setCell (p := ⟨w1.heap.size + 1, 1, none⟩) (by simp) (.int .i64 (-1))
  have Z3 := (Z2.setCell (p := ⟨w1.heap.size + 1, 0, none⟩) (by have := z1.size; simp; omega) (.int .i64 3)).setCell (p := ⟨w1.heap.size + 1, 1, none⟩) (by have := z1.size; simp; omega) (.int .i64 (-1))
  have D_3 := D_b.on CW_3
  have S_3 := S_b.on CW_3
  have X_3 := X_b.on CW_3
  have F_3 := (F_2.far (p := ⟨w1.heap.size + 1, 0, none⟩) (by first | (simp; done) | (have := y2.size; (try simp at *); omega)) (.int .i64 3)).far (p := ⟨w1.heap.size + 1, 1, none⟩) (by first | (simp; done) | (have := y2.size; (try simp at *); omega)) (.int .i64 (-1))
  have W_3 := (W_2.set0 (.int .i64 3)).set1 (.int .i64 (-1))
  have F_3_c0 := F_3.c0
  have F_3_c1 := F_3.c1
  have W_3_c0 := W_3.c0
  have W_3_c1 := W_3.c1
  have W_3_f0 := W_3.f0
  have W_3_f1 := W_3.f1
  go_wp2_with fail
  refine (trains_true X_3).mono ?_
  rintro e w4 ⟨rfl, y4⟩
  have D_4 := D_3.on y4
  have S_4 := S_3.on y4
  have X_4 := X_3.on y4
  have F_4 := F_3.on y4
  have W_4 := W_3.on y4
  clear D_2 S_2 X_2 F_2 F_2_c0 F_2_c1 W_2 W_2_c0 W_2_c1 W_2_f0 W_2_f1 D_3 S_3 X_3 F_3 F_3_c0 F_3_c1 W_3 W_3_c0 W_3_c1 W_3_f0 W_3_f1
  have z4 := Z3.trans (y4.mono Z3.size)
  have Z4 := z4
  have cW4 := CW_3.trans (y4.mono CW_3.size)
  have CW_4 := cW4
  have F_4_c0 := F_4.c0
  have F_4_c1 := F_4.c1
  have W_4_c0 := W_4.c0
  have W_4_c1 := W_4.c1
  have W_4_f0 := W_4.f0
  have W_4_f1 := W_4.f1
  go_wp2_with fail
  refine (trains_true X_4).mono ?_
  rintro e w5 ⟨rfl, y5⟩
  have D_5 := D_4.on y5
  have S_5 := S_4.on y5
  have X_5 := X_4.on y5
  have F_5 := F_4.on y5
  have W_5 := W_4.on y5
  clear D_4 S_4 X_4 F_4 F_4_c0 F_4_c1 W_4 W_4_c0 W_4_c1 W_4_f0 W_4_f1
  have z5 := Z4.trans (y5.mono Z4.size)
  have Z5 := z5
  have cW5 := CW_4.trans (y5.mono CW_4.size)
  have CW_5 := cW5
  have F_5_c0 := F_5.c0
  have F_5_c1 := F_5.c1
  have W_5_c0 := W_5.c0
  have W_5_c1 := W_5.c1
  have W_5_f0 := W_5.f0
  have W_5_f1 := W_5.f1
  go_wp2
  go_ret
  exact ⟨rfl, Z5⟩
set_option maxRecDepth 100000 in
set_option maxHeartbeats 1600000 in
theorem dn_sam {B : Option Addr} {m k : Nat} {dd : List Nat} {A : Option Addr} {n c : Nat} {xs : List SItem} {si mx : Int} (hdB : ByteL dd) (hl : m ≤ 512) {code idx : Int} (hF : SFault xs (-2) code idx) (hc : code ≠ 0) {w : World} (hd : Rd w B m k (bcells dd)) (h : RdSS w A n c xs) (hm : Mx w mx) :
    Calls Try.prog 4 #[.slice B m k, .slice A n c, .int .i64 si] w fun e w' => e = .returned (.bool true) ∧ Below w.heap.size w w' := by
  have HDB := Lib.hid hdB
  clear hdB
  have hdc := Reads.cap hd
  have hdm := Reads.capMax hd
  unfold maxLen at hdm
  have hdn := Reads.len hd
  rw [bcells_length] at hdn
  have kl : decide ((512 : Int) < (m : Int)) = false := by simp; omega
  have hc2 : (code == 0) = false := by rw [beq_eq_false_iff_ne]; exact hc
  have hc3 : (code != 0) = true := by rw [bne_iff_ne]; exact hc
  have HF := Lib.hid hF
  have HC := Lib.hid hc
  clear hF hc
  have D_0 := hd
  have S_0 := h
  have X_0 := hm
  have Z0 := Below.refl w.heap.size w
  go_enter Try.func4, Try.ntmps4
  go_wp2_with fail
  refine (dnext_sam S_0 D_0 si code idx hl HF.out HC.out).mono ?_
  rintro e w1 ⟨rfl, y1⟩
  have D_1 := ((D_0.on y1).alloc (.cells #[.int .i64 code, .int .i64 idx] 25)).alloc (.cells #[.int .i64 0, .int .i64 0] 25)
  have S_1 := ((S_0.on y1).alloc (.cells #[.int .i64 code, .int .i64 idx] 25)).alloc (.cells #[.int .i64 0, .int .i64 0] 25)
  have X_1 := ((X_0.on y1).alloc (.cells #[.int .i64 code, .int .i64 idx] 25)).alloc (.cells #[.int .i64 0, .int .i64 0] 25)
  have D_b := D_0.on y1
  have S_b := S_0.on y1
  have X_b := X_0.on y1
  have F_1 := ((Two.new w1 25 (.int .i64 code) (.int .i64 idx))).alloc (.cells #[.int .i64 0, .int .i64 0] 25)
  have W_1 := (Two.new1 w1 (.cells #[.int .i64 code, .int .i64 idx] 25) 25 (.int .i64 0) (.int .i64 0))
  clear D_0 S_0 X_0
  have z1 := Z0.trans (y1.mono Z0.size)
  have Z1 := ((z1).alloc (by have := z1.size; omega) (.cells #[.int .i64 code, .int .i64 idx] 25)).alloc (by have := z1.size; simp; omega) (.cells #[.int .i64 0, .int .i64 0] 25)
  have CW_1 := ((Below.refl w1.heap.size w1).alloc (by simp) (.cells #[.int .i64 code, .int .i64 idx] 25)).alloc (by simp) (.cells #[.int .i64 0, .int .i64 0] 25)
  have F_1_c0 := F_1.c0
  have F_1_c1 := F_1.c1
  have W_1_c0 := W_1.c0
  have W_1_c1 := W_1.c1
  have W_1_f0 := W_1.f0
  have W_1_f1 := W_1.f1
  go_wp2_with fail
  refine (samfault_any S_1 (-2) code idx HF.out).mono ?_
  rintro e w2 ⟨rfl, y2⟩
  have D_2 := D_1.on y2
  have S_2 := S_1.on y2
  have X_2 := X_1.on y2
  have F_2 := F_1.on y2
  have W_2 := W_1.on y2
  clear D_1 S_1 X_1 F_1 F_1_c0 F_1_c1 W_1 W_1_c0 W_1_c1 W_1_f0 W_1_f1
  have z2 := Z1.trans (y2.mono Z1.size)
  have Z2 := z2
  have cW2 := CW_1.trans (y2.mono CW_1.size)
  have CW_2 := cW2
  have F_2_c0 := F_2.c0
  have F_2_c1 := F_2.c1
  have W_2_c0 := W_2.c0
  have W_2_c1 := W_2.c1
  have W_2_f0 := W_2.f0
  have W_2_f1 := W_2.f1
  have CW_3 := (CW_2.setCell (p := ⟨w1.heap.size + 1, 0, none⟩) (by simp) (.int .i64 code)).setCell (p := ⟨w1.heap.size + 1, 1, none⟩) (by simp) (.int .i64 idx)
  have Z3 := (Z2.setCell (p := ⟨w1.heap.size + 1, 0, none⟩) (by have := z1.size; simp; omega) (.int .i64 code)).setCell (p := ⟨w1.heap.size + 1, 1, none⟩) (by have := z1.size; simp; omega) (.int .i64 idx)
  have D_3 := D_b.on CW_3
  have S_3 := S_b.on CW_3
  have X_3 := X_b.on CW_3
  have F_3 := (F_2.far (p := ⟨w1.heap.size + 1, 0, none⟩) (by first | (simp; done) | (have := y2.size; (try simp at *); omega)) (.int .i64 code)).far (p := ⟨w1.heap.size + 1, 1, none⟩) (by first | (simp; done) | (have := y2.size; (try simp at *); omega)) (.int .i64 idx)
  have W_3 := (W_2.set0 (.int .i64 code)).set1 (.int .i64 idx)
  have F_3_c0 := F_3.c0
  have F_3_c1 := F_3.c1
  have W_3_c0 := W_3.c0
  have W_3_c1 := W_3.c1
  have W_3_f0 := W_3.f0
  have W_3_f1 := W_3.f1
  go_wp2_with fail
  refine (trains_true X_3).mono ?_
  rintro e w4 ⟨rfl, y4⟩
  have D_4 := D_3.on y4
  have S_4 := S_3.on y4
  have X_4 := X_3.on y4
  have F_4 := F_3.on y4
  have W_4 := W_3.on y4
  clear D_2 S_2 X_2 F_2 F_2_c0 F_2_c1 W_2 W_2_c0 W_2_c1 W_2_f0 W_2_f1 D_3 S_3 X_3 F_3 F_3_c0 F_3_c1 W_3 W_3_c0 W_3_c1 W_3_f0 W_3_f1
  have z4 := Z3.trans (y4.mono Z3.size)
  have Z4 := z4
  have cW4 := CW_3.trans (y4.mono CW_3.size)
  have CW_4 := cW4
  have F_4_c0 := F_4.c0
  have F_4_c1 := F_4.c1
  have W_4_c0 := W_4.c0
  have W_4_c1 := W_4.c1
  have W_4_f0 := W_4.f0
  have W_4_f1 := W_4.f1
  go_wp2_with fail
  refine (trains_true X_4).mono ?_
  rintro e w5 ⟨rfl, y5⟩
  have D_5 := D_4.on y5
  have S_5 := S_4.on y5
  have X_5 := X_4.on y5
  have F_5 := F_4.on y5
  have W_5 := W_4.on y5
  clear D_4 S_4 X_4 F_4 F_4_c0 F_4_c1 W_4 W_4_c0 W_4_c1 W_4_f0 W_4_f1
  have z5 := Z4.trans (y5.mono Z4.size)
  have Z5 := z5
  have cW5 := CW_4.trans (y5.mono CW_4.size)
  have CW_5 := cW5
  have F_5_c0 := F_5.c0
  have F_5_c1 := F_5.c1
  have W_5_c0 := W_5.c0
  have W_5_c1 := W_5.c1
  have W_5_f0 := W_5.f0
  have W_5_f1 := W_5.f1
  go_wp2
  go_ret
  exact ⟨rfl, Z5⟩
set_option maxRecDepth 100000 in
set_option maxHeartbeats 1600000 in
theorem dn_size {B : Option Addr} {m k : Nat} {dd : List Nat} {A : Option Addr} {n c : Nat} {xs : List SItem} {si mx : Int} (hdB : ByteL dd) (hl : m ≤ 512) (hok : SamOk xs) (hs : si < 0 ∨ 512 < si) {w : World} (hd : Rd w B m k (bcells dd)) (h : RdSS w A n c xs) (hm : Mx w mx) :
    Calls Try.prog 4 #[.slice B m k, .slice A n c, .int .i64 si] w fun e w' => e = .returned (.bool true) ∧ Below w.heap.size w w' := by
  have HDB := Lib.hid hdB
  clear hdB
  have hdc := Reads.cap hd
  have hdm := Reads.capMax hd
  unfold maxLen at hdm
  have hdn := Reads.len hd
  rw [bcells_length] at hdn
  have kl : decide ((512 : Int) < (m : Int)) = false := by simp; omega
  have HF := Lib.hid (show SFault xs (-2) 0 0 from .inr (.inr ⟨hok, rfl, rfl⟩))
  have HK := Lib.hid hok
  clear hok
  have HR := Lib.hid hs
  clear hs
  have D_0 := hd
  have S_0 := h
  have X_0 := hm
  have Z0 := Below.refl w.heap.size w
  go_enter Try.func4, Try.ntmps4
  go_wp2_with fail
  refine (dnext_size S_0 D_0 si hl HK.out HR.out).mono ?_
  rintro e w1 ⟨rfl, y1⟩
  have D_1 := ((D_0.on y1).alloc (.cells #[.int .i64 4, .int .i64 (-3)] 25)).alloc (.cells #[.int .i64 0, .int .i64 0] 25)
  have S_1 := ((S_0.on y1).alloc (.cells #[.int .i64 4, .int .i64 (-3)] 25)).alloc (.cells #[.int .i64 0, .int .i64 0] 25)
  have X_1 := ((X_0.on y1).alloc (.cells #[.int .i64 4, .int .i64 (-3)] 25)).alloc (.cells #[.int .i64 0, .int .i64 0] 25)
  have D_b := D_0.on y1
  have S_b := S_0.on y1
  have X_b := X_0.on y1
  have F_1 := ((Two.new w1 25 (.int .i64 4) (.int .i64 (-3)))).alloc (.cells #[.int .i64 0, .int .i64 0] 25)
  have W_1 := (Two.new1 w1 (.cells #[.int .i64 4, .int .i64 (-3)] 25) 25 (.int .i64 0) (.int .i64 0))
  clear D_0 S_0 X_0
  have z1 := Z0.trans (y1.mono Z0.size)
  have Z1 := ((z1).alloc (by have := z1.size; omega) (.cells #[.int .i64 4, .int .i64 (-3)] 25)).alloc (by have := z1.size; simp; omega) (.cells #[.int .i64 0, .int .i64 0] 25)
  have CW_1 := ((Below.refl w1.heap.size w1).alloc (by simp) (.cells #[.int .i64 4, .int .i64 (-3)] 25)).alloc (by simp) (.cells #[.int .i64 0, .int .i64 0] 25)
  have F_1_c0 := F_1.c0
  have F_1_c1 := F_1.c1
  have W_1_c0 := W_1.c0
  have W_1_c1 := W_1.c1
  have W_1_f0 := W_1.f0
  have W_1_f1 := W_1.f1
  go_wp2_with fail
  refine (samfault_any S_1 (-2) 0 0 HF.out).mono ?_
  rintro e w2 ⟨rfl, y2⟩
  have D_2 := D_1.on y2
  have S_2 := S_1.on y2
  have X_2 := X_1.on y2
  have F_2 := F_1.on y2
  have W_2 := W_1.on y2
  clear D_1 S_1 X_1 F_1 F_1_c0 F_1_c1 W_1 W_1_c0 W_1_c1 W_1_f0 W_1_f1
  have z2 := Z1.trans (y2.mono Z1.size)
  have Z2 := z2
  have cW2 := CW_1.trans (y2.mono CW_1.size)
  have CW_2 := cW2
  have F_2_c0 := F_2.c0
  have F_2_c1 := F_2.c1
  have W_2_c0 := W_2.c0
  have W_2_c1 := W_2.c1
  have W_2_f0 := W_2.f0
  have W_2_f1 := W_2.f1
  have CW_3 := (CW_2.setCell (p := ⟨w1.heap.size + 1, 0, none⟩) (by simp) (.int .i64 0)).setCell (p := ⟨w1.heap.size + 1, 1, none⟩) (by simp) (.int .i64 0)
  have Z3 := (Z2.setCell (p := ⟨w1.heap.size + 1, 0, none⟩) (by have := z1.size; simp; omega) (.int .i64 0)).setCell (p := ⟨w1.heap.size + 1, 1, none⟩) (by have := z1.size; simp; omega) (.int .i64 0)
  have D_3 := D_b.on CW_3
  have S_3 := S_b.on CW_3
  have X_3 := X_b.on CW_3
  have F_3 := (F_2.far (p := ⟨w1.heap.size + 1, 0, none⟩) (by first | (simp; done) | (have := y2.size; (try simp at *); omega)) (.int .i64 0)).far (p := ⟨w1.heap.size + 1, 1, none⟩) (by first | (simp; done) | (have := y2.size; (try simp at *); omega)) (.int .i64 0)
  have W_3 := (W_2.set0 (.int .i64 0)).set1 (.int .i64 0)
  have F_3_c0 := F_3.c0
  have F_3_c1 := F_3.c1
  have W_3_c0 := W_3.c0
  have W_3_c1 := W_3.c1
  have W_3_f0 := W_3.f0
  have W_3_f1 := W_3.f1
  go_wp2_with fail
  refine (in_no _ _ _ _ HR.out).mono ?_
  rintro e w9_1 ⟨rfl, rfl⟩
  go_wp2_with fail
  refine (refat_any _ _ _).mono ?_
  rintro e w4 ⟨rfl, y4⟩
  have D_4 := D_3.on y4
  have S_4 := S_3.on y4
  have X_4 := X_3.on y4
  have F_4 := F_3.on y4
  have W_4 := W_3.on y4
  clear D_2 S_2 X_2 F_2 F_2_c0 F_2_c1 W_2 W_2_c0 W_2_c1 W_2_f0 W_2_f1 D_3 S_3 X_3 F_3 F_3_c0 F_3_c1 W_3 W_3_c0 W_3_c1 W_3_f0 W_3_f1
  have z4 := Z3.trans (y4.mono Z3.size)
  have Z4 := z4
  have cW4 := CW_3.trans (y4.mono CW_3.size)
  have CW_4 := cW4
  have F_4_c0 := F_4.c0
  have F_4_c1 := F_4.c1
  have W_4_c0 := W_4.c0
  have W_4_c1 := W_4.c1
  have W_4_f0 := W_4.f0
  have W_4_f1 := W_4.f1
  have CW_5 := (CW_4.setCell (p := ⟨w1.heap.size + 1, 0, none⟩) (by simp) (.int .i64 4)).setCell (p := ⟨w1.heap.size + 1, 1, none⟩) (by simp) (.int .i64 (-3))
  have Z5 := (Z4.setCell (p := ⟨w1.heap.size + 1, 0, none⟩) (by have := z1.size; simp; omega) (.int .i64 4)).setCell (p := ⟨w1.heap.size + 1, 1, none⟩) (by have := z1.size; simp; omega) (.int .i64 (-3))
  have D_5 := D_b.on CW_5
  have S_5 := S_b.on CW_5
  have X_5 := X_b.on CW_5
  have F_5 := (F_4.far (p := ⟨w1.heap.size + 1, 0, none⟩) (by first | (simp; done) | (have := y2.size; have := y3.size; have := y4.size; (try simp at *); omega)) (.int .i64 4)).far (p := ⟨w1.heap.size + 1, 1, none⟩) (by first | (simp; done) | (have := y2.size; have := y3.size; have := y4.size; (try simp at *); omega)) (.int .i64 (-3))
  have W_5 := (W_4.set0 (.int .i64 4)).set1 (.int .i64 (-3))
  have F_5_c0 := F_5.c0
  have F_5_c1 := F_5.c1
  have W_5_c0 := W_5.c0
  have W_5_c1 := W_5.c1
  have W_5_f0 := W_5.f0
  have W_5_f1 := W_5.f1
  go_wp2_with fail
  refine (trains_true X_5).mono ?_
  rintro e w6 ⟨rfl, y6⟩
  have D_6 := D_5.on y6
  have S_6 := S_5.on y6
  have X_6 := X_5.on y6
  have F_6 := F_5.on y6
  have W_6 := W_5.on y6
  clear D_4 S_4 X_4 F_4 F_4_c0 F_4_c1 W_4 W_4_c0 W_4_c1 W_4_f0 W_4_f1 D_5 S_5 X_5 F_5 F_5_c0 F_5_c1 W_5 W_5_c0 W_5_c1 W_5_f0 W_5_f1
  have z6 := Z5.trans (y6.mono Z5.size)
  have Z6 := z6
  have cW6 := CW_5.trans (y6.mono CW_5.size)
  have CW_6 := cW6
  have F_6_c0 := F_6.c0
  have F_6_c1 := F_6.c1
  have W_6_c0 := W_6.c0
  have W_6_c1 := W_6.c1
  have W_6_f0 := W_6.f0
  have W_6_f1 := W_6.f1
  go_wp2_with fail
  refine (trains_true X_6).mono ?_
  rintro e w7 ⟨rfl, y7⟩
  have D_7 := D_6.on y7
  have S_7 := S_6.on y7
  have X_7 := X_6.on y7
  have F_7 := F_6.on y7
  have W_7 := W_6.on y7
  clear D_6 S_6 X_6 F_6 F_6_c0 F_6_c1 W_6 W_6_c0 W_6_c1 W_6_f0 W_6_f1
  have z7 := Z6.trans (y7.mono Z6.size)
  have Z7 := z7
  have cW7 := CW_6.trans (y7.mono CW_6.size)
  have CW_7 := cW7
  have F_7_c0 := F_7.c0
  have F_7_c1 := F_7.c1
  have W_7_c0 := W_7.c0
  have W_7_c1 := W_7.c1
  have W_7_f0 := W_7.f0
  have W_7_f1 := W_7.f1
  go_wp2
  go_ret
  exact ⟨rfl, Z7⟩
set_option maxRecDepth 100000 in
set_option maxHeartbeats 1600000 in
theorem dn_ok {B : Option Addr} {m k : Nat} {dd : List Nat} {A : Option Addr} {n c : Nat} {xs : List SItem} {si mx : Int} (hdB : ByteL dd) (hl : m ≤ 512) {size : Nat} (hs : size ≤ 512) (hsi : si = (size : Nat)) (hok : SamOk xs) {w : World} (hd : Rd w B m k (bcells dd)) (h : RdSS w A n c xs) (hm : Mx w mx) :
    Calls Try.prog 4 #[.slice B m k, .slice A n c, .int .i64 si] w fun e w' => e = .returned (.bool true) ∧ Below w.heap.size w w' := by
  have HDB := Lib.hid hdB
  clear hdB
  have hdc := Reads.cap hd
  have hdm := Reads.capMax hd
  unfold maxLen at hdm
  have hdn := Reads.len hd
  rw [bcells_length] at hdn
  have kl : decide ((512 : Int) < (m : Int)) = false := by simp; omega
  have HF := Lib.hid (show SFault xs (-2) 0 0 from .inr (.inr ⟨hok, rfl, rfl⟩))
  have HK := Lib.hid hok
  clear hok
  have HSI := Lib.hid hsi
  clear hsi
  obtain ⟨j0, bi, bz0, bz1, bz2⟩ := info_parts byte_info
  have BZ := Lib.hid bz1
  have D_0 := hd
  have S_0 := h
  have X_0 := hm
  have Z0 := Below.refl w.heap.size w
  go_enter Try.func4, Try.ntmps4
  go_wp2_with fail
  refine (dnext_ok S_0 D_0 X_0.cell X_0.lt hl HK.out size hs _ HSI.out).mono ?_
  rintro e w1 ⟨A1, n1, c1, l, hS, rfl, P1, y1⟩
  have D_1 := ((D_0.on y1).alloc (.cells #[.int .i64 0, .int .i64 0] 25)).alloc (.cells #[.int .i64 0, .int .i64 0] 25)
  have S_1 := ((S_0.on y1).alloc (.cells #[.int .i64 0, .int .i64 0] 25)).alloc (.cells #[.int .i64 0, .int .i64 0] 25)
  have X_1 := ((X_0.on y1).alloc (.cells #[.int .i64 0, .int .i64 0] 25)).alloc (.cells #[.int .i64 0, .int .i64 0] 25)
  have D_b := D_0.on y1
  have S_b := S_0.on y1
  have X_b := X_0.on y1
  have P_1 := ((P1).alloc (.cells #[.int .i64 0, .int .i64 0] 25)).alloc (.cells #[.int .i64 0, .int .i64 0] 25)
  have F_1 := ((Two.new w1 25 (.int .i64 0) (.int .i64 0))).alloc (.cells #[.int .i64 0, .int .i64 0] 25)
  have W_1 := (Two.new1 w1 (.cells #[.int .i64 0, .int .i64 0] 25) 25 (.int .i64 0) (.int .i64 0))
  clear D_0 S_0 X_0
  have z1 := Z0.trans (y1.mono Z0.size)
  have Z1 := ((z1).alloc (by have := z1.size; omega) (.cells #[.int .i64 0, .int .i64 0] 25)).alloc (by have := z1.size; simp; omega) (.cells #[.int .i64 0, .int .i64 0] 25)
  have CW_1 := ((Below.refl w1.heap.size w1).alloc (by simp) (.cells #[.int .i64 0, .int .i64 0] 25)).alloc (by simp) (.cells #[.int .i64 0, .int .i64 0] 25)
  have F_1_c0 := F_1.c0
  have F_1_c1 := F_1.c1
  have W_1_c0 := W_1.c0
  have W_1_c1 := W_1.c1
  have W_1_f0 := W_1.f0
  have W_1_f1 := W_1.f1
  have HSG := Lib.hid hS
  clear hS
  go_wp2_with fail
  refine (samfault_any S_1 (-2) 0 0 HF.out).mono ?_
  rintro e w2 ⟨rfl, y2⟩
  have D_2 := D_1.on y2
  have S_2 := S_1.on y2
  have X_2 := X_1.on y2
  have P_2 := P_1.on y2
  have F_2 := F_1.on y2
  have W_2 := W_1.on y2
  clear D_1 S_1 X_1 P_1 F_1 F_1_c0 F_1_c1 W_1 W_1_c0 W_1_c1 W_1_f0 W_1_f1
  have z2 := Z1.trans (y2.mono Z1.size)
  have Z2 := z2
  have cW2 := CW_1.trans (y2.mono CW_1.size)
  have CW_2 := cW2
  have F_2_c0 := F_2.c0
  have F_2_c1 := F_2.c1
  have W_2_c0 := W_2.c0
  have W_2_c1 := W_2.c1
  have W_2_f0 := W_2.f0
  have W_2_f1 := W_2.f1
  have CW_3 := (CW_2.setCell (p := ⟨w1.heap.size + 1, 0, none⟩) (by simp) (.int .i64 0)).setCell (p := ⟨w1.heap.size + 1, 1, none⟩) (by simp) (.int .i64 0)
  have Z3 := (Z2.setCell (p := ⟨w1.heap.size + 1, 0, none⟩) (by have := z1.size; simp; omega) (.int .i64 0)).setCell (p := ⟨w1.heap.size + 1, 1, none⟩) (by have := z1.size; simp; omega) (.int .i64 0)
  have D_3 := D_b.on CW_3
  have S_3 := S_b.on CW_3
  have X_3 := X_b.on CW_3
  have P_3 := P1.on CW_3
  have F_3 := (F_2.far (p := ⟨w1.heap.size + 1, 0, none⟩) (by first | (simp; done) | (have := y2.size; (try simp at *); omega)) (.int .i64 0)).far (p := ⟨w1.heap.size + 1, 1, none⟩) (by first | (simp; done) | (have := y2.size; (try simp at *); omega)) (.int .i64 0)
  have W_3 := (W_2.set0 (.int .i64 0)).set1 (.int .i64 0)
  have F_3_c0 := F_3.c0
  have F_3_c1 := F_3.c1
  have W_3_c0 := W_3.c0
  have W_3_c1 := W_3.c1
  have W_3_f0 := W_3.f0
  have W_3_f1 := W_3.f1
  clear P1
  go_wp2_with fail
  refine (in_yes _ _ _ _ (by have := HSI.out; omega) (by have := HSI.out; omega)).mono ?_
  rintro e w9_1 ⟨rfl, rfl⟩
  go_wp2_with fail
  refine (trains_true X_3).mono ?_
  rintro e w4 ⟨rfl, y4⟩
  have D_4 := D_3.on y4
  have S_4 := S_3.on y4
  have X_4 := X_3.on y4
  have P_4 := P_3.on y4
  have F_4 := F_3.on y4
  have W_4 := W_3.on y4
  clear D_2 S_2 X_2 P_2 F_2 F_2_c0 F_2_c1 W_2 W_2_c0 W_2_c1 W_2_f0 W_2_f1 D_3 S_3 X_3 P_3 F_3 F_3_c0 F_3_c1 W_3 W_3_c0 W_3_c1 W_3_f0 W_3_f1
  have z4 := Z3.trans (y4.mono Z3.size)
  have Z4 := z4
  have cW4 := CW_3.trans (y4.mono CW_3.size)
  have CW_4 := cW4
  have F_4_c0 := F_4.c0
  have F_4_c1 := F_4.c1
  have W_4_c0 := W_4.c0
  have W_4_c1 := W_4.c1
  have W_4_f0 := W_4.f0
  have W_4_f1 := W_4.f1
  go_wp2_with fail
  refine (dtrain_ok S_4 HK.out X_4.cell X_4.lt size hs _ HSI.out).mono ?_
  rintro e w5 ⟨A2, n2, c2, l2, hS, rfl, T1, y5⟩
  have D_5 := (D_4.on y5).alloc (.cells #[.int .i64 0, .int .i64 0] 25)
  have S_5 := (S_4.on y5).alloc (.cells #[.int .i64 0, .int .i64 0] 25)
  have X_5 := (X_4.on y5).alloc (.cells #[.int .i64 0, .int .i64 0] 25)
  have P_5 := (P_4.on y5).alloc (.cells #[.int .i64 0, .int .i64 0] 25)
  have F_5 := (F_4.on y5).alloc (.cells #[.int .i64 0, .int .i64 0] 25)
  have W_5 := (W_4.on y5).alloc (.cells #[.int .i64 0, .int .i64 0] 25)
  have T_5 := ((Rd.own T1)).alloc (.cells #[.int .i64 0, .int .i64 0] 25)
  have G_5 := (Two.new w5 25 (.int .i64 0) (.int .i64 0))
  clear D_4 S_4 X_4 P_4 F_4 F_4_c0 F_4_c1 W_4 W_4_c0 W_4_c1 W_4_f0 W_4_f1
  have z5 := Z4.trans (y5.mono Z4.size)
  have Z5 := (z5).alloc (by have := z5.size; omega) (.cells #[.int .i64 0, .int .i64 0] 25)
  have cW5 := CW_4.trans (y5.mono CW_4.size)
  have CW_5 := (cW5).alloc (by have := cW5.size; omega) (.cells #[.int .i64 0, .int .i64 0] 25)
  have F_5_c0 := F_5.c0
  have F_5_c1 := F_5.c1
  have W_5_c0 := W_5.c0
  have W_5_c1 := W_5.c1
  have W_5_f0 := W_5.f0
  have W_5_f1 := W_5.f1
  have G_5_c0 := G_5.c0
  have G_5_c1 := G_5.c1
  obtain rfl : l2 = l := hS.unique HSG.out (fun _ => rfl)
  clear hS T1
  have hn2 := Reads.len T_5
  rw [bcells_length] at hn2
  have hts := traind_size size l2
  have htb := traind_byte size l2
  have hz := Reads.cap T_5
  have hz2 := Reads.capMax T_5
  unfold maxLen at hz2
  obtain ⟨tt, htt⟩ : ∃ tt, tt = traind size l2 := ⟨_, rfl⟩
  have HT1 := T_5
  have HP1 := P_5
  rw [← htt] at HT1 HP1 hn2 hts htb
  have HTB := Lib.hid htb
  obtain ⟨WW, hWW⟩ : ∃ WW, WW = ((w5).alloc (.cells #[.int .i64 0, .int .i64 0] 25)) := ⟨_, rfl⟩
  have HG1 := G_5
  have HD1 := D_5
  have HZ1 := Z5
  rw [← hWW] at HT1 HP1 HG1 HD1 HZ1
  go_upto_region 13 with (fail)
  rw [← hWW]
  clear D_5 S_5 X_5 P_5 F_5 W_5 T_5 G_5 Z5 F_5_c0 F_5_c1 W_5_c0 W_5_c1 G_5_c0 G_5_c1 W_5_f0 W_5_f1 hWW htb htt
  have g0 := HG1.c0
  go_wp2_with (at_builtin; refine wpList_append_any _ rfl _ _ _ rfl WW.heap.size 5 j0 _ 1 Try.underlying23 bi bz0 bz1 bz2 rfl _ _ _ rfl (World.ownsRow_nil _ _ _ _) _ _ m k _ rfl HD1 (bcells_one _) ?g1 ?g2 (Nat.le_refl _) ?_)
  case g1 => unfold maxLen; omega
  case g2 => omega
  intro A6 c6 w6 o6 gr6 a6
  have Y6 := (Below.refl WW.heap.size WW).grown gr6 (Nat.le_refl _) (fun g hg => by cases hg)
  have z0 : 0 + m = m := Nat.zero_add m
  (try simp only [Nat.zero_add, List.nil_append] at o6)
  (try rw [z0])
  have HO6 := Lib.hid o6
  have HY6 := Lib.hid Y6
  have hY6s := Y6.size
  have HT6 := HT1.on Y6
  clear o6 gr6 a6 Y6 z0
  obtain ⟨LL, hLL⟩ : ∃ LL, LL = dd ++ tt := ⟨_, rfl⟩
  have hLn : m + n2 = LL.length := by rw [hLL, List.length_append, hdn, hn2]
  have HLN := Lib.hid hLn
  have HLC := Lib.hid (show bcells dd ++ bcells tt = bcells LL by rw [hLL, bcells_append])
  have HLL := Lib.hid hLL
  clear hLL hLn
  go_wp2_with (at_builtin; refine wpList_append_any _ rfl _ _ _ rfl WW.heap.size 5 j0 _ 1 Try.underlying23 bi bz0 bz1 bz2 rfl _ _ _ rfl HO6.out _ _ n2 c2 _ rfl HT6 (bcells_one _) ?g1 ?g2 hY6s ?_)
  case g1 => unfold maxLen; omega
  case g2 => omega
  intro A10 c10 w10 o10 gr10 a10
  have Y10 := below_grown HY6.out HO6.out gr10 (Nat.le_refl _) hY6s
  rw [HLC.out, HLN.out] at o10
  rw [HLN.out]
  have R10 := Rd.own o10
  have hc10 := Reads.cap R10
  have hm10 := Reads.capMax R10
  have hLn := HLN.out
  have hLL := HLL.out
  unfold maxLen at hm10
  have G10 := HG1.on Y10
  have j0 := G10.c0
  obtain ⟨F, hF⟩ : ∃ F, F = LL.length - size := ⟨_, rfl⟩
  have hs0 : 0 ≤ si := by have := HSI.out; omega
  have hs1 : si ≤ 512 := by have := HSI.out; omega
  have hmax : max (0 : Int) ((LL.length : Int) - si) = (F : Int) := by have := HSI.out; omega
  have hF0 : F ≤ LL.length := by omega
  obtain ⟨A5, hrun5, hr5⟩ := Rd.tail (P := Try.prog) (A := A10) (c := c10) 23 5 (by assumption) Try.underlying23 bi BZ.out hc10 F hF0
  have hr6 := hr5 w10 _ R10
  rw [bcells_drop] at hr6
  rw [← hLL, ← hF] at HP1
  have HSM := Lib.hid (same_q (HP1.on Y10) hr6 (ByteL.drop (by rw [hLL]; exact ByteL.append HDB.out HTB.out) F) (ByteL.drop (by rw [hLL]; exact ByteL.append HDB.out HTB.out) F) true (by simp))
  have HY10 := Lib.hid (HZ1.trans (Y10.mono HZ1.size))
  clear hLn hLL o10 gr10 a10 Y10 hr5 hr6 HP1 HO6 HT6 hF
  go_wp2_with fail
  refine HSM.out.mono ?_
  rintro e w9 ⟨rfl, rfl⟩
  go_wp2
  go_ret
  exact ⟨rfl, HY10.out⟩
theorem dn_all {B : Option Addr} {m k : Nat} {dd : List Nat} {A : Option Addr} {n c : Nat} {xs : List SItem} {si mx : Int} (hdB : ByteL dd) {w : World} (hd : Rd w B m k (bcells dd)) (h : RdSS w A n c xs) (hm : Mx w mx) :
    Calls Try.prog 4 #[.slice B m k, .slice A n c, .int .i64 si] w fun e w' => e = .returned (.bool true) ∧ Below w.heap.size w w' := by
  by_cases hl : 512 < m
  · exact dn_long hdB hl hd h hm
  · obtain ⟨code, idx, hF⟩ := sfault_ex xs (-2)
    by_cases hc : code = 0
    · obtain ⟨hok, rfl⟩ := sfault_ok hF hc
      by_cases hs : si < 0 ∨ 512 < si
      · exact dn_size hdB (by omega) hok hs hd h hm
      · obtain ⟨size, hsi⟩ := Int.eq_ofNat_of_zero_le (show 0 ≤ si by omega)
        exact dn_ok hdB (by omega) (by omega) hsi hok hd h hm
    · exact dn_sam hdB (by omega) hF hc hd h hm
end PB
end Go.Proofs.Ytnahmiglogddaaa
