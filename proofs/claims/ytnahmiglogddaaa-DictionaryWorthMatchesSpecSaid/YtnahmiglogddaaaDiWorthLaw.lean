/-
  What a dictionary saves, with all faults, is as specified, and is never negative: the walk of the statement DictionaryWorthMatchesSpec.
-/
import Derived.Test.YtnahmiglogddaaaRows
import Derived.Test.YtnahmiglogddaaaDiTwo
import Derived.Deep.RegionHeld3
import Derived.Deep.DrawnRows
import Derived.Deep.Cut
import Derived.Lib.SlBytesConst
namespace Go.Proofs.Ytnahmiglogddaaa
open Go.RowKit
attribute [local go_sem ↓] Go.wp_at_zero Go.wp_at_succ
set_option linter.unusedVariables false
set_option linter.unusedSimpArgs false
namespace PB
set_option maxRecDepth 100000 in
set_option maxHeartbeats 1600000 in
theorem dw_sam {A : Option Addr} {n c : Nat} {xs : List SItem} {mx : Int} {B : Option Addr} {m k : Nat} {dd : List Nat} {code idx : Int} (hF : SFault xs (-1) code idx) (hc : code ≠ 0) {w : World} (h : RdSS w A n c xs) (hd : Rd w B m k (bcells dd)) (hm : Mx w mx) :
    Calls Try.prog 7 #[.slice A n c, .slice B m k] w fun e w' => e = .returned (.bool true) ∧ Below w.heap.size w w' := by
  have hc2 : (code == 0) = false := by rw [beq_eq_false_iff_ne]; exact hc
  have hc3 : (code != 0) = true := by rw [bne_iff_ne]; exact hc
  have HF := Lib.hid hF
  have HC := Lib.hid hc
  clear hF hc
  have S_0 := h
  have D_0 := hd
  have X_0 := hm
  have Z0 := Below.refl w.heap.size w
  go_enter Try.func7, Try.ntmps7
  go_wp2_with fail
  refine (dworth_sam S_0 D_0 code idx HF.out HC.out).mono ?_
  rintro e w1 ⟨rfl, y1⟩
  have S_1 := (S_0.on y1).alloc (.cells #[.int .i64 code, .int .i64 idx] 25)
  have D_1 := (D_0.on y1).alloc (.cells #[.int .i64 code, .int .i64 idx] 25)
  have X_1 := (X_0.on y1).alloc (.cells #[.int .i64 code, .int .i64 idx] 25)
  have F_1 := (Two.new w1 25 (.int .i64 code) (.int .i64 idx))
  clear S_0 D_0 X_0
  have z1 := Z0.trans (y1.mono Z0.size)
  have Z1 := (z1).alloc (by have := z1.size; omega) (.cells #[.int .i64 code, .int .i64 idx] 25)
  have F_1_c0 := F_1.c0
  have F_1_c1 := F_1.c1
  go_wp2_with fail
  refine (samfault_any S_1 (-1) code idx HF.out).mono ?_
  rintro e w2 ⟨rfl, y2⟩
  have S_2 := (S_1.on y2).alloc (.cells #[.int .i64 code, .int .i64 idx] 25)
  have D_2 := (D_1.on y2).alloc (.cells #[.int .i64 code, .int .i64 idx] 25)
  have X_2 := (X_1.on y2).alloc (.cells #[.int .i64 code, .int .i64 idx] 25)
  have F_2 := (F_1.on y2).alloc (.cells #[.int .i64 code, .int .i64 idx] 25)
  have W_2 := (Two.new w2 25 (.int .i64 code) (.int .i64 idx))
  clear S_1 D_1 X_1 F_1 F_1_c0 F_1_c1
  have z2 := Z1.trans (y2.mono Z1.size)
  have Z2 := (z2).alloc (by have := z2.size; omega) (.cells #[.int .i64 code, .int .i64 idx] 25)
  have F_2_c0 := F_2.c0
  have F_2_c1 := F_2.c1
  have W_2_c0 := W_2.c0
  have W_2_c1 := W_2.c1
  have W_2_f0 := W_2.f0
  have W_2_f1 := W_2.f1
  go_wp2_with fail
  refine (trains_true X_2).mono ?_
  rintro e w3 ⟨rfl, y3⟩
  have S_3 := S_2.on y3
  have D_3 := D_2.on y3
  have X_3 := X_2.on y3
  have F_3 := F_2.on y3
  have W_3 := W_2.on y3
  clear S_2 D_2 X_2 F_2 F_2_c0 F_2_c1 W_2 W_2_c0 W_2_c1 W_2_f0 W_2_f1
  have z3 := Z2.trans (y3.mono Z2.size)
  have Z3 := z3
  have F_3_c0 := F_3.c0
  have F_3_c1 := F_3.c1
  have W_3_c0 := W_3.c0
  have W_3_c1 := W_3.c1
  have W_3_f0 := W_3.f0
  have W_3_f1 := W_3.f1
  go_wp2_with fail
  refine (trains_true X_3).mono ?_
  rintro e w4 ⟨rfl, y4⟩
  have S_4 := S_3.on y4
  have D_4 := D_3.on y4
  have X_4 := X_3.on y4
  have F_4 := F_3.on y4
  have W_4 := W_3.on y4
  clear S_3 D_3 X_3 F_3 F_3_c0 F_3_c1 W_3 W_3_c0 W_3_c1 W_3_f0 W_3_f1
  have z4 := Z3.trans (y4.mono Z3.size)
  have Z4 := z4
  have F_4_c0 := F_4.c0
  have F_4_c1 := F_4.c1
  have W_4_c0 := W_4.c0
  have W_4_c1 := W_4.c1
  have W_4_f0 := W_4.f0
  have W_4_f1 := W_4.f1
  go_wp2
  go_ret
  exact ⟨rfl, Z4⟩
set_option maxRecDepth 100000 in
set_option maxHeartbeats 1600000 in
theorem dw_long {A : Option Addr} {n c : Nat} {xs : List SItem} {mx : Int} {B : Option Addr} {m k : Nat} {dd : List Nat} (hok : SamOk xs) (hl : 512 < m) {w : World} (h : RdSS w A n c xs) (hd : Rd w B m k (bcells dd)) (hm : Mx w mx) :
    Calls Try.prog 7 #[.slice A n c, .slice B m k] w fun e w' => e = .returned (.bool true) ∧ Below w.heap.size w w' := by
  have HF := Lib.hid (show SFault xs (-1) 0 0 from .inr (.inr ⟨hok, rfl, rfl⟩))
  have HK := Lib.hid hok
  have hdc := Reads.cap hd
  have hdm := Reads.capMax hd
  unfold maxLen at hdm
  have hdn := Reads.len hd
  rw [bcells_length] at hdn
  clear hok
  have kl : decide ((512 : Int) < (m : Int)) = true := by simp; omega
  have S_0 := h
  have D_0 := hd
  have X_0 := hm
  have Z0 := Below.refl w.heap.size w
  go_enter Try.func7, Try.ntmps7
  go_wp2_with fail
  refine (dworth_long S_0 D_0 hl HK.out).mono ?_
  rintro e w1 ⟨rfl, y1⟩
  have S_1 := (S_0.on y1).alloc (.cells #[.int .i64 3, .int .i64 (-2)] 25)
  have D_1 := (D_0.on y1).alloc (.cells #[.int .i64 3, .int .i64 (-2)] 25)
  have X_1 := (X_0.on y1).alloc (.cells #[.int .i64 3, .int .i64 (-2)] 25)
  have F_1 := (Two.new w1 25 (.int .i64 3) (.int .i64 (-2)))
  clear S_0 D_0 X_0
  have z1 := Z0.trans (y1.mono Z0.size)
  have Z1 := (z1).alloc (by have := z1.size; omega) (.cells #[.int .i64 3, .int .i64 (-2)] 25)
  have F_1_c0 := F_1.c0
  have F_1_c1 := F_1.c1
  go_wp2_with fail
  refine (samfault_any S_1 (-1) 0 0 HF.out).mono ?_
  rintro e w2 ⟨rfl, y2⟩
  have S_2 := (S_1.on y2).alloc (.cells #[.int .i64 0, .int .i64 0] 25)
  have D_2 := (D_1.on y2).alloc (.cells #[.int .i64 0, .int .i64 0] 25)
  have X_2 := (X_1.on y2).alloc (.cells #[.int .i64 0, .int .i64 0] 25)
  have F_2 := (F_1.on y2).alloc (.cells #[.int .i64 0, .int .i64 0] 25)
  have S_b := S_1.on y2
  have D_b := D_1.on y2
  have X_b := X_1.on y2
  have F_b := F_1.on y2
  have W_2 := (Two.new w2 25 (.int .i64 0) (.int .i64 0))
  clear S_1 D_1 X_1 F_1 F_1_c0 F_1_c1
  have z2 := Z1.trans (y2.mono Z1.size)
  have Z2 := (z2).alloc (by have := z2.size; omega) (.cells #[.int .i64 0, .int .i64 0] 25)
  have CW_2 := (Below.refl w2.heap.size w2).alloc (by simp) (.cells #[.int .i64 0, .int .i64 0] 25)
  have F_2_c0 := F_2.c0
  have F_2_c1 := F_2.c1
  have W_2_c0 := W_2.c0
  have W_2_c1 := W_2.c1
  have W_2_f0 := W_2.f0
  have W_2_f1 := W_2.f1
  go_wp2_with fail
  refine (refat_any _ _ _).mono ?_
  rintro e w3 ⟨rfl, y3⟩
  have S_3 := S_2.on y3
  have D_3 := D_2.on y3
  have X_3 := X_2.on y3
  have F_3 := F_2.on y3
  have W_3 := W_2.on y3
  clear S_2 D_2 X_2 F_2 F_2_c0 F_2_c1 W_2 W_2_c0 W_2_c1 W_2_f0 W_2_f1
  have z3 := Z2.trans (y3.mono Z2.size)
  have Z3 := z3
  have cW3 := CW_2.trans (y3.mono CW_2.size)
  have CW_3 := cW3
  have F_3_c0 := F_3.c0
  have F_3_c1 := F_3.c1
  have W_3_c0 := W_3.c0
  have W_3_c1 := W_3.c1
  have W_3_f0 := W_3.f0
  have W_3_f1 := W_3.f1
  have CW_4 := (CW_3.setCell (p := ⟨w2.heap.size, 0, none⟩) (by simp) (.int .i64 3)).setCell (p := ⟨w2.heap.size, 1, none⟩) (by simp) (.int .i64 (-2))
  have Z4 := (Z3.setCell (p := ⟨w2.heap.size, 0, none⟩) (by have := z2.size; simp; omega) (.int .i64 3)).setCell (p := ⟨w2.heap.size, 1, none⟩) (by have := z2.size; simp; omega) (.int .i64 (-2))
  have S_4 := S_b.on CW_4
  have D_4 := D_b.on CW_4
  have X_4 := X_b.on CW_4
  have F_4 := F_b.on CW_4
  have W_4 := (W_3.set0 (.int .i64 3)).set1 (.int .i64 (-2))
  have F_4_c0 := F_4.c0
  have F_4_c1 := F_4.c1
  have W_4_c0 := W_4.c0
  have W_4_c1 := W_4.c1
  have W_4_f0 := W_4.f0
  have W_4_f1 := W_4.f1
  go_wp2_with fail
  refine (trains_true X_4).mono ?_
  rintro e w5 ⟨rfl, y5⟩
  have S_5 := S_4.on y5
  have D_5 := D_4.on y5
  have X_5 := X_4.on y5
  have F_5 := F_4.on y5
  have W_5 := W_4.on y5
  clear S_3 D_3 X_3 F_3 F_3_c0 F_3_c1 W_3 W_3_c0 W_3_c1 W_3_f0 W_3_f1 S_4 D_4 X_4 F_4 F_4_c0 F_4_c1 W_4 W_4_c0 W_4_c1 W_4_f0 W_4_f1
  have z5 := Z4.trans (y5.mono Z4.size)
  have Z5 := z5
  have cW5 := CW_4.trans (y5.mono CW_4.size)
  have CW_5 := cW5
  have F_5_c0 := F_5.c0
  have F_5_c1 := F_5.c1
  have W_5_c0 := W_5.c0
  have W_5_c1 := W_5.c1
  have W_5_f0 := W_5.f0
  have W_5_f1 := W_5.f1
  go_wp2_with fail
  refine (trains_true X_5).mono ?_
  rintro e w6 ⟨rfl, y6⟩
  have S_6 := S_5.on y6
  have D_6 := D_5.on y6
  have X_6 := X_5.on y6
  have F_6 := F_5.on y6
  have W_6 := W_5.on y6
  clear S_5 D_5 X_5 F_5 F_5_c0 F_5_c1 W_5 W_5_c0 W_5_c1 W_5_f0 W_5_f1
  have z6 := Z5.trans (y6.mono Z5.size)
  have Z6 := z6
  have cW6 := CW_5.trans (y6.mono CW_5.size)
  have CW_6 := cW6
  have F_6_c0 := F_6.c0
  have F_6_c1 := F_6.c1
  have W_6_c0 := W_6.c0
  have W_6_c1 := W_6.c1
  have W_6_f0 := W_6.f0
  have W_6_f1 := W_6.f1
  go_wp2
  go_ret
  exact ⟨rfl, Z6⟩
set_option maxRecDepth 100000 in
set_option maxHeartbeats 1600000 in
theorem dw_ok {A : Option Addr} {n c : Nat} {xs : List SItem} {mx : Int} {B : Option Addr} {m k : Nat} {dd : List Nat} (hok : SamOk xs) (hl : m ≤ 512) {w : World} (h : RdSS w A n c xs) (hd : Rd w B m k (bcells dd)) (hm : Mx w mx) :
    Calls Try.prog 7 #[.slice A n c, .slice B m k] w fun e w' => e = .returned (.bool true) ∧ Below w.heap.size w w' := by
  have HF := Lib.hid (show SFault xs (-1) 0 0 from .inr (.inr ⟨hok, rfl, rfl⟩))
  have HK := Lib.hid hok
  have hfew := hok.few
  have hnx := h.1
  subst hnx
  have hcap := h.2.1
  have hcm := h.2.2.1
  unfold maxLen at hcm
  have hdc := Reads.cap hd
  have hdm := Reads.capMax hd
  unfold maxLen at hdm
  have hdn := Reads.len hd
  rw [bcells_length] at hdn
  clear hok
  have kl : decide ((512 : Int) < (m : Int)) = false := by simp; omega
  have S_0 := h
  have D_0 := hd
  have X_0 := hm
  have Z0 := Below.refl w.heap.size w
  go_enter Try.func7, Try.ntmps7
  obtain ⟨V, hV⟩ : ∃ V, V = wsum dd xs := ⟨_, rfl⟩
  have HDW := Lib.hid (fun (W : World) (a : RdSS W A xs.length c xs) (b : Rd W B m k (bcells dd)) => (dworth_ok a b hl HK.out))
  rw [← hV] at HDW
  have HV := Lib.hid hV
  clear hV
  go_wp2_with fail
  refine (Calls.mono (HDW.out _ S_0 D_0) (fun e w1 hh => (show e = .returned (.tuple #[.int .i64 V, .agg #[.int .i64 0, .int .i64 0]]) ∧ 0 ≤ V ∧ Below _ _ w1 from ⟨hh.1.1, hh.1.2, hh.2⟩))).mono ?_
  rintro e w1 ⟨rfl, hV0, y1⟩
  have S_1 := (S_0.on y1).alloc (.cells #[.int .i64 0, .int .i64 0] 25)
  have D_1 := (D_0.on y1).alloc (.cells #[.int .i64 0, .int .i64 0] 25)
  have X_1 := (X_0.on y1).alloc (.cells #[.int .i64 0, .int .i64 0] 25)
  have F_1 := (Two.new w1 25 (.int .i64 0) (.int .i64 0))
  clear S_0 D_0 X_0
  have z1 := Z0.trans (y1.mono Z0.size)
  have Z1 := (z1).alloc (by have := z1.size; omega) (.cells #[.int .i64 0, .int .i64 0] 25)
  have F_1_c0 := F_1.c0
  have F_1_c1 := F_1.c1
  have kv : decide ((0 : Int) ≤ V) = true := by simp; omega
  go_wp2_with fail
  refine (samfault_any S_1 (-1) 0 0 HF.out).mono ?_
  rintro e w2 ⟨rfl, y2⟩
  have S_2 := (S_1.on y2).alloc (.cells #[.int .i64 0, .int .i64 0] 25)
  have D_2 := (D_1.on y2).alloc (.cells #[.int .i64 0, .int .i64 0] 25)
  have X_2 := (X_1.on y2).alloc (.cells #[.int .i64 0, .int .i64 0] 25)
  have F_2 := (F_1.on y2).alloc (.cells #[.int .i64 0, .int .i64 0] 25)
  have W_2 := (Two.new w2 25 (.int .i64 0) (.int .i64 0))
  clear S_1 D_1 X_1 F_1 F_1_c0 F_1_c1
  have z2 := Z1.trans (y2.mono Z1.size)
  have Z2 := (z2).alloc (by have := z2.size; omega) (.cells #[.int .i64 0, .int .i64 0] 25)
  have F_2_c0 := F_2.c0
  have F_2_c1 := F_2.c1
  have W_2_c0 := W_2.c0
  have W_2_c1 := W_2.c1
  have W_2_f0 := W_2.f0
  have W_2_f1 := W_2.f1
  go_wp2_with fail
  refine (trains_true X_2).mono ?_
  rintro e w3 ⟨rfl, y3⟩
  have S_3 := S_2.on y3
  have D_3 := D_2.on y3
  have X_3 := X_2.on y3
  have F_3 := F_2.on y3
  have W_3 := W_2.on y3
  clear S_2 D_2 X_2 F_2 F_2_c0 F_2_c1 W_2 W_2_c0 W_2_c1 W_2_f0 W_2_f1
  have z3 := Z2.trans (y3.mono Z2.size)
  have Z3 := z3
  have F_3_c0 := F_3.c0
  have F_3_c1 := F_3.c1
  have W_3_c0 := W_3.c0
  have W_3_c1 := W_3.c1
  have W_3_f0 := W_3.f0
  have W_3_f1 := W_3.f1
  go_wp2_with fail
  have HS1 := Lib.hid S_3
  have HD1 := Lib.hid D_3
  have HZ1 := Lib.hid Z3
  obtain ⟨WW, hWW⟩ : ∃ WW, WW = w3 := ⟨_, rfl⟩
  rw [← hWW] at HS1 HD1 HZ1
  rw [← hWW]
  clear S_3 D_3 X_3 F_3 W_3 Z3 F_3_c0 F_3_c1 W_3_c0 W_3_c1 W_3_f0 W_3_f1 hWW
  go_loopw [8, 9] (fun wv iv wr => ∃ (q : Nat) (N : Int), q ≤ xs.length ∧ iv = .int .i64 (q : Nat) ∧ wv = .int .i64 N ∧ N = wsum dd (xs.take q) ∧ 0 ≤ N ∧ N ≤ 9216 * q ∧ Below WW.heap.size WW wr) (fun _ iv _ => xs.length - (intOf iv).toNat)
  case atStart => exact ⟨0, 0, Nat.zero_le _, rfl, rfl, rfl, by omega, by omega, Below.refl _ _⟩
  case round =>
    obtain ⟨q, N, hq, rfl, rfl, hN, hN0, hNb, yr⟩ := hrel
    have HN := Lib.hid hN
    have HYR := Lib.hid yr
    clear hN yr
    by_cases hlt : q < xs.length
    · obtain ⟨b, off, rfl, hb, q1, RX⟩ := (HS1.out.on HYR.out).at q hlt
      obtain ⟨x, hx⟩ : ∃ x, x = xs[q] := ⟨_, rfl⟩
      have hsh : x.d.length ≤ 1024 := by rw [hx]; exact HK.out.short _ (List.getElem_mem hlt)
      have HWS := Lib.hid (wsum_take_succ dd xs q hlt)
      rw [← hx] at q1 RX HWS
      have hxl : x.d.length = x.n := by have := RX.len; rwa [bcells_length] at this
      obtain ⟨xA, xn, xc, xd⟩ := x
      dsimp only at q1 RX hxl hsh HWS
      have c1 := mc_le (s := xd) (dict := []) hsh (by simp)
      have c2 := mc_le (s := xd) (dict := dd) hsh (by omega)
      have hnil : Rd wr none 0 0 (bcells []) := Reads.nil _ _ none 0 (Nat.zero_le _)
      have HP1 := Lib.hid (parse_api RX hnil (by omega) (by decide))
      have HRX := Lib.hid RX
      clear hx RX hnil
      go_wp2_with fail
      refine HP1.out.mono ?_
      rintro e w4 ⟨A4, m4, c4, ts1, rfl, ⟨hr40, hp4⟩, y40⟩
      have y4 := y40.alloc y40.size (.cells #[.int .i64 0, .int .i64 0] 25)
      have hr4 := hr40.alloc (.cells #[.int .i64 0, .int .i64 0] 25)
      have q4 := (y4.cell (p := ⟨b, off + q, none⟩) hb).trans q1
      have HP2 := Lib.hid (parse_api (HRX.out.on y4) ((HD1.out.on HYR.out).on y4) (by omega) (by omega))
      have HR4 := Lib.hid hr4
      have HT1 := Lib.hid hp4
      have HY4 := Lib.hid (HYR.out.trans (y4.mono HYR.out.size))
      have hb4 := Nat.lt_of_lt_of_le hb y4.size
      clear hr4 hp4 y4 hr40 y40 q1 HP1
      go_wp2_with fail
      refine HP2.out.mono ?_
      rintro e w5 ⟨A5, m5, c5, ts2, rfl, ⟨hr50, hp5⟩, y50⟩
      have y5 := y50.alloc y50.size (.cells #[.int .i64 0, .int .i64 0] 25)
      have hr5 := hr50.alloc (.cells #[.int .i64 0, .int .i64 0] 25)
      have HC1 := Lib.hid (cost_api (HR4.out.on y5) HT1.out hsh (by simp) (mc xd []) (mc_eq HT1.out hsh (by simp)).symm)
      have HR5 := Lib.hid hr5
      have HT2 := Lib.hid hp5
      have HY5 := Lib.hid (HY4.out.trans (y5.mono HY4.out.size))
      have hle : mc xd dd ≤ mc xd [] := mc_less HT1.out HT2.out hsh (by omega)
      obtain ⟨C1, hC1⟩ : ∃ C1, C1 = mc xd [] := ⟨_, rfl⟩
      obtain ⟨C2, hC2⟩ : ∃ C2, C2 = mc xd dd := ⟨_, rfl⟩
      rw [← hC1] at HC1 HWS c1 hle
      rw [← hC2] at HWS c2 hle
      have H2 := Lib.hid hC2
      clear hr5 hp5 y5 hr50 y50 q4 HP2 hC1 hC2
      go_wp2_with fail
      refine HC1.out.mono ?_
      rintro e w6 ⟨rfl, y6⟩
      have HC2 := Lib.hid (cost_api ((HR5.out.on y6).alloc (.cells #[.int .i64 0, .int .i64 0] 25)) HT2.out hsh (by omega) C2 (H2.out.trans (mc_eq HT2.out hsh (by omega)).symm))
      have G1 := Two.new w6 25 (.int .i64 0) (.int .i64 0)
      have g0 := G1.c0
      have g1 := G1.c1
      have HY6 := Lib.hid ((HY5.out.trans (y6.mono HY5.out.size)).alloc (HY5.out.trans (y6.mono HY5.out.size)).size (.cells #[.int .i64 0, .int .i64 0] 25))
      clear y6 HC1
      go_wp2_with fail
      refine HC2.out.mono ?_
      rintro e w7 ⟨rfl, y7⟩
      have G2 := (G1.on y7).alloc (.cells #[.int .i64 0, .int .i64 0] 25)
      have k0 := G2.c0
      have k1 := G2.c1
      have E2 := Two.new w7 25 (.int .i64 0) (.int .i64 0)
      have j0 := E2.c0
      have j1 := E2.c1
      have HY7 := Lib.hid ((HY6.out.trans (y7.mono HY6.out.size)).alloc (HY6.out.trans (y7.mono HY6.out.size)).size (.cells #[.int .i64 0, .int .i64 0] 25))
      clear y7 HC2 g0 g1 G1
      go_wp2_with fail
      go_roundw
      case rel => exact ⟨q + 1, N + ((C1 : Int) - (C2 : Int)), by omega, by go_num, by go_num, by rw [HWS.out, ← HN.out], by omega, by omega, HY7.out⟩
      case measure => simp [intOf] <;> omega
    · obtain rfl : q = xs.length := by omega
      have HN2 : N = V := by rw [HN.out, HV.out, List.take_of_length_le (Nat.le_refl _)]
      subst HN2
      go_wp2
      go_ret
      exact ⟨rfl, HZ1.out.trans (HYR.out.mono HZ1.out.size)⟩
theorem dw_all {A : Option Addr} {n c : Nat} {xs : List SItem} {mx : Int} {B : Option Addr} {m k : Nat} {dd : List Nat} {w : World} (h : RdSS w A n c xs) (hd : Rd w B m k (bcells dd)) (hm : Mx w mx) :
    Calls Try.prog 7 #[.slice A n c, .slice B m k] w fun e w' => e = .returned (.bool true) ∧ Below w.heap.size w w' := by
  obtain ⟨code, idx, hF⟩ := sfault_ex xs (-1)
  by_cases hc : code = 0
  · obtain ⟨hok, rfl⟩ := sfault_ok hF hc
    by_cases hl : m ≤ 512
    · exact dw_ok hok hl h hd hm
    · exact dw_long hok (by omega) h hd hm
  · exact dw_sam hF hc h hd hm
end PB
end Go.Proofs.Ytnahmiglogddaaa
