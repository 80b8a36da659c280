/-
  A dictionary that is large enough contains every segment that occurs in two samples: the walk of the statement DictionaryIsComplete.
-/
import Derived.Test.YtnahmiglogddaaaRows
import Derived.Test.YtnahmiglogddaaaDiTwo
import Derived.Deep.RegionHeld3
import Derived.Deep.DrawnRows
import Derived.Deep.Cut
import Derived.Lib.SlBytesConst
namespace Go.Proofs.Ytnahmiglogddaaa
open Go.RowKit
attribute [local go_sem ↓] Go.wp_at_zero Go.wp_at_succ
set_option linter.unusedVariables false
set_option linter.unusedSimpArgs false
namespace PB
theorem many_take_succ (xs : List SItem) (k : Nat) (h : k < xs.length) : many (samd (xs.take (k + 1))) = many (samd (xs.take k)) + (xs[k].d.length - 7) := by
  rw [samd_take_succ xs k h]
  unfold many
  rw [List.map_append, List.sum_append]
  simp
theorem many_take_le : ∀ (xs : List SItem), many (samd xs) ≤ tsum xs
  | [] => Nat.le_refl _
  | x :: r => by
    have := many_take_le r
    unfold many samd tsum at *
    simp only [List.map_cons, List.sum_cons] at *
    omega
theorem many_tsum (xs : List SItem) (k : Nat) : many (samd (xs.take k)) ≤ tsum xs := Nat.le_trans (many_take_le _) (tsum_take_le xs k)
set_option maxRecDepth 100000 in
set_option maxHeartbeats 1600000 in
theorem df_sam {A : Option Addr} {n c : Nat} {xs : List SItem} {at_ from_ mx : Int} (hB : ∀ x ∈ xs, ByteL x.d) {code idx : Int} (hF : SFault xs (-1) code idx) (hc : code ≠ 0) {w : World} (h : RdSS w A n c xs) (hm : Mx w mx) :
    Calls Try.prog 6 #[.slice A n c, .int .i64 at_, .int .i64 from_] w fun e w' => e = .returned (.bool true) ∧ Below w.heap.size w w' := by
  have HB := Lib.hid hB
  clear hB
  have hnx := h.1
  subst hnx
  have hcap := h.2.1
  have hcm := h.2.2.1
  unfold maxLen at hcm
  have hc2 : (code == 0) = false := by rw [beq_eq_false_iff_ne]; exact hc
  have hc3 : (code != 0) = true := by rw [bne_iff_ne]; exact hc
  have HF := Lib.hid hF
  have HC := Lib.hid hc
  clear hF hc
  have S_0 := h
  have X_0 := hm
  have Z0 := Below.refl w.heap.size w
  go_enter Try.func6, Try.ntmps6
  go_wp2_with fail
  refine (dtrain_sam S_0 512 code idx HF.out HC.out).mono ?_
  rintro e w1 ⟨rfl, y1⟩
  have S_1 := (S_0.on y1).alloc (.cells #[.int .i64 code, .int .i64 idx] 25)
  have X_1 := (X_0.on y1).alloc (.cells #[.int .i64 code, .int .i64 idx] 25)
  have F_1 := (Two.new w1 25 (.int .i64 code) (.int .i64 idx))
  clear S_0 X_0
  have z1 := Z0.trans (y1.mono Z0.size)
  have Z1 := (z1).alloc (by have := z1.size; omega) (.cells #[.int .i64 code, .int .i64 idx] 25)
  have F_1_c0 := F_1.c0
  have F_1_c1 := F_1.c1
  go_wp2_with fail
  refine (trains_true X_1).mono ?_
  rintro e w2 ⟨rfl, y2⟩
  have S_2 := S_1.on y2
  have X_2 := X_1.on y2
  have F_2 := F_1.on y2
  clear S_1 X_1 F_1 F_1_c0 F_1_c1
  have z2 := Z1.trans (y2.mono Z1.size)
  have Z2 := z2
  have F_2_c0 := F_2.c0
  have F_2_c1 := F_2.c1
  go_wp2_with fail
  refine (trains_true X_2).mono ?_
  rintro e w3 ⟨rfl, y3⟩
  have S_3 := S_2.on y3
  have X_3 := X_2.on y3
  have F_3 := F_2.on y3
  clear S_2 X_2 F_2 F_2_c0 F_2_c1
  have z3 := Z2.trans (y3.mono Z2.size)
  have Z3 := z3
  have F_3_c0 := F_3.c0
  have F_3_c1 := F_3.c1
  go_wp2
  go_ret
  exact ⟨rfl, Z3⟩
set_option maxRecDepth 100000 in
set_option maxHeartbeats 1600000 in
theorem df_long {A : Option Addr} {n c : Nat} {xs : List SItem} {at_ from_ mx : Int} (hB : ∀ x ∈ xs, ByteL x.d) (hok : SamOk xs) (ht : ¬ tsum xs ≤ 500) {w : World} (h : RdSS w A n c xs) (hm : Mx w mx) :
    Calls Try.prog 6 #[.slice A n c, .int .i64 at_, .int .i64 from_] w fun e w' => e = .returned (.bool true) ∧ Below w.heap.size w w' := by
  have HB := Lib.hid hB
  clear hB
  have hnx := h.1
  subst hnx
  have hcap := h.2.1
  have hcm := h.2.2.1
  unfold maxLen at hcm
  have HK := Lib.hid hok
  have HSB := Lib.hid (show SamB xs from ⟨hok, HB.out⟩)
  have hfew := hok.few
  clear hok
  obtain ⟨N, hN⟩ : ∃ N, N = tsum xs := ⟨_, rfl⟩
  rw [← hN] at ht
  have kt : decide ((500 : Int) < ((501 : Nat) : Int)) = true := by decide
  have HT := Lib.hid (show 501 = if tsum xs ≤ 500 then tsum xs else 500 + 1 by rw [← hN]; rw [if_neg ht])
  have HNN := Lib.hid hN
  clear hN
  have S_0 := h
  have X_0 := hm
  have Z0 := Below.refl w.heap.size w
  go_enter Try.func6, Try.ntmps6
  go_wp2_with fail
  refine (dtrain_ok S_0 HK.out X_0.cell X_0.lt 512 (Nat.le_refl _) 512 rfl).mono ?_
  rintro e w1 ⟨A1, n1, c1, l, hS, rfl, P1, y1⟩
  have S_1 := (S_0.on y1).alloc (.cells #[.int .i64 0, .int .i64 0] 25)
  have X_1 := (X_0.on y1).alloc (.cells #[.int .i64 0, .int .i64 0] 25)
  have P_1 := ((Rd.own P1)).alloc (.cells #[.int .i64 0, .int .i64 0] 25)
  have F_1 := (Two.new w1 25 (.int .i64 0) (.int .i64 0))
  clear S_0 X_0
  have z1 := Z0.trans (y1.mono Z0.size)
  have Z1 := (z1).alloc (by have := z1.size; omega) (.cells #[.int .i64 0, .int .i64 0] 25)
  have F_1_c0 := F_1.c0
  have F_1_c1 := F_1.c1
  have HSG := Lib.hid hS
  clear hS P1
  go_wp2_with fail
  refine (trains_true X_1).mono ?_
  rintro e w2 ⟨rfl, y2⟩
  have S_2 := S_1.on y2
  have X_2 := X_1.on y2
  have P_2 := P_1.on y2
  have F_2 := F_1.on y2
  clear S_1 X_1 P_1 F_1 F_1_c0 F_1_c1
  have z2 := Z1.trans (y2.mono Z1.size)
  have Z2 := z2
  have F_2_c0 := F_2.c0
  have F_2_c1 := F_2.c1
  go_wp2_with fail
  refine (total_any S_2 500 (by decide) _ rfl _ HT.out).mono ?_
  rintro e w9_1 ⟨rfl, rfl⟩
  go_wp2_with fail
  refine (trains_true X_2).mono ?_
  rintro e w3 ⟨rfl, y3⟩
  have S_3 := S_2.on y3
  have X_3 := X_2.on y3
  have P_3 := P_2.on y3
  have F_3 := F_2.on y3
  clear S_2 X_2 P_2 F_2 F_2_c0 F_2_c1
  have z3 := Z2.trans (y3.mono Z2.size)
  have Z3 := z3
  have F_3_c0 := F_3.c0
  have F_3_c1 := F_3.c1
  go_wp2
  go_ret
  exact ⟨rfl, Z3⟩
set_option maxRecDepth 100000 in
set_option maxHeartbeats 1600000 in
theorem df_at {A : Option Addr} {n c : Nat} {xs : List SItem} {at_ from_ mx : Int} (hB : ∀ x ∈ xs, ByteL x.d) (hok : SamOk xs) (ht : tsum xs ≤ 500) (ha : at_ < 0 ∨ (xs.length : Int) - 1 < at_) {w : World} (h : RdSS w A n c xs) (hm : Mx w mx) :
    Calls Try.prog 6 #[.slice A n c, .int .i64 at_, .int .i64 from_] w fun e w' => e = .returned (.bool true) ∧ Below w.heap.size w w' := by
  have HB := Lib.hid hB
  clear hB
  have hnx := h.1
  subst hnx
  have hcap := h.2.1
  have hcm := h.2.2.1
  unfold maxLen at hcm
  have HK := Lib.hid hok
  have HSB := Lib.hid (show SamB xs from ⟨hok, HB.out⟩)
  have hfew := hok.few
  clear hok
  obtain ⟨N, hN⟩ : ∃ N, N = tsum xs := ⟨_, rfl⟩
  rw [← hN] at ht
  have kt : decide ((500 : Int) < (N : Int)) = false := by simp; omega
  have HT := Lib.hid (show N = if tsum xs ≤ 500 then tsum xs else 500 + 1 by rw [← hN]; rw [if_pos ht])
  have HNN := Lib.hid hN
  clear hN
  have HR := Lib.hid ha
  clear ha
  have S_0 := h
  have X_0 := hm
  have Z0 := Below.refl w.heap.size w
  go_enter Try.func6, Try.ntmps6
  go_wp2_with fail
  refine (dtrain_ok S_0 HK.out X_0.cell X_0.lt 512 (Nat.le_refl _) 512 rfl).mono ?_
  rintro e w1 ⟨A1, n1, c1, l, hS, rfl, P1, y1⟩
  have S_1 := (S_0.on y1).alloc (.cells #[.int .i64 0, .int .i64 0] 25)
  have X_1 := (X_0.on y1).alloc (.cells #[.int .i64 0, .int .i64 0] 25)
  have P_1 := ((Rd.own P1)).alloc (.cells #[.int .i64 0, .int .i64 0] 25)
  have F_1 := (Two.new w1 25 (.int .i64 0) (.int .i64 0))
  clear S_0 X_0
  have z1 := Z0.trans (y1.mono Z0.size)
  have Z1 := (z1).alloc (by have := z1.size; omega) (.cells #[.int .i64 0, .int .i64 0] 25)
  have F_1_c0 := F_1.c0
  have F_1_c1 := F_1.c1
  have HSG := Lib.hid hS
  clear hS P1
  go_wp2_with fail
  refine (trains_true X_1).mono ?_
  rintro e w2 ⟨rfl, y2⟩
  have S_2 := S_1.on y2
  have X_2 := X_1.on y2
  have P_2 := P_1.on y2
  have F_2 := F_1.on y2
  clear S_1 X_1 P_1 F_1 F_1_c0 F_1_c1
  have z2 := Z1.trans (y2.mono Z1.size)
  have Z2 := z2
  have F_2_c0 := F_2.c0
  have F_2_c1 := F_2.c1
  go_wp2_with fail
  refine (total_any S_2 500 (by decide) _ rfl _ HT.out).mono ?_
  rintro e w9_1 ⟨rfl, rfl⟩
  go_wp2_with fail
  refine (in_no _ _ _ _ (by have := HR.out; omega)).mono ?_
  rintro e w9_2 ⟨rfl, rfl⟩
  go_wp2
  go_ret
  exact ⟨rfl, Z2⟩
set_option maxRecDepth 100000 in
set_option maxHeartbeats 1600000 in
theorem df_from {A : Option Addr} {n c : Nat} {xs : List SItem} {at_ from_ mx : Int} (hB : ∀ x ∈ xs, ByteL x.d) (hok : SamOk xs) (ht : tsum xs ≤ 500) {q : Nat} (hq : q < xs.length) (ha : at_ = (q : Nat)) (hf : from_ < 0 ∨ (xs[q].d.length : Int) - 8 < from_) {w : World} (h : RdSS w A n c xs) (hm : Mx w mx) :
    Calls Try.prog 6 #[.slice A n c, .int .i64 at_, .int .i64 from_] w fun e w' => e = .returned (.bool true) ∧ Below w.heap.size w w' := by
  have HB := Lib.hid hB
  clear hB
  have hnx := h.1
  subst hnx
  have hcap := h.2.1
  have hcm := h.2.2.1
  unfold maxLen at hcm
  have HK := Lib.hid hok
  have HSB := Lib.hid (show SamB xs from ⟨hok, HB.out⟩)
  have hfew := hok.few
  clear hok
  obtain ⟨N, hN⟩ : ∃ N, N = tsum xs := ⟨_, rfl⟩
  rw [← hN] at ht
  have kt : decide ((500 : Int) < (N : Int)) = false := by simp; omega
  have HT := Lib.hid (show N = if tsum xs ≤ 500 then tsum xs else 500 + 1 by rw [← hN]; rw [if_pos ht])
  have HNN := Lib.hid hN
  clear hN
  have HA := Lib.hid ha
  clear ha
  have hq2 : q < xs.length := hq
  have hxl : xs[q].d.length ≤ 1024 := HK.out.short _ (List.getElem_mem hq)
  obtain ⟨b, off, rfl, hb0, q10, RX0⟩ := h.at q hq
  have hxl2 : xs[q].d.length = xs[q].n := by have := RX0.len; rwa [bcells_length] at this
  have hxc := Reads.cap RX0
  have hxm := Reads.capMax RX0
  unfold maxLen at hxm
  clear RX0 q10 hb0
  have HR := Lib.hid hf
  clear hf
  have S_0 := h
  have X_0 := hm
  have Z0 := Below.refl w.heap.size w
  go_enter Try.func6, Try.ntmps6
  go_wp2_with fail
  refine (dtrain_ok S_0 HK.out X_0.cell X_0.lt 512 (Nat.le_refl _) 512 rfl).mono ?_
  rintro e w1 ⟨A1, n1, c1, l, hS, rfl, P1, y1⟩
  have S_1 := (S_0.on y1).alloc (.cells #[.int .i64 0, .int .i64 0] 25)
  have X_1 := (X_0.on y1).alloc (.cells #[.int .i64 0, .int .i64 0] 25)
  have P_1 := ((Rd.own P1)).alloc (.cells #[.int .i64 0, .int .i64 0] 25)
  have F_1 := (Two.new w1 25 (.int .i64 0) (.int .i64 0))
  clear S_0 X_0
  have z1 := Z0.trans (y1.mono Z0.size)
  have Z1 := (z1).alloc (by have := z1.size; omega) (.cells #[.int .i64 0, .int .i64 0] 25)
  have F_1_c0 := F_1.c0
  have F_1_c1 := F_1.c1
  have HSG := Lib.hid hS
  clear hS P1
  go_wp2_with fail
  refine (trains_true X_1).mono ?_
  rintro e w2 ⟨rfl, y2⟩
  have S_2 := S_1.on y2
  have X_2 := X_1.on y2
  have P_2 := P_1.on y2
  have F_2 := F_1.on y2
  clear S_1 X_1 P_1 F_1 F_1_c0 F_1_c1
  have z2 := Z1.trans (y2.mono Z1.size)
  have Z2 := z2
  have F_2_c0 := F_2.c0
  have F_2_c1 := F_2.c1
  go_wp2_with fail
  refine (total_any S_2 500 (by decide) _ rfl _ HT.out).mono ?_
  rintro e w9_1 ⟨rfl, rfl⟩
  go_wp2_with fail
  refine (in_yes _ _ _ _ (by have := HA.out; omega) (by have := HA.out; omega)).mono ?_
  rintro e w9_2 ⟨rfl, rfl⟩
  have ha := HA.out
  subst ha
  obtain ⟨b2, off2, e2, hb, q1, RX⟩ := S_2.at q hq2
  cases e2
  obtain ⟨x, hx⟩ : ∃ x, x = xs[q] := ⟨_, rfl⟩
  have HXM := Lib.hid (show x ∈ xs by rw [hx]; exact List.getElem_mem hq2)
  have HR2 := Lib.hid (show from_ < 0 ∨ (xs[q].d.length : Int) - 8 < from_ from HR.out)
  rw [← hx] at HR2 q1 RX hxl hxl2 hxc hxm
  obtain ⟨xA, xn, xc, xd⟩ := x
  dsimp only at HR2 q1 RX hxl hxl2 hxc hxm
  have HRX := Lib.hid RX
  clear hx RX
  go_wp2_with fail
  refine (in_no _ _ _ _ (by have := HR2.out; omega)).mono ?_
  rintro e w9_3 ⟨rfl, rfl⟩
  go_wp2
  go_ret
  exact ⟨rfl, Z2⟩
set_option maxRecDepth 100000 in
set_option maxHeartbeats 1600000 in
theorem df_ok {A : Option Addr} {n c : Nat} {xs : List SItem} {at_ from_ mx : Int} (hB : ∀ x ∈ xs, ByteL x.d) (hok : SamOk xs) (ht : tsum xs ≤ 500) {q : Nat} (hq : q < xs.length) (ha : at_ = (q : Nat)) {p : Nat} (hf : from_ = (p : Nat) ∧ p + 8 ≤ xs[q].d.length) {w : World} (h : RdSS w A n c xs) (hm : Mx w mx) :
    Calls Try.prog 6 #[.slice A n c, .int .i64 at_, .int .i64 from_] w fun e w' => e = .returned (.bool true) ∧ Below w.heap.size w w' := by
  have HB := Lib.hid hB
  clear hB
  have hnx := h.1
  subst hnx
  have hcap := h.2.1
  have hcm := h.2.2.1
  unfold maxLen at hcm
  have HK := Lib.hid hok
  have HSB := Lib.hid (show SamB xs from ⟨hok, HB.out⟩)
  have hfew := hok.few
  clear hok
  obtain ⟨N, hN⟩ : ∃ N, N = tsum xs := ⟨_, rfl⟩
  rw [← hN] at ht
  have kt : decide ((500 : Int) < (N : Int)) = false := by simp; omega
  have HT := Lib.hid (show N = if tsum xs ≤ 500 then tsum xs else 500 + 1 by rw [← hN]; rw [if_pos ht])
  have HNN := Lib.hid hN
  clear hN
  have HA := Lib.hid ha
  clear ha
  have hq2 : q < xs.length := hq
  have hxl : xs[q].d.length ≤ 1024 := HK.out.short _ (List.getElem_mem hq)
  obtain ⟨b, off, rfl, hb0, q10, RX0⟩ := h.at q hq
  have hxl2 : xs[q].d.length = xs[q].n := by have := RX0.len; rwa [bcells_length] at this
  have hxc := Reads.cap RX0
  have hxm := Reads.capMax RX0
  unfold maxLen at hxm
  clear RX0 q10 hb0
  have HFR := Lib.hid hf
  clear hf
  obtain ⟨j0, bi, bz0, bz1, bz2⟩ := info_parts byte_info
  have BZ := Lib.hid bz1
  have S_0 := h
  have X_0 := hm
  have Z0 := Below.refl w.heap.size w
  go_enter Try.func6, Try.ntmps6
  go_wp2_with fail
  refine (dtrain_ok S_0 HK.out X_0.cell X_0.lt 512 (Nat.le_refl _) 512 rfl).mono ?_
  rintro e w1 ⟨A1, n1, c1, l, hS, rfl, P1, y1⟩
  have S_1 := (S_0.on y1).alloc (.cells #[.int .i64 0, .int .i64 0] 25)
  have X_1 := (X_0.on y1).alloc (.cells #[.int .i64 0, .int .i64 0] 25)
  have P_1 := ((Rd.own P1)).alloc (.cells #[.int .i64 0, .int .i64 0] 25)
  have F_1 := (Two.new w1 25 (.int .i64 0) (.int .i64 0))
  clear S_0 X_0
  have z1 := Z0.trans (y1.mono Z0.size)
  have Z1 := (z1).alloc (by have := z1.size; omega) (.cells #[.int .i64 0, .int .i64 0] 25)
  have F_1_c0 := F_1.c0
  have F_1_c1 := F_1.c1
  have HSG := Lib.hid hS
  clear hS P1
  go_wp2_with fail
  refine (trains_true X_1).mono ?_
  rintro e w2 ⟨rfl, y2⟩
  have S_2 := S_1.on y2
  have X_2 := X_1.on y2
  have P_2 := P_1.on y2
  have F_2 := F_1.on y2
  clear S_1 X_1 P_1 F_1 F_1_c0 F_1_c1
  have z2 := Z1.trans (y2.mono Z1.size)
  have Z2 := z2
  have F_2_c0 := F_2.c0
  have F_2_c1 := F_2.c1
  go_wp2_with fail
  refine (total_any S_2 500 (by decide) _ rfl _ HT.out).mono ?_
  rintro e w9_1 ⟨rfl, rfl⟩
  go_wp2_with fail
  refine (in_yes _ _ _ _ (by have := HA.out; omega) (by have := HA.out; omega)).mono ?_
  rintro e w9_2 ⟨rfl, rfl⟩
  have ha := HA.out
  subst ha
  obtain ⟨b2, off2, e2, hb, q1, RX⟩ := S_2.at q hq2
  cases e2
  obtain ⟨x, hx⟩ : ∃ x, x = xs[q] := ⟨_, rfl⟩
  have HXM := Lib.hid (show x ∈ xs by rw [hx]; exact List.getElem_mem hq2)
  have HR2 := Lib.hid (show from_ = (p : Nat) ∧ p + 8 ≤ xs[q].d.length from HFR.out)
  rw [← hx] at HR2 q1 RX hxl hxl2 hxc hxm
  obtain ⟨xA, xn, xc, xd⟩ := x
  dsimp only at HR2 q1 RX hxl hxl2 hxc hxm
  have HRX := Lib.hid RX
  clear hx RX
  obtain ⟨hfp, hp8⟩ := HR2.out
  subst hfp
  go_wp2_with fail
  refine (in_yes _ _ _ _ (by omega) (by omega)).mono ?_
  rintro e w9_3 ⟨rfl, rfl⟩
  obtain ⟨A8, hrun, hrd⟩ := Rd.mid (P := Try.prog) 23 5 j0 Try.underlying23 bi BZ.out HRX.out p (p + 8) (by omega) (by omega)
  rw [show p + 8 - p = 8 by omega] at hrun hrd
  rw [bcells_drop, bcells_take] at hrd
  have hrun2 : ∀ W, (Instr.slice 23 (.slice xA xn xc) (some (.int .i64 (p : Nat))) (some (.int .i64 ((p : Int) + 8))) none).run Try.prog W = .ok (.slice A8 8 (xc - p)) W := hrun
  have hbx : ByteL xd := HB.out _ HXM.out
  have hse : byt (seg xd p) = (xd.drop p).take 8 := by unfold seg; exact byt_utx (ByteL.take (ByteL.drop hbx p) 8)
  rw [← hse] at hrd
  obtain ⟨Y, hY⟩ : ∃ Y, Y = seg xd p := ⟨_, rfl⟩
  have hY8 : Y.length = 8 := by rw [hY]; exact seg_length (by omega)
  rw [← hY] at hrd
  have HYR := Lib.hid hrd
  have HFQ := Lib.hid (freq_any S_2 HSB.out hrd hY8)
  have hoc : 2 ≤ fr (samd xs) Y → 4 * many (samd xs) ≤ 512 → byt Y <:+: traind 512 l := fun a b => complete HSG.out 512 (by have := HSG.out.few; omega) a
  have HOC := Lib.hid hoc
  have HO := Lib.hid (fun r hr => occurs_any P_2 hrd (traind_byte _ _) (byt_lt Y) (by decide) (by have h1 := Reads.len P_2; rw [bcells_length] at h1; have := traind_size 512 l; omega) r hr)
  obtain ⟨M, hM⟩ : ∃ M, M = many (samd xs) := ⟨_, rfl⟩
  have HM := Lib.hid hM
  have hMb : M ≤ 500 := by rw [hM]; have := many_take_le xs; rw [← HNN.out] at this; omega
  obtain ⟨Q, hQ⟩ : ∃ Q, Q = fr (samd xs) Y := ⟨_, rfl⟩
  rw [← hQ] at HFQ HOC
  rw [← hM] at HOC
  have hQb : Q ≤ 64 := by rw [hQ]; have h1 := fr_le (samd xs) Y; have h2 : (samd xs).length = xs.length := by simp [samd]
                          omega
  have HS5 := Lib.hid S_2
  clear hrun hrd hse hbx hM hQ hoc hY
  go_wp2_with fail
  go_loop [10, 11] (fun mv iv => ∃ (k : Nat) (V : Nat), k ≤ xs.length ∧ iv = .int .i64 (k : Nat) ∧ mv = .int .i64 (V : Nat) ∧ V = many (samd (xs.take k)) ∧ V ≤ 500) (fun _ iv => xs.length - (intOf iv).toNat)
  case atStart => exact ⟨0, 0, Nat.zero_le _, rfl, rfl, rfl, by omega⟩
  case round =>
    obtain ⟨k, V, hk, rfl, rfl, hV, hVb⟩ := hrel
    have HV := Lib.hid hV
    clear hV
    by_cases hlt : k < xs.length
    · obtain ⟨b3, off3, e3, hb3, q3, RX3⟩ := HS5.out.at k hlt
      cases e3
      have HMS := Lib.hid (many_take_succ xs k hlt)
      have hml := many_tsum xs (k + 1)
      rw [← HNN.out] at hml
      have hxl3 : xs[k].d.length ≤ 1024 := HK.out.short _ (List.getElem_mem hlt)
      obtain ⟨x3, hx3⟩ : ∃ x3, x3 = xs[k] := ⟨_, rfl⟩
      rw [← hx3] at q3 RX3 HMS hxl3
      have hxl4 : x3.d.length = x3.n := by have := RX3.len; rwa [bcells_length] at this
      obtain ⟨xA3, xn3, xc3, xd3⟩ := x3
      dsimp only at q3 RX3 HMS hxl3 hxl4
      obtain ⟨T, hT⟩ : ∃ T, T = xd3.length - 7 := ⟨_, rfl⟩
      have hmax : max (0 : Int) ((xn3 : Int) - 7) = (T : Int) := by omega
      have hVT : V + T ≤ 500 := by have h1 := HMS.out; have h2 := HV.out; omega
      have HT3 := Lib.hid hT
      clear hx3 RX3 hml hT
      go_wp2_with fail
      go_round
      case rel => exact ⟨k + 1, V + T, by omega, by go_num, by go_num, by rw [HMS.out, ← HV.out, HT3.out], hVT⟩
      case measure => simp [intOf] <;> omega
    · obtain rfl : k = xs.length := by omega
      have hVM : V = M := by rw [HV.out, HM.out, List.take_of_length_le (Nat.le_refl _)]
      subst hVM
      by_cases h4 : 4 * V ≤ 512
      · go_wp2_with fail
        refine HFQ.out.mono ?_
        rintro e w8 ⟨rfl, rfl⟩
        by_cases h5 : 2 ≤ Q
        · have HO2 := Lib.hid (HO.out true (by rw [decide_eq_true (HOC.out h5 h4)]))
          go_wp2_with fail
          refine HO2.out.mono ?_
          rintro e w9 ⟨rfl, rfl⟩
          go_wp2
          go_ret
          exact ⟨rfl, Z2⟩
        · go_wp2
          go_ret
          exact ⟨rfl, Z2⟩
      · go_wp2
        go_ret
        exact ⟨rfl, Z2⟩
theorem df_all {A : Option Addr} {n c : Nat} {xs : List SItem} {at_ from_ mx : Int} (hB : ∀ x ∈ xs, ByteL x.d) {w : World} (h : RdSS w A n c xs) (hm : Mx w mx) :
    Calls Try.prog 6 #[.slice A n c, .int .i64 at_, .int .i64 from_] w fun e w' => e = .returned (.bool true) ∧ Below w.heap.size w w' := by
  obtain ⟨code, idx, hF⟩ := sfault_ex xs (-1)
  by_cases hc : code = 0
  · obtain ⟨hok, rfl⟩ := sfault_ok hF hc
    by_cases ht : tsum xs ≤ 500
    · by_cases ha : at_ < 0 ∨ (xs.length : Int) - 1 < at_
      · exact df_at hB hok ht ha h hm
      · obtain ⟨q, rfl⟩ := Int.eq_ofNat_of_zero_le (show 0 ≤ at_ by omega)
        have hq : q < xs.length := by omega
        by_cases hf : from_ < 0 ∨ (xs[q].d.length : Int) - 8 < from_
        · exact df_from hB hok ht hq rfl hf h hm
        · obtain ⟨p, rfl⟩ := Int.eq_ofNat_of_zero_le (show 0 ≤ from_ by omega)
          exact df_ok hB hok ht hq rfl ⟨rfl, by omega⟩ h hm
    · exact df_long hB hok ht h hm
  · exact df_sam hB hF hc h hm
end PB
end Go.Proofs.Ytnahmiglogddaaa
