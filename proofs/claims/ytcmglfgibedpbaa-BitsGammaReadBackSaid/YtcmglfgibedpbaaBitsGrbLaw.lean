/-
  A gamma code that was added is read at its place, whatever follows it: the walk of the statement BitsGammaReadBack.
-/
import Derived.Test.YtcmglfgibedpbaaRows
import Derived.Test.YtcmglfgibedpbaaBitsApi
import Derived.Test.YtcmglfgibedpbaaBitsApi2
import Derived.Deep.RegionHeld3
import Derived.Deep.DrawnRows
namespace Go.Proofs.Ytcmglfgibedpbaa
open Go.RowKit
attribute [local go_sem ↓] Go.wp_at_zero Go.wp_at_succ
set_option linter.unusedVariables false
set_option linter.unusedSimpArgs false
namespace PB
set_option maxRecDepth 100000 in
set_option maxHeartbeats 3200000 in
theorem grb_E {A : Option Addr} {n c : Nat} {d : List Nat} {cnt x code idx : Int} (hd : ∀ k, d.getD k 0 < 256) (hE : GErr d cnt x code idx) {Ar : Option Addr} {nr cr : Nat} {cnt2 : Int}  (w : World) (h : Rd w A n c (bcells d)) :
    Calls Try.prog 7 #[.agg #[.slice A n c, .int .i64 cnt], .int .i64 x, .agg #[.slice Ar nr cr, .int .i64 cnt2]] w fun e w' => e = .returned (.bool true) ∧ Below w.heap.size w w' := by
  have k1 := hE.code
  have HE := Lib.hid hE
  have HD := Lib.hid hd
  clear hE hd
  have R_0 := ((h).alloc (.cells #[.slice A n c, .int .i64 cnt] 24)).alloc (.cells #[.slice Ar nr cr, .int .i64 cnt2] 24)
  have B_0 := ((Two.new w 24 (.slice A n c) (.int .i64 cnt))).alloc (.cells #[.slice Ar nr cr, .int .i64 cnt2] 24)
  have P_0 := (Two.new1 w (.cells #[.slice A n c, .int .i64 cnt] 24) 24 (.slice Ar nr cr) (.int .i64 cnt2))
  have Z0 := ((Below.refl w.heap.size w).alloc (by simp) (.cells #[.slice A n c, .int .i64 cnt] 24)).alloc (by simp) (.cells #[.slice Ar nr cr, .int .i64 cnt2] 24)
  have B_0_c0 := B_0.c0
  have B_0_c1 := B_0.c1
  have P_0_c0 := P_0.c0
  have P_0_c1 := P_0.c1
  go_enter Try.func7, Try.ntmps7
  go_wp2_with fail
  refine (agamma_err HD.out HE.out _ R_0).mono ?_
  rintro e w1 ⟨rfl, y1⟩
  have R_1 := ((R_0.on y1).alloc (.cells #[.slice none 0 0, .int .i64 0] 24)).alloc (.cells #[.int .i64 code, .int .i64 idx] 26)
  have B_1 := ((B_0.on y1).alloc (.cells #[.slice none 0 0, .int .i64 0] 24)).alloc (.cells #[.int .i64 code, .int .i64 idx] 26)
  have P_1 := ((P_0.on y1).alloc (.cells #[.slice none 0 0, .int .i64 0] 24)).alloc (.cells #[.int .i64 code, .int .i64 idx] 26)
  have RX_1 := ((Rd.none_ w1).alloc (.cells #[.slice none 0 0, .int .i64 0] 24)).alloc (.cells #[.int .i64 code, .int .i64 idx] 26)
  have X_1 := ((Two.new w1 24 (.slice none 0 0) (.int .i64 0))).alloc (.cells #[.int .i64 code, .int .i64 idx] 26)
  have F_1 := (Two.new1 w1 (.cells #[.slice none 0 0, .int .i64 0] 24) 26 (.int .i64 code) (.int .i64 idx))
  clear R_0 B_0 B_0_c0 B_0_c1 P_0 P_0_c0 P_0_c1
  have z1 := Z0.trans (y1.mono Z0.size)
  have Z1 := ((z1).alloc (by have := z1.size; omega) (.cells #[.slice none 0 0, .int .i64 0] 24)).alloc (by have := z1.size; simp; omega) (.cells #[.int .i64 code, .int .i64 idx] 26)
  have B_1_c0 := B_1.c0
  have B_1_c1 := B_1.c1
  have P_1_c0 := P_1.c0
  have P_1_c1 := P_1.c1
  have X_1_c0 := X_1.c0
  have X_1_c1 := X_1.c1
  have F_1_c0 := F_1.c0
  have F_1_c1 := F_1.c1
  go_wp2_with fail
  refine (strings_true _).mono ?_
  rintro e w2 ⟨rfl, y2⟩
  have R_2 := R_1.on y2
  have B_2 := B_1.on y2
  have P_2 := P_1.on y2
  have RX_2 := RX_1.on y2
  have X_2 := X_1.on y2
  have F_2 := F_1.on y2
  clear R_1 B_1 B_1_c0 B_1_c1 P_1 P_1_c0 P_1_c1 RX_1 X_1 X_1_c0 X_1_c1 F_1 F_1_c0 F_1_c1
  have z2 := Z1.trans (y2.mono Z1.size)
  have Z2 := z2
  have B_2_c0 := B_2.c0
  have B_2_c1 := B_2.c1
  have P_2_c0 := P_2.c0
  have P_2_c1 := P_2.c1
  have X_2_c0 := X_2.c0
  have X_2_c1 := X_2.c1
  have F_2_c0 := F_2.c0
  have F_2_c1 := F_2.c1
  go_wp2_with fail
  refine (strings_true _).mono ?_
  rintro e w3 ⟨rfl, y3⟩
  have R_3 := R_2.on y3
  have B_3 := B_2.on y3
  have P_3 := P_2.on y3
  have RX_3 := RX_2.on y3
  have X_3 := X_2.on y3
  have F_3 := F_2.on y3
  clear R_2 B_2 B_2_c0 B_2_c1 P_2 P_2_c0 P_2_c1 RX_2 X_2 X_2_c0 X_2_c1 F_2 F_2_c0 F_2_c1
  have z3 := Z2.trans (y3.mono Z2.size)
  have Z3 := z3
  have B_3_c0 := B_3.c0
  have B_3_c1 := B_3.c1
  have P_3_c0 := P_3.c0
  have P_3_c1 := P_3.c1
  have X_3_c0 := X_3.c0
  have X_3_c1 := X_3.c1
  have F_3_c0 := F_3.c0
  have F_3_c1 := F_3.c1
  go_wp2_with fail
  refine (api_same (l := []) (l2 := []) RX_3 (Rd.none_ _) Is01.nil Is01.nil true (by decide) _ _ rfl rfl).mono ?_
  rintro e w4 ⟨rfl, y4⟩
  have R_4 := R_3.on y4
  have B_4 := B_3.on y4
  have P_4 := P_3.on y4
  have RX_4 := RX_3.on y4
  have X_4 := X_3.on y4
  have F_4 := F_3.on y4
  clear R_3 B_3 B_3_c0 B_3_c1 P_3 P_3_c0 P_3_c1 RX_3 X_3 X_3_c0 X_3_c1 F_3 F_3_c0 F_3_c1
  have z4 := Z3.trans (y4.mono Z3.size)
  have Z4 := z4
  have B_4_c0 := B_4.c0
  have B_4_c1 := B_4.c1
  have P_4_c0 := P_4.c0
  have P_4_c1 := P_4.c1
  have X_4_c0 := X_4.c0
  have X_4_c1 := X_4.c1
  have F_4_c0 := F_4.c0
  have F_4_c1 := F_4.c1
  go_wp2
  go_ret
  exact ⟨rfl, Z4⟩
set_option maxRecDepth 100000 in
set_option maxHeartbeats 3200000 in
theorem grb_R1 {A : Option Addr} {n c : Nat} {l : List Nat} {x : Nat} (h01 : Is01 l) (hl : l.length ≤ 131072) (hx1 : 1 ≤ x) (hx : x ≤ 2147483647) (hs : l.length + gsz x ≤ 131072) {Ar : Option Addr} {nr cr : Nat} {d2 : List Nat} {cnt2 : Int} (hd2 : ∀ k, d2.getD k 0 < 256) (hlo : -9223372036854775808 ≤ cnt2) (hhi : cnt2 ≤ 9223372036854775807) (hno : ¬ Ok d2 cnt2)  (w : World) (h : Rd w A n c (bcells (pack l))) (h2 : Rd w Ar nr cr (bcells d2)) :
    Calls Try.prog 7 #[.agg #[.slice A n c, .int .i64 (l.length : Nat)], .int .i64 (x : Nat), .agg #[.slice Ar nr cr, .int .i64 cnt2]] w fun e w' => e = .returned (.bool true) ∧ Below w.heap.size w w' := by
  have H01 := Lib.hid h01
  have HLL := Lib.hid hl
  have HOK := Lib.hid (Ok.of_list h01 hl)
  clear h01
  obtain ⟨L, hL⟩ : ∃ L, L = l ++ gam x := ⟨_, rfl⟩
  have hLn : L.length = l.length + gsz x := by rw [hL, List.length_append, gam_length]
  have hLb : L.length ≤ 131072 := by omega
  have HAG := Lib.hid (fun W (hW : Rd W A n c (bcells (pack l))) => api_agamma hW H01.out HLL.out hx1 hx hs hL _ rfl)
  have HL01 := Lib.hid (show Is01 L by rw [hL]; exact H01.out.append (digs_01 _ _))
  have HD := Lib.hid hd2
  have HNO := Lib.hid hno
  clear hd2 hno hL hLn
  have R_0 := ((h).alloc (.cells #[.slice A n c, .int .i64 (l.length : Nat)] 24)).alloc (.cells #[.slice Ar nr cr, .int .i64 cnt2] 24)
  have RR_0 := ((h2).alloc (.cells #[.slice A n c, .int .i64 (l.length : Nat)] 24)).alloc (.cells #[.slice Ar nr cr, .int .i64 cnt2] 24)
  have B_0 := ((Two.new w 24 (.slice A n c) (.int .i64 (l.length : Nat)))).alloc (.cells #[.slice Ar nr cr, .int .i64 cnt2] 24)
  have P_0 := (Two.new1 w (.cells #[.slice A n c, .int .i64 (l.length : Nat)] 24) 24 (.slice Ar nr cr) (.int .i64 cnt2))
  have Z0 := ((Below.refl w.heap.size w).alloc (by simp) (.cells #[.slice A n c, .int .i64 (l.length : Nat)] 24)).alloc (by simp) (.cells #[.slice Ar nr cr, .int .i64 cnt2] 24)
  have B_0_c0 := B_0.c0
  have B_0_c1 := B_0.c1
  have P_0_c0 := P_0.c0
  have P_0_c1 := P_0.c1
  go_enter Try.func7, Try.ntmps7
  go_wp2_with fail
  refine (HAG.out _ R_0).mono ?_
  rintro e w1 ⟨Ax, nx, cx, rfl, Rx, y1⟩
  have R_1 := ((R_0.on y1).alloc (.cells #[.slice Ax nx cx, .int .i64 (L.length : Nat)] 24)).alloc (.cells #[.int .i64 0, .int .i64 0] 26)
  have RR_1 := ((RR_0.on y1).alloc (.cells #[.slice Ax nx cx, .int .i64 (L.length : Nat)] 24)).alloc (.cells #[.int .i64 0, .int .i64 0] 26)
  have B_1 := ((B_0.on y1).alloc (.cells #[.slice Ax nx cx, .int .i64 (L.length : Nat)] 24)).alloc (.cells #[.int .i64 0, .int .i64 0] 26)
  have P_1 := ((P_0.on y1).alloc (.cells #[.slice Ax nx cx, .int .i64 (L.length : Nat)] 24)).alloc (.cells #[.int .i64 0, .int .i64 0] 26)
  have RX_1 := ((Rx).alloc (.cells #[.slice Ax nx cx, .int .i64 (L.length : Nat)] 24)).alloc (.cells #[.int .i64 0, .int .i64 0] 26)
  have X_1 := ((Two.new w1 24 (.slice Ax nx cx) (.int .i64 (L.length : Nat)))).alloc (.cells #[.int .i64 0, .int .i64 0] 26)
  have F_1 := (Two.new1 w1 (.cells #[.slice Ax nx cx, .int .i64 (L.length : Nat)] 24) 26 (.int .i64 0) (.int .i64 0))
  clear R_0 RR_0 B_0 B_0_c0 B_0_c1 P_0 P_0_c0 P_0_c1
  have z1 := Z0.trans (y1.mono Z0.size)
  have Z1 := ((z1).alloc (by have := z1.size; omega) (.cells #[.slice Ax nx cx, .int .i64 (L.length : Nat)] 24)).alloc (by have := z1.size; simp; omega) (.cells #[.int .i64 0, .int .i64 0] 26)
  have B_1_c0 := B_1.c0
  have B_1_c1 := B_1.c1
  have P_1_c0 := P_1.c0
  have P_1_c1 := P_1.c1
  have X_1_c0 := X_1.c0
  have X_1_c1 := X_1.c1
  have F_1_c0 := F_1.c0
  have F_1_c1 := F_1.c1
  go_wp2_with fail
  refine (strings_true _).mono ?_
  rintro e w2 ⟨rfl, y2⟩
  have R_2 := R_1.on y2
  have RR_2 := RR_1.on y2
  have B_2 := B_1.on y2
  have P_2 := P_1.on y2
  have RX_2 := RX_1.on y2
  have X_2 := X_1.on y2
  have F_2 := F_1.on y2
  clear R_1 RR_1 B_1 B_1_c0 B_1_c1 P_1 P_1_c0 P_1_c1 RX_1 X_1 X_1_c0 X_1_c1 F_1 F_1_c0 F_1_c1
  have z2 := Z1.trans (y2.mono Z1.size)
  have Z2 := z2
  have B_2_c0 := B_2.c0
  have B_2_c1 := B_2.c1
  have P_2_c0 := P_2.c0
  have P_2_c1 := P_2.c1
  have X_2_c0 := X_2.c0
  have X_2_c1 := X_2.c1
  have F_2_c0 := F_2.c0
  have F_2_c1 := F_2.c1
  go_wp2_with fail
  refine (bitsok_any RR_2 HD.out hlo hhi false ⟨(fun h => by cases h), fun h => absurd h HNO.out⟩).mono ?_
  rintro e w3 ⟨rfl, y3⟩
  have R_3 := R_2.on y3
  have RR_3 := RR_2.on y3
  have B_3 := B_2.on y3
  have P_3 := P_2.on y3
  have RX_3 := RX_2.on y3
  have X_3 := X_2.on y3
  have F_3 := F_2.on y3
  clear R_2 RR_2 B_2 B_2_c0 B_2_c1 P_2 P_2_c0 P_2_c1 RX_2 X_2 X_2_c0 X_2_c1 F_2 F_2_c0 F_2_c1
  have z3 := Z2.trans (y3.mono Z2.size)
  have Z3 := z3
  have B_3_c0 := B_3.c0
  have B_3_c1 := B_3.c1
  have P_3_c0 := P_3.c0
  have P_3_c1 := P_3.c1
  have X_3_c0 := X_3.c0
  have X_3_c1 := X_3.c1
  have F_3_c0 := F_3.c0
  have F_3_c1 := F_3.c1
  go_wp2
  go_ret
  exact ⟨rfl, Z3⟩
set_option maxRecDepth 100000 in
set_option maxHeartbeats 3200000 in
theorem grb_R2 {A : Option Addr} {n c : Nat} {l : List Nat} {x : Nat} (h01 : Is01 l) (hl : l.length ≤ 131072) (hx1 : 1 ≤ x) (hx : x ≤ 2147483647) (hs : l.length + gsz x ≤ 131072) {Ar : Option Addr} {nr cr : Nat} {r : List Nat} (r01 : Is01 r) (hr : r.length ≤ 131072) (hbig : 131072 < l.length + gsz x + r.length)  (w : World) (h : Rd w A n c (bcells (pack l))) (h2 : Rd w Ar nr cr (bcells (pack r))) :
    Calls Try.prog 7 #[.agg #[.slice A n c, .int .i64 (l.length : Nat)], .int .i64 (x : Nat), .agg #[.slice Ar nr cr, .int .i64 (r.length : Nat)]] w fun e w' => e = .returned (.bool true) ∧ Below w.heap.size w w' := by
  have H01 := Lib.hid h01
  have HLL := Lib.hid hl
  have HOK := Lib.hid (Ok.of_list h01 hl)
  clear h01
  obtain ⟨L, hL⟩ : ∃ L, L = l ++ gam x := ⟨_, rfl⟩
  have hLn : L.length = l.length + gsz x := by rw [hL, List.length_append, gam_length]
  have hLb : L.length ≤ 131072 := by omega
  have HAG := Lib.hid (fun W (hW : Rd W A n c (bcells (pack l))) => api_agamma hW H01.out HLL.out hx1 hx hs hL _ rfl)
  have HL01 := Lib.hid (show Is01 L by rw [hL]; exact H01.out.append (digs_01 _ _))
  have R01 := Lib.hid r01
  have HRL := Lib.hid hr
  have HROK := Lib.hid (Ok.of_list r01 hr)
  have hb2 : 131072 < L.length + r.length := by omega
  clear r01 hL hLn
  have R_0 := ((h).alloc (.cells #[.slice A n c, .int .i64 (l.length : Nat)] 24)).alloc (.cells #[.slice Ar nr cr, .int .i64 (r.length : Nat)] 24)
  have RR_0 := ((h2).alloc (.cells #[.slice A n c, .int .i64 (l.length : Nat)] 24)).alloc (.cells #[.slice Ar nr cr, .int .i64 (r.length : Nat)] 24)
  have B_0 := ((Two.new w 24 (.slice A n c) (.int .i64 (l.length : Nat)))).alloc (.cells #[.slice Ar nr cr, .int .i64 (r.length : Nat)] 24)
  have P_0 := (Two.new1 w (.cells #[.slice A n c, .int .i64 (l.length : Nat)] 24) 24 (.slice Ar nr cr) (.int .i64 (r.length : Nat)))
  have Z0 := ((Below.refl w.heap.size w).alloc (by simp) (.cells #[.slice A n c, .int .i64 (l.length : Nat)] 24)).alloc (by simp) (.cells #[.slice Ar nr cr, .int .i64 (r.length : Nat)] 24)
  have B_0_c0 := B_0.c0
  have B_0_c1 := B_0.c1
  have P_0_c0 := P_0.c0
  have P_0_c1 := P_0.c1
  go_enter Try.func7, Try.ntmps7
  go_wp2_with fail
  refine (HAG.out _ R_0).mono ?_
  rintro e w1 ⟨Ax, nx, cx, rfl, Rx, y1⟩
  have R_1 := ((R_0.on y1).alloc (.cells #[.slice Ax nx cx, .int .i64 (L.length : Nat)] 24)).alloc (.cells #[.int .i64 0, .int .i64 0] 26)
  have RR_1 := ((RR_0.on y1).alloc (.cells #[.slice Ax nx cx, .int .i64 (L.length : Nat)] 24)).alloc (.cells #[.int .i64 0, .int .i64 0] 26)
  have B_1 := ((B_0.on y1).alloc (.cells #[.slice Ax nx cx, .int .i64 (L.length : Nat)] 24)).alloc (.cells #[.int .i64 0, .int .i64 0] 26)
  have P_1 := ((P_0.on y1).alloc (.cells #[.slice Ax nx cx, .int .i64 (L.length : Nat)] 24)).alloc (.cells #[.int .i64 0, .int .i64 0] 26)
  have RX_1 := ((Rx).alloc (.cells #[.slice Ax nx cx, .int .i64 (L.length : Nat)] 24)).alloc (.cells #[.int .i64 0, .int .i64 0] 26)
  have X_1 := ((Two.new w1 24 (.slice Ax nx cx) (.int .i64 (L.length : Nat)))).alloc (.cells #[.int .i64 0, .int .i64 0] 26)
  have F_1 := (Two.new1 w1 (.cells #[.slice Ax nx cx, .int .i64 (L.length : Nat)] 24) 26 (.int .i64 0) (.int .i64 0))
  clear R_0 RR_0 B_0 B_0_c0 B_0_c1 P_0 P_0_c0 P_0_c1
  have z1 := Z0.trans (y1.mono Z0.size)
  have Z1 := ((z1).alloc (by have := z1.size; omega) (.cells #[.slice Ax nx cx, .int .i64 (L.length : Nat)] 24)).alloc (by have := z1.size; simp; omega) (.cells #[.int .i64 0, .int .i64 0] 26)
  have B_1_c0 := B_1.c0
  have B_1_c1 := B_1.c1
  have P_1_c0 := P_1.c0
  have P_1_c1 := P_1.c1
  have X_1_c0 := X_1.c0
  have X_1_c1 := X_1.c1
  have F_1_c0 := F_1.c0
  have F_1_c1 := F_1.c1
  go_wp2_with fail
  refine (strings_true _).mono ?_
  rintro e w2 ⟨rfl, y2⟩
  have R_2 := R_1.on y2
  have RR_2 := RR_1.on y2
  have B_2 := B_1.on y2
  have P_2 := P_1.on y2
  have RX_2 := RX_1.on y2
  have X_2 := X_1.on y2
  have F_2 := F_1.on y2
  clear R_1 RR_1 B_1 B_1_c0 B_1_c1 P_1 P_1_c0 P_1_c1 RX_1 X_1 X_1_c0 X_1_c1 F_1 F_1_c0 F_1_c1
  have z2 := Z1.trans (y2.mono Z1.size)
  have Z2 := z2
  have B_2_c0 := B_2.c0
  have B_2_c1 := B_2.c1
  have P_2_c0 := P_2.c0
  have P_2_c1 := P_2.c1
  have X_2_c0 := X_2.c0
  have X_2_c1 := X_2.c1
  have F_2_c0 := F_2.c0
  have F_2_c1 := F_2.c1
  go_wp2_with fail
  refine (bitsok_any RR_2 (pack_lt R01.out) (by omega) (by have := HRL.out; omega) true ⟨fun _ => HROK.out, fun _ => rfl⟩).mono ?_
  rintro e w3 ⟨rfl, y3⟩
  have R_3 := R_2.on y3
  have RR_3 := RR_2.on y3
  have B_3 := B_2.on y3
  have P_3 := P_2.on y3
  have RX_3 := RX_2.on y3
  have X_3 := X_2.on y3
  have F_3 := F_2.on y3
  clear R_2 RR_2 B_2 B_2_c0 B_2_c1 P_2 P_2_c0 P_2_c1 RX_2 X_2 X_2_c0 X_2_c1 F_2 F_2_c0 F_2_c1
  have z3 := Z2.trans (y3.mono Z2.size)
  have Z3 := z3
  have B_3_c0 := B_3.c0
  have B_3_c1 := B_3.c1
  have P_3_c0 := P_3.c0
  have P_3_c1 := P_3.c1
  have X_3_c0 := X_3.c0
  have X_3_c1 := X_3.c1
  have F_3_c0 := F_3.c0
  have F_3_c1 := F_3.c1
  go_wp2
  go_ret
  exact ⟨rfl, Z3⟩
set_option maxRecDepth 100000 in
set_option maxHeartbeats 3200000 in
theorem grb_R3 {A : Option Addr} {n c : Nat} {l : List Nat} {x : Nat} (h01 : Is01 l) (hl : l.length ≤ 131072) (hx1 : 1 ≤ x) (hx : x ≤ 2147483647) (hs : l.length + gsz x ≤ 131072) {Ar : Option Addr} {nr cr : Nat} {r : List Nat} (r01 : Is01 r) (hr : r.length ≤ 131072) (hbig : l.length + gsz x + r.length ≤ 131072)  (w : World) (h : Rd w A n c (bcells (pack l))) (h2 : Rd w Ar nr cr (bcells (pack r))) :
    Calls Try.prog 7 #[.agg #[.slice A n c, .int .i64 (l.length : Nat)], .int .i64 (x : Nat), .agg #[.slice Ar nr cr, .int .i64 (r.length : Nat)]] w fun e w' => e = .returned (.bool true) ∧ Below w.heap.size w w' := by
  have H01 := Lib.hid h01
  have HLL := Lib.hid hl
  have HOK := Lib.hid (Ok.of_list h01 hl)
  clear h01
  obtain ⟨L, hL⟩ : ∃ L, L = l ++ gam x := ⟨_, rfl⟩
  have hLn : L.length = l.length + gsz x := by rw [hL, List.length_append, gam_length]
  have hLb : L.length ≤ 131072 := by omega
  have HAG := Lib.hid (fun W (hW : Rd W A n c (bcells (pack l))) => api_agamma hW H01.out HLL.out hx1 hx hs hL _ rfl)
  have HL01 := Lib.hid (show Is01 L by rw [hL]; exact H01.out.append (digs_01 _ _))
  have R01 := Lib.hid r01
  have HRL := Lib.hid hr
  have HROK := Lib.hid (Ok.of_list r01 hr)
  have hb2 : L.length + r.length ≤ 131072 := by omega
  obtain ⟨J, hJ⟩ : ∃ J, J = L ++ r := ⟨_, rfl⟩
  have HJN := Lib.hid (show J.length ≤ 131072 by rw [hJ, List.length_append]; omega)
  have HJ01 := Lib.hid (show Is01 J by rw [hJ]; exact HL01.out.append r01)
  obtain ⟨E1, hE1⟩ : ∃ E1, E1 = l.length + gsz x := ⟨_, rfl⟩
  have HGA := Lib.hid (show GAt J l.length x E1 0 by rw [hJ, hL, hE1]; exact gat_gam l r x hx1 hx)
  have HJJ := Lib.hid hJ
  have hgs : gsz x ≤ 131072 := by omega
  have hw1 : IntKind.i64.wrap ((l.length : Int) + ((gsz x : Nat) : Int)) = (l.length : Int) + ((gsz x : Nat) : Int) := IntWalk.i64_in _ (by omega)
  have e1 : ((E1 : Int) == ((L.length : Nat) : Int)) = true := by rw [beq_iff_eq]; omega
  have e2 : ((E1 : Int) == (l.length : Int) + ((gsz x : Nat) : Int)) = true := by rw [beq_iff_eq]; omega
  have hlJ : l.length ≤ J.length := by rw [hJ, hL]; simp
  have hx63 : x < 9223372036854775808 := by omega
  clear r01 hL hLn hJ hE1
  have R_0 := ((h).alloc (.cells #[.slice A n c, .int .i64 (l.length : Nat)] 24)).alloc (.cells #[.slice Ar nr cr, .int .i64 (r.length : Nat)] 24)
  have RR_0 := ((h2).alloc (.cells #[.slice A n c, .int .i64 (l.length : Nat)] 24)).alloc (.cells #[.slice Ar nr cr, .int .i64 (r.length : Nat)] 24)
  have B_0 := ((Two.new w 24 (.slice A n c) (.int .i64 (l.length : Nat)))).alloc (.cells #[.slice Ar nr cr, .int .i64 (r.length : Nat)] 24)
  have P_0 := (Two.new1 w (.cells #[.slice A n c, .int .i64 (l.length : Nat)] 24) 24 (.slice Ar nr cr) (.int .i64 (r.length : Nat)))
  have Z0 := ((Below.refl w.heap.size w).alloc (by simp) (.cells #[.slice A n c, .int .i64 (l.length : Nat)] 24)).alloc (by simp) (.cells #[.slice Ar nr cr, .int .i64 (r.length : Nat)] 24)
  have B_0_c0 := B_0.c0
  have B_0_c1 := B_0.c1
  have P_0_c0 := P_0.c0
  have P_0_c1 := P_0.c1
  go_enter Try.func7, Try.ntmps7
  go_wp2_with fail
  refine (HAG.out _ R_0).mono ?_
  rintro e w1 ⟨Ax, nx, cx, rfl, Rx, y1⟩
  have R_1 := ((R_0.on y1).alloc (.cells #[.slice Ax nx cx, .int .i64 (L.length : Nat)] 24)).alloc (.cells #[.int .i64 0, .int .i64 0] 26)
  have RR_1 := ((RR_0.on y1).alloc (.cells #[.slice Ax nx cx, .int .i64 (L.length : Nat)] 24)).alloc (.cells #[.int .i64 0, .int .i64 0] 26)
  have B_1 := ((B_0.on y1).alloc (.cells #[.slice Ax nx cx, .int .i64 (L.length : Nat)] 24)).alloc (.cells #[.int .i64 0, .int .i64 0] 26)
  have P_1 := ((P_0.on y1).alloc (.cells #[.slice Ax nx cx, .int .i64 (L.length : Nat)] 24)).alloc (.cells #[.int .i64 0, .int .i64 0] 26)
  have RX_1 := ((Rx).alloc (.cells #[.slice Ax nx cx, .int .i64 (L.length : Nat)] 24)).alloc (.cells #[.int .i64 0, .int .i64 0] 26)
  have X_1 := ((Two.new w1 24 (.slice Ax nx cx) (.int .i64 (L.length : Nat)))).alloc (.cells #[.int .i64 0, .int .i64 0] 26)
  have F_1 := (Two.new1 w1 (.cells #[.slice Ax nx cx, .int .i64 (L.length : Nat)] 24) 26 (.int .i64 0) (.int .i64 0))
  clear R_0 RR_0 B_0 B_0_c0 B_0_c1 P_0 P_0_c0 P_0_c1
  have z1 := Z0.trans (y1.mono Z0.size)
  have Z1 := ((z1).alloc (by have := z1.size; omega) (.cells #[.slice Ax nx cx, .int .i64 (L.length : Nat)] 24)).alloc (by have := z1.size; simp; omega) (.cells #[.int .i64 0, .int .i64 0] 26)
  have B_1_c0 := B_1.c0
  have B_1_c1 := B_1.c1
  have P_1_c0 := P_1.c0
  have P_1_c1 := P_1.c1
  have X_1_c0 := X_1.c0
  have X_1_c1 := X_1.c1
  have F_1_c0 := F_1.c0
  have F_1_c1 := F_1.c1
  go_wp2_with fail
  refine (strings_true _).mono ?_
  rintro e w2 ⟨rfl, y2⟩
  have R_2 := R_1.on y2
  have RR_2 := RR_1.on y2
  have B_2 := B_1.on y2
  have P_2 := P_1.on y2
  have RX_2 := RX_1.on y2
  have X_2 := X_1.on y2
  have F_2 := F_1.on y2
  clear R_1 RR_1 B_1 B_1_c0 B_1_c1 P_1 P_1_c0 P_1_c1 RX_1 X_1 X_1_c0 X_1_c1 F_1 F_1_c0 F_1_c1
  have z2 := Z1.trans (y2.mono Z1.size)
  have Z2 := z2
  have B_2_c0 := B_2.c0
  have B_2_c1 := B_2.c1
  have P_2_c0 := P_2.c0
  have P_2_c1 := P_2.c1
  have X_2_c0 := X_2.c0
  have X_2_c1 := X_2.c1
  have F_2_c0 := F_2.c0
  have F_2_c1 := F_2.c1
  go_wp2_with fail
  refine (bitsok_any RR_2 (pack_lt R01.out) (by omega) (by have := HRL.out; omega) true ⟨fun _ => HROK.out, fun _ => rfl⟩).mono ?_
  rintro e w3 ⟨rfl, y3⟩
  have R_3 := R_2.on y3
  have RR_3 := RR_2.on y3
  have B_3 := B_2.on y3
  have P_3 := P_2.on y3
  have RX_3 := RX_2.on y3
  have X_3 := X_2.on y3
  have F_3 := F_2.on y3
  clear R_2 RR_2 B_2 B_2_c0 B_2_c1 P_2 P_2_c0 P_2_c1 RX_2 X_2 X_2_c0 X_2_c1 F_2 F_2_c0 F_2_c1
  have z3 := Z2.trans (y3.mono Z2.size)
  have Z3 := z3
  have B_3_c0 := B_3.c0
  have B_3_c1 := B_3.c1
  have P_3_c0 := P_3.c0
  have P_3_c1 := P_3.c1
  have X_3_c0 := X_3.c0
  have X_3_c1 := X_3.c1
  have F_3_c0 := F_3.c0
  have F_3_c1 := F_3.c1
  go_wp2_with fail
  refine (api_join2 RX_3 RR_3 HL01.out R01.out hb2 HJJ.out _ _ rfl rfl _ (by simp)).mono ?_
  rintro e w4 ⟨Ay, ny, cy, rfl, Ry, y4⟩
  have R_4 := ((R_3.on y4).alloc (.cells #[.slice Ay ny cy, .int .i64 (J.length : Nat)] 24)).alloc (.cells #[.int .i64 0, .int .i64 0] 26)
  have RR_4 := ((RR_3.on y4).alloc (.cells #[.slice Ay ny cy, .int .i64 (J.length : Nat)] 24)).alloc (.cells #[.int .i64 0, .int .i64 0] 26)
  have B_4 := ((B_3.on y4).alloc (.cells #[.slice Ay ny cy, .int .i64 (J.length : Nat)] 24)).alloc (.cells #[.int .i64 0, .int .i64 0] 26)
  have P_4 := ((P_3.on y4).alloc (.cells #[.slice Ay ny cy, .int .i64 (J.length : Nat)] 24)).alloc (.cells #[.int .i64 0, .int .i64 0] 26)
  have RX_4 := ((RX_3.on y4).alloc (.cells #[.slice Ay ny cy, .int .i64 (J.length : Nat)] 24)).alloc (.cells #[.int .i64 0, .int .i64 0] 26)
  have X_4 := ((X_3.on y4).alloc (.cells #[.slice Ay ny cy, .int .i64 (J.length : Nat)] 24)).alloc (.cells #[.int .i64 0, .int .i64 0] 26)
  have F_4 := ((F_3.on y4).alloc (.cells #[.slice Ay ny cy, .int .i64 (J.length : Nat)] 24)).alloc (.cells #[.int .i64 0, .int .i64 0] 26)
  have RY_4 := ((Ry).alloc (.cells #[.slice Ay ny cy, .int .i64 (J.length : Nat)] 24)).alloc (.cells #[.int .i64 0, .int .i64 0] 26)
  have Y_4 := ((Two.new w4 24 (.slice Ay ny cy) (.int .i64 (J.length : Nat)))).alloc (.cells #[.int .i64 0, .int .i64 0] 26)
  have G_4 := (Two.new1 w4 (.cells #[.slice Ay ny cy, .int .i64 (J.length : Nat)] 24) 26 (.int .i64 0) (.int .i64 0))
  clear R_3 RR_3 B_3 B_3_c0 B_3_c1 P_3 P_3_c0 P_3_c1 RX_3 X_3 X_3_c0 X_3_c1 F_3 F_3_c0 F_3_c1
  have z4 := Z3.trans (y4.mono Z3.size)
  have Z4 := ((z4).alloc (by have := z4.size; omega) (.cells #[.slice Ay ny cy, .int .i64 (J.length : Nat)] 24)).alloc (by have := z4.size; simp; omega) (.cells #[.int .i64 0, .int .i64 0] 26)
  have B_4_c0 := B_4.c0
  have B_4_c1 := B_4.c1
  have P_4_c0 := P_4.c0
  have P_4_c1 := P_4.c1
  have X_4_c0 := X_4.c0
  have X_4_c1 := X_4.c1
  have F_4_c0 := F_4.c0
  have F_4_c1 := F_4.c1
  have Y_4_c0 := Y_4.c0
  have Y_4_c1 := Y_4.c1
  have G_4_c0 := G_4.c0
  have G_4_c1 := G_4.c1
  go_wp2_with fail
  refine (rg_ok RY_4 HJ01.out HJN.out hlJ HGA.out).mono ?_
  rintro e w5 ⟨rfl, y5⟩
  have R_5 := (R_4.on y5).alloc (.cells #[.int .i64 0, .int .i64 0] 26)
  have RR_5 := (RR_4.on y5).alloc (.cells #[.int .i64 0, .int .i64 0] 26)
  have B_5 := (B_4.on y5).alloc (.cells #[.int .i64 0, .int .i64 0] 26)
  have P_5 := (P_4.on y5).alloc (.cells #[.int .i64 0, .int .i64 0] 26)
  have RX_5 := (RX_4.on y5).alloc (.cells #[.int .i64 0, .int .i64 0] 26)
  have X_5 := (X_4.on y5).alloc (.cells #[.int .i64 0, .int .i64 0] 26)
  have F_5 := (F_4.on y5).alloc (.cells #[.int .i64 0, .int .i64 0] 26)
  have RY_5 := (RY_4.on y5).alloc (.cells #[.int .i64 0, .int .i64 0] 26)
  have Y_5 := (Y_4.on y5).alloc (.cells #[.int .i64 0, .int .i64 0] 26)
  have G_5 := (G_4.on y5).alloc (.cells #[.int .i64 0, .int .i64 0] 26)
  have E_5 := (Two.new w5 26 (.int .i64 0) (.int .i64 0))
  clear R_4 RR_4 B_4 B_4_c0 B_4_c1 P_4 P_4_c0 P_4_c1 RX_4 X_4 X_4_c0 X_4_c1 F_4 F_4_c0 F_4_c1 RY_4 Y_4 Y_4_c0 Y_4_c1 G_4 G_4_c0 G_4_c1
  have z5 := Z4.trans (y5.mono Z4.size)
  have Z5 := (z5).alloc (by have := z5.size; omega) (.cells #[.int .i64 0, .int .i64 0] 26)
  have B_5_c0 := B_5.c0
  have B_5_c1 := B_5.c1
  have P_5_c0 := P_5.c0
  have P_5_c1 := P_5.c1
  have X_5_c0 := X_5.c0
  have X_5_c1 := X_5.c1
  have F_5_c0 := F_5.c0
  have F_5_c1 := F_5.c1
  have Y_5_c0 := Y_5.c0
  have Y_5_c1 := Y_5.c1
  have G_5_c0 := G_5.c0
  have G_5_c1 := G_5.c1
  have E_5_c0 := E_5.c0
  have E_5_c1 := E_5.c1
  go_wp2_with fail
  go_region_held3 (fun w' => w'.cell? ⟨w4.heap.size + 1, 0, none⟩ = some (.int .i64 0) ∧ w'.cell? ⟨w4.heap.size + 1, 1, none⟩ = some (.int .i64 0) ∧ w'.cell? ⟨w5.heap.size, 0, none⟩ = some (.int .i64 0) ∧ w'.cell? ⟨w5.heap.size, 1, none⟩ = some (.int .i64 0) ∧ w'.cell? ⟨w1.heap.size, 0, none⟩ = some (.slice Ax nx cx) ∧ w'.cell? ⟨w1.heap.size, 1, none⟩ = some (.int .i64 (L.length : Nat)) ∧ w'.cell? ⟨w.heap.size, 0, none⟩ = some (.slice A n c) ∧ w'.cell? ⟨w.heap.size, 1, none⟩ = some (.int .i64 (l.length : Nat))) (go_keep) ((go_at_call 21; refine (api_gsize hx1 hx63).mono ?_; rintro e w9 ⟨rfl, rfl⟩))
  have R_6 := (Rd.drew R_5)
  have RR_6 := (Rd.drew RR_5)
  have B_6 := (Two.drew B_5)
  have P_6 := (Two.drew P_5)
  have RX_6 := (Rd.drew RX_5)
  have X_6 := (Two.drew X_5)
  have F_6 := (Two.drew F_5)
  have RY_6 := (Rd.drew RY_5)
  have Y_6 := (Two.drew Y_5)
  have G_6 := (Two.drew G_5)
  have E_6 := (Two.drew E_5)
  have Z6 := belowD Z5
  clear R_5 RR_5 B_5 B_5_c0 B_5_c1 P_5 P_5_c0 P_5_c1 RX_5 X_5 X_5_c0 X_5_c1 F_5 F_5_c0 F_5_c1 RY_5 Y_5 Y_5_c0 Y_5_c1 G_5 G_5_c0 G_5_c1 E_5 E_5_c0 E_5_c1
  have B_6_c0 := B_6.c0
  have B_6_c1 := B_6.c1
  have P_6_c0 := P_6.c0
  have P_6_c1 := P_6.c1
  have X_6_c0 := X_6.c0
  have X_6_c1 := X_6.c1
  have F_6_c0 := F_6.c0
  have F_6_c1 := F_6.c1
  have Y_6_c0 := Y_6.c0
  have Y_6_c1 := Y_6.c1
  have G_6_c0 := G_6.c0
  have G_6_c1 := G_6.c1
  have E_6_c0 := E_6.c0
  have E_6_c1 := E_6.c1
  go_wp2
  go_ret
  exact ⟨rfl, Z6⟩
theorem grb_all {A : Option Addr} {n c : Nat} {d : List Nat} {cnt x : Int} {Ar : Option Addr} {nr cr : Nat} {d2 : List Nat} {cnt2 : Int} (hd : ∀ k, d.getD k 0 < 256) (hd2 : ∀ k, d2.getD k 0 < 256) (hlo : -9223372036854775808 ≤ cnt2) (hhi : cnt2 ≤ 9223372036854775807) (w : World) (h : Rd w A n c (bcells d)) (h2 : Rd w Ar nr cr (bcells d2)) :
    Calls Try.prog 7 #[.agg #[.slice A n c, .int .i64 cnt], .int .i64 x, .agg #[.slice Ar nr cr, .int .i64 cnt2]] w fun e w' => e = .returned (.bool true) ∧ Below w.heap.size w w' := by
  rcases agamma_cases d cnt x hd with ⟨code, idx, hE⟩ | ⟨l, y, g1, g2, rfl, rfl, rfl, g3, g4, g5⟩
  · exact grb_E hd hE w h
  by_cases hok : Ok d2 cnt2
  · obtain ⟨r, k1, k2, rfl, rfl⟩ := hok.list hd2
    by_cases hb : l.length + gsz y + r.length ≤ 131072
    · exact grb_R3 g1 g2 g3 g4 g5 k1 k2 hb w h h2
    · exact grb_R2 g1 g2 g3 g4 g5 k1 k2 (by omega) w h h2
  · exact grb_R1 g1 g2 g3 g4 g5 hd2 hlo hhi hok w h h2
end PB
end Go.Proofs.Ytcmglfgibedpbaa
