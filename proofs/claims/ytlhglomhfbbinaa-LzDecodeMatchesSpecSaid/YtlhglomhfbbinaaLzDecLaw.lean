/-
  Tokens of a code, with all faults, are as specified: the walk of the statement LzDecodeMatchesSpec.
-/
import Derived.Test.YtlhglomhfbbinaaRows
import Derived.Test.YtlhglomhfbbinaaLzEx
import Derived.Test.YtlhglomhfbbinaaLzRefDec
import Derived.Test.YtlhglomhfbbinaaBitsRef2
import Derived.Deep.RegionHeld3
import Derived.Deep.DrawnRows
import Derived.Lib.SlBytesConst
namespace Go.Proofs.Ytlhglomhfbbinaa
open Go.RowKit
attribute [local go_sem ↓] Go.wp_at_zero Go.wp_at_succ
set_option linter.unusedVariables false
set_option linter.unusedSimpArgs false
namespace PB
theorem dec_all {A : Option Addr} {n c : Nat} {l : List Nat} {count cd ix en : Nat} {ts : List Tok} {w : World} (h : Rd w A n c (bcells (pack l))) (h01 : Is01 l) (hl : l.length ≤ 131072) (hc : count ≤ 1024) (hD : Dec l 0 count cd ix ts en) (e2 i2 : Nat) (he2 : e2 = if cd = 0 then en else 0) (hi2 : i2 = if cd = 0 then 0 else ix) (t2 : List Tok) (ht2 : t2 = if cd = 0 then ts else []) :
    Calls Try.prog 27 #[.agg #[.slice A n c, .int .i64 l.length], .int .i64 (count : Nat)] w fun e w' => ∃ A' m' c', e = .returned (.tuple #[.slice A' m' c', .int .i64 (e2 : Nat), .agg #[.int .i64 (cd : Nat), .int .i64 (i2 : Nat)]]) ∧ RdT w' A' m' c' t2 ∧ Below w.heap.size w w' := by
  subst he2 hi2 ht2
  refine (lzdec_ok h h01 hl hc hD).mono ?_
  rintro e w' ⟨A', m, c', rfl, ho, hb⟩
  exact ⟨A', m, c', rfl, RdT.own ho, hb⟩
theorem dec_ref {A : Option Addr} {N c : Nat} {l : List Nat} {count cd ix en : Nat} {ts : List Tok} {w : World} (h : Rd w A l.length c (ncells l)) (h01 : Is01 l) (hl : l.length ≤ 131072) (hc : count ≤ 1024) (hD : Dec l 0 count cd ix ts en) (e2 i2 : Nat) (he2 : e2 = if cd = 0 then en else 0) (hi2 : i2 = if cd = 0 then 0 else ix) (t2 : List Tok) (ht2 : t2 = if cd = 0 then ts else []) :
    Calls Try.prog 31 #[.slice A l.length c, .int .i64 (count : Nat)] w fun e w' => ∃ A' m' c', e = .returned (.tuple #[.slice A' m' c', .int .i64 (e2 : Nat), .agg #[.int .i64 (cd : Nat), .int .i64 (i2 : Nat)]]) ∧ RdT w' A' m' c' t2 ∧ Below w.heap.size w w' := by
  subst he2 hi2 ht2
  refine (tokensat_any rfl h h01 hl hc hD).mono ?_
  rintro e w' ⟨A', m, c', rfl, ho, hb⟩
  exact ⟨A', m, c', rfl, RdT.own ho, hb⟩
set_option maxRecDepth 100000 in
set_option maxHeartbeats 3200000 in
theorem lx_form {A : Option Addr} {n c : Nat} {d : List Nat} {cnt x : Int} (hd : ∀ k, d.getD k 0 < 256) (hlo : -9223372036854775808 ≤ cnt) (hhi : cnt ≤ 9223372036854775807) (hno : ¬ Ok d cnt)  (w : World) (h : Rd w A n c (bcells d)) :
    Calls Try.prog 9 #[.agg #[.slice A n c, .int .i64 cnt], .int .i64 x] w fun e w' => e = .returned (.bool true) ∧ Below w.heap.size w w' := by
  have HD := Lib.hid hd
  have HNO := Lib.hid hno
  clear hd hno
  have R_0 := (h).alloc (.cells #[.slice A n c, .int .i64 cnt] 43)
  have B_0 := (Two.new w 43 (.slice A n c) (.int .i64 cnt))
  have Z0 := (Below.refl w.heap.size w).alloc (by simp) (.cells #[.slice A n c, .int .i64 cnt] 43)
  have B_0_c0 := B_0.c0
  have B_0_c1 := B_0.c1
  go_enter Try.func9, Try.ntmps9
  go_wp2_with fail
  refine (lzdec_form R_0 HNO.out).mono ?_
  rintro e w1 ⟨rfl, y1⟩
  have R_1 := (R_0.on y1).alloc (.cells #[.int .i64 6, .int .i64 (-1)] 25)
  have B_1 := (B_0.on y1).alloc (.cells #[.int .i64 6, .int .i64 (-1)] 25)
  have F_1 := (Two.new w1 25 (.int .i64 6) (.int .i64 (-1)))
  clear R_0 B_0 B_0_c0 B_0_c1
  have z1 := Z0.trans (y1.mono Z0.size)
  have Z1 := (z1).alloc (by have := z1.size; omega) (.cells #[.int .i64 6, .int .i64 (-1)] 25)
  have B_1_c0 := B_1.c0
  have B_1_c1 := B_1.c1
  have F_1_c0 := F_1.c0
  have F_1_c1 := F_1.c1
  go_wp2_with fail
  refine (matches_true _).mono ?_
  rintro e w2 ⟨rfl, y2⟩
  have R_2 := R_1.on y2
  have B_2 := B_1.on y2
  have F_2 := F_1.on y2
  clear R_1 B_1 B_1_c0 B_1_c1 F_1 F_1_c0 F_1_c1
  have z2 := Z1.trans (y2.mono Z1.size)
  have Z2 := z2
  have B_2_c0 := B_2.c0
  have B_2_c1 := B_2.c1
  have F_2_c0 := F_2.c0
  have F_2_c1 := F_2.c1
  go_wp2_with fail
  refine (bitsok_any R_2 HD.out hlo hhi false ⟨(fun h => by cases h), fun h => absurd h HNO.out⟩).mono ?_
  rintro e w3 ⟨rfl, y3⟩
  have R_3 := R_2.on y3
  have B_3 := B_2.on y3
  have F_3 := F_2.on y3
  clear R_2 B_2 B_2_c0 B_2_c1 F_2 F_2_c0 F_2_c1
  have z3 := Z2.trans (y3.mono Z2.size)
  have Z3 := z3
  have B_3_c0 := B_3.c0
  have B_3_c1 := B_3.c1
  have F_3_c0 := F_3.c0
  have F_3_c1 := F_3.c1
  go_wp2_with fail
  go_region_held3 (fun w' => w'.cell? ⟨w1.heap.size, 0, none⟩ = some (.int .i64 6) ∧ w'.cell? ⟨w1.heap.size, 1, none⟩ = some (.int .i64 (-1))) (go_keep) ((go_at_call 29; refine (refat_any _ _ _).mono ?_; rintro e w4 ⟨rfl, y4⟩; have Y4 : Below w3.heap.size w3.drew w4 := y4; have F_4_c0 := ((Two.on (w := w3.drew) F_3 Y4)).c0; have F_4_c1 := ((Two.on (w := w3.drew) F_3 Y4)).c1))
  have R_4 := (Rd.on (w := w3.drew) R_3 Y4)
  have B_4 := (Two.on (w := w3.drew) B_3 Y4)
  have F_4 := (Two.on (w := w3.drew) F_3 Y4)
  have Z4 := (belowD Z3).trans (Y4.mono (belowD Z3).size)
  clear F_4_c0 F_4_c1
  clear R_3 B_3 B_3_c0 B_3_c1 F_3 F_3_c0 F_3_c1
  have B_4_c0 := B_4.c0
  have B_4_c1 := B_4.c1
  have F_4_c0 := F_4.c0
  have F_4_c1 := F_4.c1
  go_wp2
  go_ret
  exact ⟨rfl, Z4⟩
set_option maxRecDepth 100000 in
set_option maxHeartbeats 3200000 in
theorem lx_range {A : Option Addr} {n c : Nat} {l : List Nat} (h01 : Is01 l) (hl : l.length ≤ 131072) {x : Int} (hr : x < 0 ∨ 1024 < x)  (w : World) (h : Rd w A n c (bcells (pack l))) :
    Calls Try.prog 9 #[.agg #[.slice A n c, .int .i64 (l.length : Nat)], .int .i64 x] w fun e w' => e = .returned (.bool true) ∧ Below w.heap.size w w' := by
  have H01 := Lib.hid h01
  have HLL := Lib.hid hl
  have HOK := Lib.hid (Ok.of_list h01 hl)
  clear h01
  have HR := Lib.hid hr
  clear hr
  have R_0 := (h).alloc (.cells #[.slice A n c, .int .i64 (l.length : Nat)] 43)
  have B_0 := (Two.new w 43 (.slice A n c) (.int .i64 (l.length : Nat)))
  have Z0 := (Below.refl w.heap.size w).alloc (by simp) (.cells #[.slice A n c, .int .i64 (l.length : Nat)] 43)
  have B_0_c0 := B_0.c0
  have B_0_c1 := B_0.c1
  go_enter Try.func9, Try.ntmps9
  go_wp2_with fail
  refine (lzdec_range R_0 H01.out HLL.out HR.out).mono ?_
  rintro e w1 ⟨rfl, y1⟩
  have R_1 := (R_0.on y1).alloc (.cells #[.int .i64 4, .int .i64 (-2)] 25)
  have B_1 := (B_0.on y1).alloc (.cells #[.int .i64 4, .int .i64 (-2)] 25)
  have F_1 := (Two.new w1 25 (.int .i64 4) (.int .i64 (-2)))
  clear R_0 B_0 B_0_c0 B_0_c1
  have z1 := Z0.trans (y1.mono Z0.size)
  have Z1 := (z1).alloc (by have := z1.size; omega) (.cells #[.int .i64 4, .int .i64 (-2)] 25)
  have B_1_c0 := B_1.c0
  have B_1_c1 := B_1.c1
  have F_1_c0 := F_1.c0
  have F_1_c1 := F_1.c1
  go_wp2_with fail
  refine (matches_true _).mono ?_
  rintro e w2 ⟨rfl, y2⟩
  have R_2 := R_1.on y2
  have B_2 := B_1.on y2
  have F_2 := F_1.on y2
  clear R_1 B_1 B_1_c0 B_1_c1 F_1 F_1_c0 F_1_c1
  have z2 := Z1.trans (y2.mono Z1.size)
  have Z2 := z2
  have B_2_c0 := B_2.c0
  have B_2_c1 := B_2.c1
  have F_2_c0 := F_2.c0
  have F_2_c1 := F_2.c1
  go_wp2_with fail
  refine (bitsok_any R_2 (pack_lt H01.out) (by omega) (by have := HLL.out; omega) true ⟨fun _ => HOK.out, fun _ => rfl⟩).mono ?_
  rintro e w3 ⟨rfl, y3⟩
  have R_3 := R_2.on y3
  have B_3 := B_2.on y3
  have F_3 := F_2.on y3
  clear R_2 B_2 B_2_c0 B_2_c1 F_2 F_2_c0 F_2_c1
  have z3 := Z2.trans (y3.mono Z2.size)
  have Z3 := z3
  have B_3_c0 := B_3.c0
  have B_3_c1 := B_3.c1
  have F_3_c0 := F_3.c0
  have F_3_c1 := F_3.c1
  go_wp2_with fail
  refine (in_no _ 0 1024 _ HR.out).mono ?_
  rintro e w9_1 ⟨rfl, rfl⟩
  go_wp2_with fail
  go_region_held3 (fun w' => w'.cell? ⟨w1.heap.size, 0, none⟩ = some (.int .i64 4) ∧ w'.cell? ⟨w1.heap.size, 1, none⟩ = some (.int .i64 (-2))) (go_keep) ((go_at_call 29; refine (refat_any _ _ _).mono ?_; rintro e w4 ⟨rfl, y4⟩; have Y4 : Below w3.heap.size w3.drew w4 := y4; have F_4_c0 := ((Two.on (w := w3.drew) F_3 Y4)).c0; have F_4_c1 := ((Two.on (w := w3.drew) F_3 Y4)).c1))
  have R_4 := (Rd.on (w := w3.drew) R_3 Y4)
  have B_4 := (Two.on (w := w3.drew) B_3 Y4)
  have F_4 := (Two.on (w := w3.drew) F_3 Y4)
  have Z4 := (belowD Z3).trans (Y4.mono (belowD Z3).size)
  clear F_4_c0 F_4_c1
  clear R_3 B_3 B_3_c0 B_3_c1 F_3 F_3_c0 F_3_c1
  have B_4_c0 := B_4.c0
  have B_4_c1 := B_4.c1
  have F_4_c0 := F_4.c0
  have F_4_c1 := F_4.c1
  go_wp2
  go_ret
  exact ⟨rfl, Z4⟩
set_option maxRecDepth 100000 in
set_option maxHeartbeats 3200000 in
theorem lx_ok {A : Option Addr} {n c : Nat} {l : List Nat} (h01 : Is01 l) (hl : l.length ≤ 131072) {x cd ix en : Nat} {ts : List Tok} (hx : x ≤ 1024) (hD : Dec l 0 x cd ix ts en)  (w : World) (h : Rd w A n c (bcells (pack l))) :
    Calls Try.prog 9 #[.agg #[.slice A n c, .int .i64 (l.length : Nat)], .int .i64 (x : Nat)] w fun e w' => e = .returned (.bool true) ∧ Below w.heap.size w w' := by
  have H01 := Lib.hid h01
  have HLL := Lib.hid hl
  have HOK := Lib.hid (Ok.of_list h01 hl)
  clear h01
  obtain ⟨e2, he2⟩ : ∃ e2, e2 = if cd = 0 then en else 0 := ⟨_, rfl⟩
  obtain ⟨i2, hi2⟩ : ∃ i2, i2 = if cd = 0 then 0 else ix := ⟨_, rfl⟩
  obtain ⟨t2, ht2⟩ : ∃ t2, t2 = if cd = 0 then ts else [] := ⟨_, rfl⟩
  have HDEC := Lib.hid (fun (W : World) (hW : Rd W A n c (bcells (pack l))) => dec_all hW H01.out HLL.out hx hD e2 i2 he2 hi2 t2 ht2)
  have HREF := Lib.hid (fun (A' : Option Addr) (c' : Nat) (W : World) (hW : Rd W A' l.length c' (ncells l)) => dec_ref (N := 0) hW H01.out HLL.out hx hD e2 i2 he2 hi2 t2 ht2)
  clear he2 hi2 ht2 hD
  have R_0 := (h).alloc (.cells #[.slice A n c, .int .i64 (l.length : Nat)] 43)
  have B_0 := (Two.new w 43 (.slice A n c) (.int .i64 (l.length : Nat)))
  have Z0 := (Below.refl w.heap.size w).alloc (by simp) (.cells #[.slice A n c, .int .i64 (l.length : Nat)] 43)
  have B_0_c0 := B_0.c0
  have B_0_c1 := B_0.c1
  go_enter Try.func9, Try.ntmps9
  go_wp2_with fail
  refine (HDEC.out _ R_0).mono ?_
  rintro e w1 ⟨A1, m1, c1, rfl, M1, y1⟩
  have R_1 := (R_0.on y1).alloc (.cells #[.int .i64 (cd : Nat), .int .i64 (i2 : Nat)] 25)
  have B_1 := (B_0.on y1).alloc (.cells #[.int .i64 (cd : Nat), .int .i64 (i2 : Nat)] 25)
  have M_1 := (M1).alloc (.cells #[.int .i64 (cd : Nat), .int .i64 (i2 : Nat)] 25)
  have F_1 := (Two.new w1 25 (.int .i64 (cd : Nat)) (.int .i64 (i2 : Nat)))
  clear R_0 B_0 B_0_c0 B_0_c1
  have z1 := Z0.trans (y1.mono Z0.size)
  have Z1 := (z1).alloc (by have := z1.size; omega) (.cells #[.int .i64 (cd : Nat), .int .i64 (i2 : Nat)] 25)
  have B_1_c0 := B_1.c0
  have B_1_c1 := B_1.c1
  have F_1_c0 := F_1.c0
  have F_1_c1 := F_1.c1
  go_wp2_with fail
  refine (matches_true _).mono ?_
  rintro e w2 ⟨rfl, y2⟩
  have R_2 := R_1.on y2
  have B_2 := B_1.on y2
  have M_2 := M_1.on y2
  have F_2 := F_1.on y2
  clear R_1 B_1 B_1_c0 B_1_c1 M_1 F_1 F_1_c0 F_1_c1
  have z2 := Z1.trans (y2.mono Z1.size)
  have Z2 := z2
  have B_2_c0 := B_2.c0
  have B_2_c1 := B_2.c1
  have F_2_c0 := F_2.c0
  have F_2_c1 := F_2.c1
  go_wp2_with fail
  refine (bitsok_any R_2 (pack_lt H01.out) (by omega) (by have := HLL.out; omega) true ⟨fun _ => HOK.out, fun _ => rfl⟩).mono ?_
  rintro e w3 ⟨rfl, y3⟩
  have R_3 := R_2.on y3
  have B_3 := B_2.on y3
  have M_3 := M_2.on y3
  have F_3 := F_2.on y3
  clear R_2 B_2 B_2_c0 B_2_c1 M_2 F_2 F_2_c0 F_2_c1
  have z3 := Z2.trans (y3.mono Z2.size)
  have Z3 := z3
  have B_3_c0 := B_3.c0
  have B_3_c1 := B_3.c1
  have F_3_c0 := F_3.c0
  have F_3_c1 := F_3.c1
  go_wp2_with fail
  refine (in_yes (x : Nat) 0 1024 _ (by omega) (by omega)).mono ?_
  rintro e w9_1 ⟨rfl, rfl⟩
  go_wp2_with fail
  refine (bits_any R_3 H01.out HLL.out _ rfl).mono ?_
  rintro e w4 ⟨A2, c2, rfl, L1, y4⟩
  have R_4 := R_3.on y4
  have B_4 := B_3.on y4
  have M_4 := M_3.on y4
  have F_4 := F_3.on y4
  have L_4 := L1
  clear R_3 B_3 B_3_c0 B_3_c1 M_3 F_3 F_3_c0 F_3_c1
  have z4 := Z3.trans (y4.mono Z3.size)
  have Z4 := z4
  have B_4_c0 := B_4.c0
  have B_4_c1 := B_4.c1
  have F_4_c0 := F_4.c0
  have F_4_c1 := F_4.c1
  go_wp2_with fail
  refine (HREF.out _ _ _ (Rd.own L_4)).mono ?_
  rintro e w5 ⟨A3, m3, c3, rfl, N1, y5⟩
  have R_5 := (R_4.on y5).alloc (.cells #[.int .i64 (cd : Nat), .int .i64 (i2 : Nat)] 25)
  have B_5 := (B_4.on y5).alloc (.cells #[.int .i64 (cd : Nat), .int .i64 (i2 : Nat)] 25)
  have M_5 := (M_4.on y5).alloc (.cells #[.int .i64 (cd : Nat), .int .i64 (i2 : Nat)] 25)
  have F_5 := (F_4.on y5).alloc (.cells #[.int .i64 (cd : Nat), .int .i64 (i2 : Nat)] 25)
  have L_5 := (own_on L_4 y5).alloc (.cells #[.int .i64 (cd : Nat), .int .i64 (i2 : Nat)] 25)
  have N_5 := (N1).alloc (.cells #[.int .i64 (cd : Nat), .int .i64 (i2 : Nat)] 25)
  have G_5 := (Two.new w5 25 (.int .i64 (cd : Nat)) (.int .i64 (i2 : Nat)))
  clear R_4 B_4 B_4_c0 B_4_c1 M_4 F_4 F_4_c0 F_4_c1 L_4
  have z5 := Z4.trans (y5.mono Z4.size)
  have Z5 := (z5).alloc (by have := z5.size; omega) (.cells #[.int .i64 (cd : Nat), .int .i64 (i2 : Nat)] 25)
  have B_5_c0 := B_5.c0
  have B_5_c1 := B_5.c1
  have F_5_c0 := F_5.c0
  have F_5_c1 := F_5.c1
  have G_5_c0 := G_5.c0
  have G_5_c1 := G_5.c1
  go_wp2_with fail
  refine (tokens_any M_5 N_5 true ⟨fun _ => rfl, fun _ => rfl⟩).mono ?_
  rintro e w6 ⟨rfl, y6⟩
  have R_6 := R_5.on y6
  have B_6 := B_5.on y6
  have M_6 := M_5.on y6
  have F_6 := F_5.on y6
  have L_6 := own_on L_5 y6
  have N_6 := N_5.on y6
  have G_6 := G_5.on y6
  clear R_5 B_5 B_5_c0 B_5_c1 M_5 F_5 F_5_c0 F_5_c1 L_5 N_5 G_5 G_5_c0 G_5_c1
  have z6 := Z5.trans (y6.mono Z5.size)
  have Z6 := z6
  have B_6_c0 := B_6.c0
  have B_6_c1 := B_6.c1
  have F_6_c0 := F_6.c0
  have F_6_c1 := F_6.c1
  have G_6_c0 := G_6.c0
  have G_6_c1 := G_6.c1
  go_wp2
  go_ret
  exact ⟨rfl, Z6⟩
theorem lx_all {A : Option Addr} {n c : Nat} {d : List Nat} {cnt x : Int} (hd : ∀ k, d.getD k 0 < 256) (hlo : -9223372036854775808 ≤ cnt) (hhi : cnt ≤ 9223372036854775807) (w : World) (h : Rd w A n c (bcells d)) :
    Calls Try.prog 9 #[.agg #[.slice A n c, .int .i64 cnt], .int .i64 x] w fun e w' => e = .returned (.bool true) ∧ Below w.heap.size w w' := by
  by_cases hok : Ok d cnt
  · obtain ⟨l, q1, q2, rfl, rfl⟩ := hok.list hd
    by_cases hr : x < 0 ∨ 1024 < x
    · exact lx_range q1 q2 hr w h
    · obtain ⟨k, rfl⟩ : ∃ k : Nat, x = (k : Nat) := ⟨x.toNat, by omega⟩
      obtain ⟨cd, ix, ts, en, hD⟩ := dec_ex q1 k 0 (Nat.zero_le _)
      exact lx_ok q1 q2 (by omega) hD w h
  · exact lx_form hd hlo hhi hok w h
end PB
end Go.Proofs.Ytlhglomhfbbinaa
