/-
  The tokens of a parse are decoded from their code, whatever follows it: the walk of the statement LzDecodesItsCodes.
-/
import Derived.Test.YtlhglomhfbbinaaRows
import Derived.Test.YtlhglomhfbbinaaLzApi
import Derived.Test.YtlhglomhfbbinaaBitsRef5
import Derived.Test.YtlhglomhfbbinaaBitsApi2
import Derived.Deep.RegionHeld3
import Derived.Deep.DrawnRows
import Derived.Lib.SlBytesConst
namespace Go.Proofs.Ytlhglomhfbbinaa
open Go.RowKit
attribute [local go_sem ↓] Go.wp_at_zero Go.wp_at_succ
set_option linter.unusedVariables false
set_option linter.unusedSimpArgs false
namespace PB
theorem enc_api {A : Option Addr} {m c : Nat} {ts : List Tok} {w : World} (h : RdT w A m c ts) (h1 : ts.length ≤ 1024) (h2 : ∀ t ∈ ts, t.ok ∧ t.lit < 256) (L : List Nat) (hL : L = codeOf ts) :
    Calls Try.prog 22 #[.slice A m c] w fun e w' => ∃ A' n' c', e = .returned (.tuple #[.agg #[.slice A' n' c', .int .i64 (L.length : Nat)], .agg #[.int .i64 0, .int .i64 0]]) ∧ Rd w' A' n' c' (bcells (pack L)) ∧ Below w.heap.size w w' := by
  subst hL
  exact (lzenc_ok h h1 (AllTok.of _ fun t ht => (h2 t ht).1) (fun t ht => (h2 t ht).2)).mono fun e w' ⟨A', n', c', h1, h2, h3⟩ => ⟨A', n', c', h1, Rd.own h2, h3⟩
theorem dec_api {A : Option Addr} {n c : Nat} {J : List Nat} {ts : List Tok} {count : Nat} {w : World} (h : Rd w A n c (bcells (pack J))) (h01 : Is01 J) (hJ : J.length ≤ 131072) (hc : count ≤ 1024) (k : Nat) (hD : Dec J 0 count 0 0 ts k) :
    Calls Try.prog 27 #[.agg #[.slice A n c, .int .i64 J.length], .int .i64 (count : Nat)] w fun e w' => ∃ A' m' c', e = .returned (.tuple #[.slice A' m' c', .int .i64 (k : Nat), .agg #[.int .i64 0, .int .i64 0]]) ∧ RdT w' A' m' c' ts ∧ Below w.heap.size w w' := by
  refine (lzdec_ok h h01 hJ hc hD).mono ?_
  rintro e w' ⟨A', m, c', rfl, ho, hb⟩
  rw [if_pos rfl] at ho
  exact ⟨A', m, c', rfl, RdT.own ho, hb⟩
set_option maxRecDepth 100000 in
set_option maxHeartbeats 3200000 in
theorem ld_long {A : Option Addr} {n c : Nat} {d : List Nat} {A2 : Option Addr} {n2 c2 : Nat} {d2 : List Nat} {A3 : Option Addr} {n3 c3 : Nat} (hd : ∀ k, d.getD k 0 < 256) (hd2 : ∀ k, d2.getD k 0 < 256) {d3 : List Nat} {cnt : Int} (hd3 : ∀ k, d3.getD k 0 < 256) (hlo : -9223372036854775808 ≤ cnt) (hhi : cnt ≤ 9223372036854775807) (hn : 1024 < n)  (w : World) (h : Rd w A n c (bcells d)) (h2 : Rd w A2 n2 c2 (bcells d2)) (h3 : Rd w A3 n3 c3 (bcells d3)) :
    Calls Try.prog 10 #[.slice A n c, .slice A2 n2 c2, .agg #[.slice A3 n3 c3, .int .i64 cnt]] w fun e w' => e = .returned (.bool true) ∧ Below w.heap.size w w' := by
  have HD := Lib.hid hd
  have HD2 := Lib.hid hd2
  clear hd hd2
  have HD3 := Lib.hid hd3
  clear hd3
  have R_0 := (h).alloc (.cells #[.slice A3 n3 c3, .int .i64 cnt] 43)
  have S_0 := (h2).alloc (.cells #[.slice A3 n3 c3, .int .i64 cnt] 43)
  have T_0 := (h3).alloc (.cells #[.slice A3 n3 c3, .int .i64 cnt] 43)
  have B_0 := (Two.new w 43 (.slice A3 n3 c3) (.int .i64 cnt))
  have Z0 := (Below.refl w.heap.size w).alloc (by simp) (.cells #[.slice A3 n3 c3, .int .i64 cnt] 43)
  have B_0_c0 := B_0.c0
  have B_0_c1 := B_0.c1
  go_enter Try.func10, Try.ntmps10
  go_wp2_with fail
  refine (lzparse_long R_0 hn).mono ?_
  rintro e w1 ⟨rfl, y1⟩
  have R_1 := (R_0.on y1).alloc (.cells #[.int .i64 3, .int .i64 (-1)] 25)
  have S_1 := (S_0.on y1).alloc (.cells #[.int .i64 3, .int .i64 (-1)] 25)
  have T_1 := (T_0.on y1).alloc (.cells #[.int .i64 3, .int .i64 (-1)] 25)
  have B_1 := (B_0.on y1).alloc (.cells #[.int .i64 3, .int .i64 (-1)] 25)
  have F_1 := (Two.new w1 25 (.int .i64 3) (.int .i64 (-1)))
  clear R_0 S_0 T_0 B_0 B_0_c0 B_0_c1
  have z1 := Z0.trans (y1.mono Z0.size)
  have Z1 := (z1).alloc (by have := z1.size; omega) (.cells #[.int .i64 3, .int .i64 (-1)] 25)
  have B_1_c0 := B_1.c0
  have B_1_c1 := B_1.c1
  have F_1_c0 := F_1.c0
  have F_1_c1 := F_1.c1
  go_wp2_with fail
  refine (matches_true _).mono ?_
  rintro e w2 ⟨rfl, y2⟩
  have R_2 := R_1.on y2
  have S_2 := S_1.on y2
  have T_2 := T_1.on y2
  have B_2 := B_1.on y2
  have F_2 := F_1.on y2
  clear R_1 S_1 T_1 B_1 B_1_c0 B_1_c1 F_1 F_1_c0 F_1_c1
  have z2 := Z1.trans (y2.mono Z1.size)
  have Z2 := z2
  have B_2_c0 := B_2.c0
  have B_2_c1 := B_2.c1
  have F_2_c0 := F_2.c0
  have F_2_c1 := F_2.c1
  go_wp2_with fail
  refine (matches_true _).mono ?_
  rintro e w3 ⟨rfl, y3⟩
  have R_3 := R_2.on y3
  have S_3 := S_2.on y3
  have T_3 := T_2.on y3
  have B_3 := B_2.on y3
  have F_3 := F_2.on y3
  clear R_2 S_2 T_2 B_2 B_2_c0 B_2_c1 F_2 F_2_c0 F_2_c1
  have z3 := Z2.trans (y3.mono Z2.size)
  have Z3 := z3
  have B_3_c0 := B_3.c0
  have B_3_c1 := B_3.c1
  have F_3_c0 := F_3.c0
  have F_3_c1 := F_3.c1
  go_wp2
  go_ret
  exact ⟨rfl, Z3⟩
set_option maxRecDepth 100000 in
set_option maxHeartbeats 3200000 in
theorem ld_dict {A : Option Addr} {n c : Nat} {d : List Nat} {A2 : Option Addr} {n2 c2 : Nat} {d2 : List Nat} {A3 : Option Addr} {n3 c3 : Nat} (hd : ∀ k, d.getD k 0 < 256) (hd2 : ∀ k, d2.getD k 0 < 256) {d3 : List Nat} {cnt : Int} (hd3 : ∀ k, d3.getD k 0 < 256) (hlo : -9223372036854775808 ≤ cnt) (hhi : cnt ≤ 9223372036854775807) (hn : n ≤ 1024) (hn2 : 512 < n2)  (w : World) (h : Rd w A n c (bcells d)) (h2 : Rd w A2 n2 c2 (bcells d2)) (h3 : Rd w A3 n3 c3 (bcells d3)) :
    Calls Try.prog 10 #[.slice A n c, .slice A2 n2 c2, .agg #[.slice A3 n3 c3, .int .i64 cnt]] w fun e w' => e = .returned (.bool true) ∧ Below w.heap.size w w' := by
  have HD := Lib.hid hd
  have HD2 := Lib.hid hd2
  clear hd hd2
  have HD3 := Lib.hid hd3
  clear hd3
  have R_0 := (h).alloc (.cells #[.slice A3 n3 c3, .int .i64 cnt] 43)
  have S_0 := (h2).alloc (.cells #[.slice A3 n3 c3, .int .i64 cnt] 43)
  have T_0 := (h3).alloc (.cells #[.slice A3 n3 c3, .int .i64 cnt] 43)
  have B_0 := (Two.new w 43 (.slice A3 n3 c3) (.int .i64 cnt))
  have Z0 := (Below.refl w.heap.size w).alloc (by simp) (.cells #[.slice A3 n3 c3, .int .i64 cnt] 43)
  have B_0_c0 := B_0.c0
  have B_0_c1 := B_0.c1
  go_enter Try.func10, Try.ntmps10
  go_wp2_with fail
  refine (lzparse_dict hn hn2).mono ?_
  rintro e w1 ⟨rfl, y1⟩
  have R_1 := (R_0.on y1).alloc (.cells #[.int .i64 3, .int .i64 (-2)] 25)
  have S_1 := (S_0.on y1).alloc (.cells #[.int .i64 3, .int .i64 (-2)] 25)
  have T_1 := (T_0.on y1).alloc (.cells #[.int .i64 3, .int .i64 (-2)] 25)
  have B_1 := (B_0.on y1).alloc (.cells #[.int .i64 3, .int .i64 (-2)] 25)
  have F_1 := (Two.new w1 25 (.int .i64 3) (.int .i64 (-2)))
  clear R_0 S_0 T_0 B_0 B_0_c0 B_0_c1
  have z1 := Z0.trans (y1.mono Z0.size)
  have Z1 := (z1).alloc (by have := z1.size; omega) (.cells #[.int .i64 3, .int .i64 (-2)] 25)
  have B_1_c0 := B_1.c0
  have B_1_c1 := B_1.c1
  have F_1_c0 := F_1.c0
  have F_1_c1 := F_1.c1
  go_wp2_with fail
  refine (matches_true _).mono ?_
  rintro e w2 ⟨rfl, y2⟩
  have R_2 := R_1.on y2
  have S_2 := S_1.on y2
  have T_2 := T_1.on y2
  have B_2 := B_1.on y2
  have F_2 := F_1.on y2
  clear R_1 S_1 T_1 B_1 B_1_c0 B_1_c1 F_1 F_1_c0 F_1_c1
  have z2 := Z1.trans (y2.mono Z1.size)
  have Z2 := z2
  have B_2_c0 := B_2.c0
  have B_2_c1 := B_2.c1
  have F_2_c0 := F_2.c0
  have F_2_c1 := F_2.c1
  go_wp2_with fail
  refine (matches_true _).mono ?_
  rintro e w3 ⟨rfl, y3⟩
  have R_3 := R_2.on y3
  have S_3 := S_2.on y3
  have T_3 := T_2.on y3
  have B_3 := B_2.on y3
  have F_3 := F_2.on y3
  clear R_2 S_2 T_2 B_2 B_2_c0 B_2_c1 F_2 F_2_c0 F_2_c1
  have z3 := Z2.trans (y3.mono Z2.size)
  have Z3 := z3
  have B_3_c0 := B_3.c0
  have B_3_c1 := B_3.c1
  have F_3_c0 := F_3.c0
  have F_3_c1 := F_3.c1
  go_wp2
  go_ret
  exact ⟨rfl, Z3⟩
set_option maxRecDepth 100000 in
set_option maxHeartbeats 3200000 in
theorem ld_form {A : Option Addr} {n c : Nat} {d : List Nat} {A2 : Option Addr} {n2 c2 : Nat} {d2 : List Nat} {A3 : Option Addr} {n3 c3 : Nat} (hd : ∀ k, d.getD k 0 < 256) (hd2 : ∀ k, d2.getD k 0 < 256) {d3 : List Nat} {cnt : Int} (hd3 : ∀ k, d3.getD k 0 < 256) (hlo : -9223372036854775808 ≤ cnt) (hhi : cnt ≤ 9223372036854775807) (hn : n ≤ 1024) (hn2 : n2 ≤ 512) (hno : ¬ Ok d3 cnt)  (w : World) (h : Rd w A n c (bcells d)) (h2 : Rd w A2 n2 c2 (bcells d2)) (h3 : Rd w A3 n3 c3 (bcells d3)) :
    Calls Try.prog 10 #[.slice A n c, .slice A2 n2 c2, .agg #[.slice A3 n3 c3, .int .i64 cnt]] w fun e w' => e = .returned (.bool true) ∧ Below w.heap.size w w' := by
  have HD := Lib.hid hd
  have HD2 := Lib.hid hd2
  clear hd hd2
  have HD3 := Lib.hid hd3
  clear hd3
  have HNO := Lib.hid hno
  clear hno
  have R_0 := (h).alloc (.cells #[.slice A3 n3 c3, .int .i64 cnt] 43)
  have S_0 := (h2).alloc (.cells #[.slice A3 n3 c3, .int .i64 cnt] 43)
  have T_0 := (h3).alloc (.cells #[.slice A3 n3 c3, .int .i64 cnt] 43)
  have B_0 := (Two.new w 43 (.slice A3 n3 c3) (.int .i64 cnt))
  have Z0 := (Below.refl w.heap.size w).alloc (by simp) (.cells #[.slice A3 n3 c3, .int .i64 cnt] 43)
  have B_0_c0 := B_0.c0
  have B_0_c1 := B_0.c1
  go_enter Try.func10, Try.ntmps10
  go_wp2_with fail
  refine (parse_api R_0 S_0 hn hn2).mono ?_
  rintro e w1 ⟨A4, m4, c4, ts, rfl, ⟨P1, PT⟩, y1⟩
  have R_1 := (R_0.on y1).alloc (.cells #[.int .i64 0, .int .i64 0] 25)
  have S_1 := (S_0.on y1).alloc (.cells #[.int .i64 0, .int .i64 0] 25)
  have T_1 := (T_0.on y1).alloc (.cells #[.int .i64 0, .int .i64 0] 25)
  have B_1 := (B_0.on y1).alloc (.cells #[.int .i64 0, .int .i64 0] 25)
  have P_1 := (P1).alloc (.cells #[.int .i64 0, .int .i64 0] 25)
  have F_1 := (Two.new w1 25 (.int .i64 0) (.int .i64 0))
  clear R_0 S_0 T_0 B_0 B_0_c0 B_0_c1
  have z1 := Z0.trans (y1.mono Z0.size)
  have Z1 := (z1).alloc (by have := z1.size; omega) (.cells #[.int .i64 0, .int .i64 0] 25)
  have B_1_c0 := B_1.c0
  have B_1_c1 := B_1.c1
  have F_1_c0 := F_1.c0
  have F_1_c1 := F_1.c1
  go_wp2_with fail
  refine (matches_true _).mono ?_
  rintro e w2 ⟨rfl, y2⟩
  have R_2 := R_1.on y2
  have S_2 := S_1.on y2
  have T_2 := T_1.on y2
  have B_2 := B_1.on y2
  have P_2 := P_1.on y2
  have F_2 := F_1.on y2
  clear R_1 S_1 T_1 B_1 B_1_c0 B_1_c1 P_1 F_1 F_1_c0 F_1_c1
  have z2 := Z1.trans (y2.mono Z1.size)
  have Z2 := z2
  have B_2_c0 := B_2.c0
  have B_2_c1 := B_2.c1
  have F_2_c0 := F_2.c0
  have F_2_c1 := F_2.c1
  go_wp2_with fail
  refine (bitsok_any T_2 HD3.out hlo hhi false ⟨(fun h => by cases h), fun h => absurd h HNO.out⟩).mono ?_
  rintro e w3 ⟨rfl, y3⟩
  have R_3 := R_2.on y3
  have S_3 := S_2.on y3
  have T_3 := T_2.on y3
  have B_3 := B_2.on y3
  have P_3 := P_2.on y3
  have F_3 := F_2.on y3
  clear R_2 S_2 T_2 B_2 B_2_c0 B_2_c1 P_2 F_2 F_2_c0 F_2_c1
  have z3 := Z2.trans (y3.mono Z2.size)
  have Z3 := z3
  have B_3_c0 := B_3.c0
  have B_3_c1 := B_3.c1
  have F_3_c0 := F_3.c0
  have F_3_c1 := F_3.c1
  go_wp2_with fail
  refine (matches_true _).mono ?_
  rintro e w4 ⟨rfl, y4⟩
  have R_4 := R_3.on y4
  have S_4 := S_3.on y4
  have T_4 := T_3.on y4
  have B_4 := B_3.on y4
  have P_4 := P_3.on y4
  have F_4 := F_3.on y4
  clear R_3 S_3 T_3 B_3 B_3_c0 B_3_c1 P_3 F_3 F_3_c0 F_3_c1
  have z4 := Z3.trans (y4.mono Z3.size)
  have Z4 := z4
  have B_4_c0 := B_4.c0
  have B_4_c1 := B_4.c1
  have F_4_c0 := F_4.c0
  have F_4_c1 := F_4.c1
  go_wp2
  go_ret
  exact ⟨rfl, Z4⟩
set_option maxRecDepth 100000 in
set_option maxHeartbeats 3200000 in
theorem ld_big {A : Option Addr} {n c : Nat} {d : List Nat} {A2 : Option Addr} {n2 c2 : Nat} {d2 : List Nat} {A3 : Option Addr} {n3 c3 : Nat} (hd : ∀ k, d.getD k 0 < 256) (hd2 : ∀ k, d2.getD k 0 < 256) {r : List Nat} (r01 : Is01 r) (hr : r.length ≤ 131072) (hn : n ≤ 1024) (hn2 : n2 ≤ 512) (hb : 100000 < r.length)  (w : World) (h : Rd w A n c (bcells d)) (h2 : Rd w A2 n2 c2 (bcells d2)) (h3 : Rd w A3 n3 c3 (bcells (pack r))) :
    Calls Try.prog 10 #[.slice A n c, .slice A2 n2 c2, .agg #[.slice A3 n3 c3, .int .i64 (r.length : Nat)]] w fun e w' => e = .returned (.bool true) ∧ Below w.heap.size w w' := by
  have HD := Lib.hid hd
  have HD2 := Lib.hid hd2
  clear hd hd2
  have R01 := Lib.hid r01
  have HOK := Lib.hid (Ok.of_list r01 hr)
  clear r01
  have HN := Lib.hid (show d.length = n by have := h.len; rwa [bcells_length] at this)
  have HN2 := Lib.hid (show d2.length = n2 by have := h2.len; rwa [bcells_length] at this)
  have R_0 := (h).alloc (.cells #[.slice A3 n3 c3, .int .i64 (r.length : Nat)] 43)
  have S_0 := (h2).alloc (.cells #[.slice A3 n3 c3, .int .i64 (r.length : Nat)] 43)
  have T_0 := (h3).alloc (.cells #[.slice A3 n3 c3, .int .i64 (r.length : Nat)] 43)
  have B_0 := (Two.new w 43 (.slice A3 n3 c3) (.int .i64 (r.length : Nat)))
  have Z0 := (Below.refl w.heap.size w).alloc (by simp) (.cells #[.slice A3 n3 c3, .int .i64 (r.length : Nat)] 43)
  have B_0_c0 := B_0.c0
  have B_0_c1 := B_0.c1
  go_enter Try.func10, Try.ntmps10
  go_wp2_with fail
  refine (parse_api R_0 S_0 hn hn2).mono ?_
  rintro e w1 ⟨A4, m4, c4, ts, rfl, ⟨P1, PT⟩, y1⟩
  have R_1 := (R_0.on y1).alloc (.cells #[.int .i64 0, .int .i64 0] 25)
  have S_1 := (S_0.on y1).alloc (.cells #[.int .i64 0, .int .i64 0] 25)
  have T_1 := (T_0.on y1).alloc (.cells #[.int .i64 0, .int .i64 0] 25)
  have B_1 := (B_0.on y1).alloc (.cells #[.int .i64 0, .int .i64 0] 25)
  have P_1 := (P1).alloc (.cells #[.int .i64 0, .int .i64 0] 25)
  have F_1 := (Two.new w1 25 (.int .i64 0) (.int .i64 0))
  clear R_0 S_0 T_0 B_0 B_0_c0 B_0_c1
  have z1 := Z0.trans (y1.mono Z0.size)
  have Z1 := (z1).alloc (by have := z1.size; omega) (.cells #[.int .i64 0, .int .i64 0] 25)
  have B_1_c0 := B_1.c0
  have B_1_c1 := B_1.c1
  have F_1_c0 := F_1.c0
  have F_1_c1 := F_1.c1
  go_wp2_with fail
  refine (matches_true _).mono ?_
  rintro e w2 ⟨rfl, y2⟩
  have R_2 := R_1.on y2
  have S_2 := S_1.on y2
  have T_2 := T_1.on y2
  have B_2 := B_1.on y2
  have P_2 := P_1.on y2
  have F_2 := F_1.on y2
  clear R_1 S_1 T_1 B_1 B_1_c0 B_1_c1 P_1 F_1 F_1_c0 F_1_c1
  have z2 := Z1.trans (y2.mono Z1.size)
  have Z2 := z2
  have B_2_c0 := B_2.c0
  have B_2_c1 := B_2.c1
  have F_2_c0 := F_2.c0
  have F_2_c1 := F_2.c1
  go_wp2_with fail
  refine (bitsok_any T_2 (pack_lt R01.out) (by omega) (by omega) true ⟨fun _ => HOK.out, fun _ => rfl⟩).mono ?_
  rintro e w3 ⟨rfl, y3⟩
  have R_3 := R_2.on y3
  have S_3 := S_2.on y3
  have T_3 := T_2.on y3
  have B_3 := B_2.on y3
  have P_3 := P_2.on y3
  have F_3 := F_2.on y3
  clear R_2 S_2 T_2 B_2 B_2_c0 B_2_c1 P_2 F_2 F_2_c0 F_2_c1
  have z3 := Z2.trans (y3.mono Z2.size)
  have Z3 := z3
  have B_3_c0 := B_3.c0
  have B_3_c1 := B_3.c1
  have F_3_c0 := F_3.c0
  have F_3_c1 := F_3.c1
  go_wp2_with fail
  refine (matches_true _).mono ?_
  rintro e w4 ⟨rfl, y4⟩
  have R_4 := R_3.on y4
  have S_4 := S_3.on y4
  have T_4 := T_3.on y4
  have B_4 := B_3.on y4
  have P_4 := P_3.on y4
  have F_4 := F_3.on y4
  clear R_3 S_3 T_3 B_3 B_3_c0 B_3_c1 P_3 F_3 F_3_c0 F_3_c1
  have z4 := Z3.trans (y4.mono Z3.size)
  have Z4 := z4
  have B_4_c0 := B_4.c0
  have B_4_c1 := B_4.c1
  have F_4_c0 := F_4.c0
  have F_4_c1 := F_4.c1
  go_wp2
  go_ret
  exact ⟨rfl, Z4⟩
set_option maxRecDepth 100000 in
set_option maxHeartbeats 3200000 in
theorem ld_ok {A : Option Addr} {n c : Nat} {d : List Nat} {A2 : Option Addr} {n2 c2 : Nat} {d2 : List Nat} {A3 : Option Addr} {n3 c3 : Nat} (hd : ∀ k, d.getD k 0 < 256) (hd2 : ∀ k, d2.getD k 0 < 256) {r : List Nat} (r01 : Is01 r) (hr : r.length ≤ 131072) (hn : n ≤ 1024) (hn2 : n2 ≤ 512) (hb : r.length ≤ 100000)  (w : World) (h : Rd w A n c (bcells d)) (h2 : Rd w A2 n2 c2 (bcells d2)) (h3 : Rd w A3 n3 c3 (bcells (pack r))) :
    Calls Try.prog 10 #[.slice A n c, .slice A2 n2 c2, .agg #[.slice A3 n3 c3, .int .i64 (r.length : Nat)]] w fun e w' => e = .returned (.bool true) ∧ Below w.heap.size w w' := by
  have HD := Lib.hid hd
  have HD2 := Lib.hid hd2
  clear hd hd2
  have R01 := Lib.hid r01
  have HOK := Lib.hid (Ok.of_list r01 hr)
  clear r01
  have HN := Lib.hid (show d.length = n by have := h.len; rwa [bcells_length] at this)
  have HN2 := Lib.hid (show d2.length = n2 by have := h2.len; rwa [bcells_length] at this)
  have R_0 := (h).alloc (.cells #[.slice A3 n3 c3, .int .i64 (r.length : Nat)] 43)
  have S_0 := (h2).alloc (.cells #[.slice A3 n3 c3, .int .i64 (r.length : Nat)] 43)
  have T_0 := (h3).alloc (.cells #[.slice A3 n3 c3, .int .i64 (r.length : Nat)] 43)
  have B_0 := (Two.new w 43 (.slice A3 n3 c3) (.int .i64 (r.length : Nat)))
  have Z0 := (Below.refl w.heap.size w).alloc (by simp) (.cells #[.slice A3 n3 c3, .int .i64 (r.length : Nat)] 43)
  have B_0_c0 := B_0.c0
  have B_0_c1 := B_0.c1
  go_enter Try.func10, Try.ntmps10
  go_wp2_with fail
  refine (parse_api R_0 S_0 hn hn2).mono ?_
  rintro e w1 ⟨A4, m4, c4, ts, rfl, ⟨P1, PT⟩, y1⟩
  have R_1 := (R_0.on y1).alloc (.cells #[.int .i64 0, .int .i64 0] 25)
  have S_1 := (S_0.on y1).alloc (.cells #[.int .i64 0, .int .i64 0] 25)
  have T_1 := (T_0.on y1).alloc (.cells #[.int .i64 0, .int .i64 0] 25)
  have B_1 := (B_0.on y1).alloc (.cells #[.int .i64 0, .int .i64 0] 25)
  have P_1 := (P1).alloc (.cells #[.int .i64 0, .int .i64 0] 25)
  have F_1 := (Two.new w1 25 (.int .i64 0) (.int .i64 0))
  clear R_0 S_0 T_0 B_0 B_0_c0 B_0_c1
  have z1 := Z0.trans (y1.mono Z0.size)
  have Z1 := (z1).alloc (by have := z1.size; omega) (.cells #[.int .i64 0, .int .i64 0] 25)
  have B_1_c0 := B_1.c0
  have B_1_c1 := B_1.c1
  have F_1_c0 := F_1.c0
  have F_1_c1 := F_1.c1
  go_wp2_with fail
  refine (matches_true _).mono ?_
  rintro e w2 ⟨rfl, y2⟩
  have R_2 := R_1.on y2
  have S_2 := S_1.on y2
  have T_2 := T_1.on y2
  have B_2 := B_1.on y2
  have P_2 := P_1.on y2
  have F_2 := F_1.on y2
  clear R_1 S_1 T_1 B_1 B_1_c0 B_1_c1 P_1 F_1 F_1_c0 F_1_c1
  have z2 := Z1.trans (y2.mono Z1.size)
  have Z2 := z2
  have B_2_c0 := B_2.c0
  have B_2_c1 := B_2.c1
  have F_2_c0 := F_2.c0
  have F_2_c1 := F_2.c1
  go_wp2_with fail
  refine (bitsok_any T_2 (pack_lt R01.out) (by omega) (by omega) true ⟨fun _ => HOK.out, fun _ => rfl⟩).mono ?_
  rintro e w3 ⟨rfl, y3⟩
  have R_3 := R_2.on y3
  have S_3 := S_2.on y3
  have T_3 := T_2.on y3
  have B_3 := B_2.on y3
  have P_3 := P_2.on y3
  have F_3 := F_2.on y3
  clear R_2 S_2 T_2 B_2 B_2_c0 B_2_c1 P_2 F_2 F_2_c0 F_2_c1
  have z3 := Z2.trans (y3.mono Z2.size)
  have Z3 := z3
  have B_3_c0 := B_3.c0
  have B_3_c1 := B_3.c1
  have F_3_c0 := F_3.c0
  have F_3_c1 := F_3.c1
  obtain ⟨L, hL⟩ : ∃ L, L = codeOf ts := ⟨_, rfl⟩
  obtain ⟨g1, g2, g3⟩ := PT.ok (by rw [HN.out]; exact hn) (by rw [HN2.out]; exact hn2)
  have hlit := PT.lit HD.out HD2.out
  have hcode := codeOf_length ts (AllTok.of _ g1)
  have hcl := PT.cost_le (by rw [HN.out]; exact hn) (by rw [HN2.out]; exact hn2)
  rw [HN.out] at hcl
  have L01 : Is01 L := by rw [hL]; exact codeOf_01 _
  obtain ⟨k, hk⟩ : ∃ k, k = L.length := ⟨_, rfl⟩
  have hkb : k ≤ 9216 := by rw [hk, hL, hcode]; omega
  have HKC := Lib.hid (show k = costs ts by rw [hk, hL, hcode])
  have HL := Lib.hid hL
  have H01 := Lib.hid L01
  have HKL := Lib.hid hk
  have HOKT := Lib.hid (fun t ht => And.intro (g1 t ht) (hlit t ht))
  obtain ⟨J, hJ⟩ : ∃ J, J = L ++ r := ⟨_, rfl⟩
  have HJ := Lib.hid hJ
  have J01 := Lib.hid (show Is01 J by rw [hJ]; exact L01.append R01.out)
  have hJb : J.length ≤ 131072 := by rw [hJ, List.length_append, ← hk]; omega
  have HDec := Lib.hid (show Dec J 0 n 0 0 ts k by have := dec_code ts [] r HOKT.out; rw [List.nil_append, g3, HN.out, ← hL, ← hJ, ← hk] at this; simpa using this)
  clear hL hcode hcl L01 hk hlit hJ g1 g3
  go_wp2_with fail
  refine (enc_api P_3 g2 HOKT.out L HL.out).mono ?_
  rintro e w4 ⟨A5, n5, c5, rfl, E1, y4⟩
  have R_4 := ((R_3.on y4).alloc (.cells #[.slice A5 n5 c5, .int .i64 (L.length : Nat)] 43)).alloc (.cells #[.int .i64 0, .int .i64 0] 25)
  have S_4 := ((S_3.on y4).alloc (.cells #[.slice A5 n5 c5, .int .i64 (L.length : Nat)] 43)).alloc (.cells #[.int .i64 0, .int .i64 0] 25)
  have T_4 := ((T_3.on y4).alloc (.cells #[.slice A5 n5 c5, .int .i64 (L.length : Nat)] 43)).alloc (.cells #[.int .i64 0, .int .i64 0] 25)
  have B_4 := ((B_3.on y4).alloc (.cells #[.slice A5 n5 c5, .int .i64 (L.length : Nat)] 43)).alloc (.cells #[.int .i64 0, .int .i64 0] 25)
  have P_4 := ((P_3.on y4).alloc (.cells #[.slice A5 n5 c5, .int .i64 (L.length : Nat)] 43)).alloc (.cells #[.int .i64 0, .int .i64 0] 25)
  have F_4 := ((F_3.on y4).alloc (.cells #[.slice A5 n5 c5, .int .i64 (L.length : Nat)] 43)).alloc (.cells #[.int .i64 0, .int .i64 0] 25)
  have RE_4 := ((E1).alloc (.cells #[.slice A5 n5 c5, .int .i64 (L.length : Nat)] 43)).alloc (.cells #[.int .i64 0, .int .i64 0] 25)
  have E_4 := ((Two.new w4 43 (.slice A5 n5 c5) (.int .i64 (L.length : Nat)))).alloc (.cells #[.int .i64 0, .int .i64 0] 25)
  have G_4 := (Two.new1 w4 (.cells #[.slice A5 n5 c5, .int .i64 (L.length : Nat)] 43) 25 (.int .i64 0) (.int .i64 0))
  clear R_3 S_3 T_3 B_3 B_3_c0 B_3_c1 P_3 F_3 F_3_c0 F_3_c1
  have z4 := Z3.trans (y4.mono Z3.size)
  have Z4 := ((z4).alloc (by have := z4.size; omega) (.cells #[.slice A5 n5 c5, .int .i64 (L.length : Nat)] 43)).alloc (by have := z4.size; simp; omega) (.cells #[.int .i64 0, .int .i64 0] 25)
  have B_4_c0 := B_4.c0
  have B_4_c1 := B_4.c1
  have F_4_c0 := F_4.c0
  have F_4_c1 := F_4.c1
  have E_4_c0 := E_4.c0
  have E_4_c1 := E_4.c1
  have G_4_c0 := G_4.c0
  have G_4_c1 := G_4.c1
  go_wp2_with fail
  refine (api_join2 RE_4 T_4 H01.out R01.out (by rw [← HKL.out]; omega) HJ.out _ _ rfl rfl _ (by simp)).mono ?_
  rintro e w5 ⟨A6, n6, c6, rfl, J1, y5⟩
  have R_5 := ((R_4.on y5).alloc (.cells #[.slice A6 n6 c6, .int .i64 (J.length : Nat)] 43)).alloc (.cells #[.int .i64 0, .int .i64 0] 25)
  have S_5 := ((S_4.on y5).alloc (.cells #[.slice A6 n6 c6, .int .i64 (J.length : Nat)] 43)).alloc (.cells #[.int .i64 0, .int .i64 0] 25)
  have T_5 := ((T_4.on y5).alloc (.cells #[.slice A6 n6 c6, .int .i64 (J.length : Nat)] 43)).alloc (.cells #[.int .i64 0, .int .i64 0] 25)
  have B_5 := ((B_4.on y5).alloc (.cells #[.slice A6 n6 c6, .int .i64 (J.length : Nat)] 43)).alloc (.cells #[.int .i64 0, .int .i64 0] 25)
  have P_5 := ((P_4.on y5).alloc (.cells #[.slice A6 n6 c6, .int .i64 (J.length : Nat)] 43)).alloc (.cells #[.int .i64 0, .int .i64 0] 25)
  have F_5 := ((F_4.on y5).alloc (.cells #[.slice A6 n6 c6, .int .i64 (J.length : Nat)] 43)).alloc (.cells #[.int .i64 0, .int .i64 0] 25)
  have RE_5 := ((RE_4.on y5).alloc (.cells #[.slice A6 n6 c6, .int .i64 (J.length : Nat)] 43)).alloc (.cells #[.int .i64 0, .int .i64 0] 25)
  have E_5 := ((E_4.on y5).alloc (.cells #[.slice A6 n6 c6, .int .i64 (J.length : Nat)] 43)).alloc (.cells #[.int .i64 0, .int .i64 0] 25)
  have G_5 := ((G_4.on y5).alloc (.cells #[.slice A6 n6 c6, .int .i64 (J.length : Nat)] 43)).alloc (.cells #[.int .i64 0, .int .i64 0] 25)
  have RJ_5 := ((J1).alloc (.cells #[.slice A6 n6 c6, .int .i64 (J.length : Nat)] 43)).alloc (.cells #[.int .i64 0, .int .i64 0] 25)
  have J_5 := ((Two.new w5 43 (.slice A6 n6 c6) (.int .i64 (J.length : Nat)))).alloc (.cells #[.int .i64 0, .int .i64 0] 25)
  have H_5 := (Two.new1 w5 (.cells #[.slice A6 n6 c6, .int .i64 (J.length : Nat)] 43) 25 (.int .i64 0) (.int .i64 0))
  clear R_4 S_4 T_4 B_4 B_4_c0 B_4_c1 P_4 F_4 F_4_c0 F_4_c1 RE_4 E_4 E_4_c0 E_4_c1 G_4 G_4_c0 G_4_c1
  have z5 := Z4.trans (y5.mono Z4.size)
  have Z5 := ((z5).alloc (by have := z5.size; omega) (.cells #[.slice A6 n6 c6, .int .i64 (J.length : Nat)] 43)).alloc (by have := z5.size; simp; omega) (.cells #[.int .i64 0, .int .i64 0] 25)
  have B_5_c0 := B_5.c0
  have B_5_c1 := B_5.c1
  have F_5_c0 := F_5.c0
  have F_5_c1 := F_5.c1
  have E_5_c0 := E_5.c0
  have E_5_c1 := E_5.c1
  have G_5_c0 := G_5.c0
  have G_5_c1 := G_5.c1
  have J_5_c0 := J_5.c0
  have J_5_c1 := J_5.c1
  have H_5_c0 := H_5.c0
  have H_5_c1 := H_5.c1
  go_wp2_with fail
  refine (dec_api RJ_5 J01.out hJb hn k HDec.out).mono ?_
  rintro e w6 ⟨A7, m7, c7, rfl, M1, y6⟩
  have R_6 := (R_5.on y6).alloc (.cells #[.int .i64 0, .int .i64 0] 25)
  have S_6 := (S_5.on y6).alloc (.cells #[.int .i64 0, .int .i64 0] 25)
  have T_6 := (T_5.on y6).alloc (.cells #[.int .i64 0, .int .i64 0] 25)
  have B_6 := (B_5.on y6).alloc (.cells #[.int .i64 0, .int .i64 0] 25)
  have P_6 := (P_5.on y6).alloc (.cells #[.int .i64 0, .int .i64 0] 25)
  have F_6 := (F_5.on y6).alloc (.cells #[.int .i64 0, .int .i64 0] 25)
  have RE_6 := (RE_5.on y6).alloc (.cells #[.int .i64 0, .int .i64 0] 25)
  have E_6 := (E_5.on y6).alloc (.cells #[.int .i64 0, .int .i64 0] 25)
  have G_6 := (G_5.on y6).alloc (.cells #[.int .i64 0, .int .i64 0] 25)
  have RJ_6 := (RJ_5.on y6).alloc (.cells #[.int .i64 0, .int .i64 0] 25)
  have J_6 := (J_5.on y6).alloc (.cells #[.int .i64 0, .int .i64 0] 25)
  have H_6 := (H_5.on y6).alloc (.cells #[.int .i64 0, .int .i64 0] 25)
  have M_6 := (M1).alloc (.cells #[.int .i64 0, .int .i64 0] 25)
  have I_6 := (Two.new w6 25 (.int .i64 0) (.int .i64 0))
  clear R_5 S_5 T_5 B_5 B_5_c0 B_5_c1 P_5 F_5 F_5_c0 F_5_c1 RE_5 E_5 E_5_c0 E_5_c1 G_5 G_5_c0 G_5_c1 RJ_5 J_5 J_5_c0 J_5_c1 H_5 H_5_c0 H_5_c1
  have z6 := Z5.trans (y6.mono Z5.size)
  have Z6 := (z6).alloc (by have := z6.size; omega) (.cells #[.int .i64 0, .int .i64 0] 25)
  have B_6_c0 := B_6.c0
  have B_6_c1 := B_6.c1
  have F_6_c0 := F_6.c0
  have F_6_c1 := F_6.c1
  have E_6_c0 := E_6.c0
  have E_6_c1 := E_6.c1
  have G_6_c0 := G_6.c0
  have G_6_c1 := G_6.c1
  have J_6_c0 := J_6.c0
  have J_6_c1 := J_6.c1
  have H_6_c0 := H_6.c0
  have H_6_c1 := H_6.c1
  have I_6_c0 := I_6.c0
  have I_6_c1 := I_6.c1
  go_wp2_with fail
  refine (cost_api P_6 PT (by rw [HN.out]; exact hn) (by rw [HN2.out]; exact hn2) k HKC.out).mono ?_
  rintro e w7 ⟨rfl, y7⟩
  have R_7 := (R_6.on y7).alloc (.cells #[.int .i64 0, .int .i64 0] 25)
  have S_7 := (S_6.on y7).alloc (.cells #[.int .i64 0, .int .i64 0] 25)
  have T_7 := (T_6.on y7).alloc (.cells #[.int .i64 0, .int .i64 0] 25)
  have B_7 := (B_6.on y7).alloc (.cells #[.int .i64 0, .int .i64 0] 25)
  have P_7 := (P_6.on y7).alloc (.cells #[.int .i64 0, .int .i64 0] 25)
  have F_7 := (F_6.on y7).alloc (.cells #[.int .i64 0, .int .i64 0] 25)
  have RE_7 := (RE_6.on y7).alloc (.cells #[.int .i64 0, .int .i64 0] 25)
  have E_7 := (E_6.on y7).alloc (.cells #[.int .i64 0, .int .i64 0] 25)
  have G_7 := (G_6.on y7).alloc (.cells #[.int .i64 0, .int .i64 0] 25)
  have RJ_7 := (RJ_6.on y7).alloc (.cells #[.int .i64 0, .int .i64 0] 25)
  have J_7 := (J_6.on y7).alloc (.cells #[.int .i64 0, .int .i64 0] 25)
  have H_7 := (H_6.on y7).alloc (.cells #[.int .i64 0, .int .i64 0] 25)
  have M_7 := (M_6.on y7).alloc (.cells #[.int .i64 0, .int .i64 0] 25)
  have I_7 := (I_6.on y7).alloc (.cells #[.int .i64 0, .int .i64 0] 25)
  have K_7 := (Two.new w7 25 (.int .i64 0) (.int .i64 0))
  clear R_6 S_6 T_6 B_6 B_6_c0 B_6_c1 P_6 F_6 F_6_c0 F_6_c1 RE_6 E_6 E_6_c0 E_6_c1 G_6 G_6_c0 G_6_c1 RJ_6 J_6 J_6_c0 J_6_c1 H_6 H_6_c0 H_6_c1 M_6 I_6 I_6_c0 I_6_c1
  have z7 := Z6.trans (y7.mono Z6.size)
  have Z7 := (z7).alloc (by have := z7.size; omega) (.cells #[.int .i64 0, .int .i64 0] 25)
  have B_7_c0 := B_7.c0
  have B_7_c1 := B_7.c1
  have F_7_c0 := F_7.c0
  have F_7_c1 := F_7.c1
  have E_7_c0 := E_7.c0
  have E_7_c1 := E_7.c1
  have G_7_c0 := G_7.c0
  have G_7_c1 := G_7.c1
  have J_7_c0 := J_7.c0
  have J_7_c1 := J_7.c1
  have H_7_c0 := H_7.c0
  have H_7_c1 := H_7.c1
  have I_7_c0 := I_7.c0
  have I_7_c1 := I_7.c1
  have K_7_c0 := K_7.c0
  have K_7_c1 := K_7.c1
  go_wp2_with fail
  refine (ex_toks P_7 M_7).mono ?_
  rintro e w8 ⟨rfl, y8⟩
  have R_8 := R_7.on y8
  have S_8 := S_7.on y8
  have T_8 := T_7.on y8
  have B_8 := B_7.on y8
  have P_8 := P_7.on y8
  have F_8 := F_7.on y8
  have RE_8 := RE_7.on y8
  have E_8 := E_7.on y8
  have G_8 := G_7.on y8
  have RJ_8 := RJ_7.on y8
  have J_8 := J_7.on y8
  have H_8 := H_7.on y8
  have M_8 := M_7.on y8
  have I_8 := I_7.on y8
  have K_8 := K_7.on y8
  clear R_7 S_7 T_7 B_7 B_7_c0 B_7_c1 P_7 F_7 F_7_c0 F_7_c1 RE_7 E_7 E_7_c0 E_7_c1 G_7 G_7_c0 G_7_c1 RJ_7 J_7 J_7_c0 J_7_c1 H_7 H_7_c0 H_7_c1 M_7 I_7 I_7_c0 I_7_c1 K_7 K_7_c0 K_7_c1
  have z8 := Z7.trans (y8.mono Z7.size)
  have Z8 := z8
  have B_8_c0 := B_8.c0
  have B_8_c1 := B_8.c1
  have F_8_c0 := F_8.c0
  have F_8_c1 := F_8.c1
  have E_8_c0 := E_8.c0
  have E_8_c1 := E_8.c1
  have G_8_c0 := G_8.c0
  have G_8_c1 := G_8.c1
  have J_8_c0 := J_8.c0
  have J_8_c1 := J_8.c1
  have H_8_c0 := H_8.c0
  have H_8_c1 := H_8.c1
  have I_8_c0 := I_8.c0
  have I_8_c1 := I_8.c1
  have K_8_c0 := K_8.c0
  have K_8_c1 := K_8.c1
  go_wp2
  go_ret
  exact ⟨rfl, Z8⟩
theorem ld_all {A : Option Addr} {n c : Nat} {d : List Nat} {A2 : Option Addr} {n2 c2 : Nat} {d2 : List Nat} {A3 : Option Addr} {n3 c3 : Nat} (hd : ∀ k, d.getD k 0 < 256) (hd2 : ∀ k, d2.getD k 0 < 256) {d3 : List Nat} {cnt : Int} (hd3 : ∀ k, d3.getD k 0 < 256) (hlo : -9223372036854775808 ≤ cnt) (hhi : cnt ≤ 9223372036854775807) (w : World) (h : Rd w A n c (bcells d)) (h2 : Rd w A2 n2 c2 (bcells d2)) (h3 : Rd w A3 n3 c3 (bcells d3)) :
    Calls Try.prog 10 #[.slice A n c, .slice A2 n2 c2, .agg #[.slice A3 n3 c3, .int .i64 cnt]] w fun e w' => e = .returned (.bool true) ∧ Below w.heap.size w w' := by
  by_cases g1 : 1024 < n
  · exact ld_long hd hd2 hd3 hlo hhi g1 w h h2 h3
  by_cases g2 : 512 < n2
  · exact ld_dict hd hd2 hd3 hlo hhi (by omega) g2 w h h2 h3
  by_cases hok : Ok d3 cnt
  · obtain ⟨l, q1, q2, rfl, rfl⟩ := hok.list hd3
    by_cases hb : 100000 < l.length
    · exact ld_big hd hd2 q1 q2 (by omega) (by omega) hb w h h2 h3
    · exact ld_ok hd hd2 q1 q2 (by omega) (by omega) (by omega) w h h2 h3
  · exact ld_form hd hd2 hd3 hlo hhi (by omega) (by omega) hok w h h2 h3
end PB
end Go.Proofs.Ytlhglomhfbbinaa
