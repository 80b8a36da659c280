/-
  The tokens for data stand for the data: the walk of the statement LzRoundTrips.
-/
import Derived.Test.YtlhglomhfbbinaaRows
import Derived.Test.YtlhglomhfbbinaaLzApi
import Derived.Deep.RegionHeld3
import Derived.Deep.DrawnRows
import Derived.Lib.SlBytesConst
namespace Go.Proofs.Ytlhglomhfbbinaa
open Go.RowKit
attribute [local go_sem ↓] Go.wp_at_zero Go.wp_at_succ
set_option linter.unusedVariables false
set_option linter.unusedSimpArgs false
namespace PB
set_option maxRecDepth 100000 in
set_option maxHeartbeats 3200000 in
theorem lr_long {A : Option Addr} {n c : Nat} {d : List Nat} {A2 : Option Addr} {n2 c2 : Nat} {d2 : List Nat} (hd : ∀ k, d.getD k 0 < 256) (hn : 1024 < n)  (w : World) (h : Rd w A n c (bcells d)) (h2 : Rd w A2 n2 c2 (bcells d2)) :
    Calls Try.prog 5 #[.slice A n c, .slice A2 n2 c2] w fun e w' => e = .returned (.bool true) ∧ Below w.heap.size w w' := by
  have HD := Lib.hid hd
  clear hd
  have R_0 := h
  have S_0 := h2
  have Z0 := Below.refl w.heap.size w
  go_enter Try.func5, Try.ntmps5
  go_wp2_with fail
  refine (lzparse_long R_0 hn).mono ?_
  rintro e w1 ⟨rfl, y1⟩
  have R_1 := (R_0.on y1).alloc (.cells #[.int .i64 3, .int .i64 (-1)] 25)
  have S_1 := (S_0.on y1).alloc (.cells #[.int .i64 3, .int .i64 (-1)] 25)
  have F_1 := (Two.new w1 25 (.int .i64 3) (.int .i64 (-1)))
  clear R_0 S_0
  have z1 := Z0.trans (y1.mono Z0.size)
  have Z1 := (z1).alloc (by have := z1.size; omega) (.cells #[.int .i64 3, .int .i64 (-1)] 25)
  have F_1_c0 := F_1.c0
  have F_1_c1 := F_1.c1
  go_wp2_with fail
  refine (matches_true _).mono ?_
  rintro e w2 ⟨rfl, y2⟩
  have R_2 := R_1.on y2
  have S_2 := S_1.on y2
  have F_2 := F_1.on y2
  clear R_1 S_1 F_1 F_1_c0 F_1_c1
  have z2 := Z1.trans (y2.mono Z1.size)
  have Z2 := z2
  have F_2_c0 := F_2.c0
  have F_2_c1 := F_2.c1
  go_wp2_with fail
  refine (matches_true _).mono ?_
  rintro e w3 ⟨rfl, y3⟩
  have R_3 := R_2.on y3
  have S_3 := S_2.on y3
  have F_3 := F_2.on y3
  clear R_2 S_2 F_2 F_2_c0 F_2_c1
  have z3 := Z2.trans (y3.mono Z2.size)
  have Z3 := z3
  have F_3_c0 := F_3.c0
  have F_3_c1 := F_3.c1
  go_wp2
  go_ret
  exact ⟨rfl, Z3⟩
set_option maxRecDepth 100000 in
set_option maxHeartbeats 3200000 in
theorem lr_dict {A : Option Addr} {n c : Nat} {d : List Nat} {A2 : Option Addr} {n2 c2 : Nat} {d2 : List Nat} (hd : ∀ k, d.getD k 0 < 256) (hn : n ≤ 1024) (hn2 : 512 < n2)  (w : World) (h : Rd w A n c (bcells d)) (h2 : Rd w A2 n2 c2 (bcells d2)) :
    Calls Try.prog 5 #[.slice A n c, .slice A2 n2 c2] w fun e w' => e = .returned (.bool true) ∧ Below w.heap.size w w' := by
  have HD := Lib.hid hd
  clear hd
  have R_0 := h
  have S_0 := h2
  have Z0 := Below.refl w.heap.size w
  go_enter Try.func5, Try.ntmps5
  go_wp2_with fail
  refine (lzparse_dict hn hn2).mono ?_
  rintro e w1 ⟨rfl, y1⟩
  have R_1 := (R_0.on y1).alloc (.cells #[.int .i64 3, .int .i64 (-2)] 25)
  have S_1 := (S_0.on y1).alloc (.cells #[.int .i64 3, .int .i64 (-2)] 25)
  have F_1 := (Two.new w1 25 (.int .i64 3) (.int .i64 (-2)))
  clear R_0 S_0
  have z1 := Z0.trans (y1.mono Z0.size)
  have Z1 := (z1).alloc (by have := z1.size; omega) (.cells #[.int .i64 3, .int .i64 (-2)] 25)
  have F_1_c0 := F_1.c0
  have F_1_c1 := F_1.c1
  go_wp2_with fail
  refine (matches_true _).mono ?_
  rintro e w2 ⟨rfl, y2⟩
  have R_2 := R_1.on y2
  have S_2 := S_1.on y2
  have F_2 := F_1.on y2
  clear R_1 S_1 F_1 F_1_c0 F_1_c1
  have z2 := Z1.trans (y2.mono Z1.size)
  have Z2 := z2
  have F_2_c0 := F_2.c0
  have F_2_c1 := F_2.c1
  go_wp2_with fail
  refine (matches_true _).mono ?_
  rintro e w3 ⟨rfl, y3⟩
  have R_3 := R_2.on y3
  have S_3 := S_2.on y3
  have F_3 := F_2.on y3
  clear R_2 S_2 F_2 F_2_c0 F_2_c1
  have z3 := Z2.trans (y3.mono Z2.size)
  have Z3 := z3
  have F_3_c0 := F_3.c0
  have F_3_c1 := F_3.c1
  go_wp2
  go_ret
  exact ⟨rfl, Z3⟩
set_option maxRecDepth 100000 in
set_option maxHeartbeats 3200000 in
theorem lr_ok {A : Option Addr} {n c : Nat} {d : List Nat} {A2 : Option Addr} {n2 c2 : Nat} {d2 : List Nat} (hd : ∀ k, d.getD k 0 < 256) (hn : n ≤ 1024) (hn2 : n2 ≤ 512)  (w : World) (h : Rd w A n c (bcells d)) (h2 : Rd w A2 n2 c2 (bcells d2)) :
    Calls Try.prog 5 #[.slice A n c, .slice A2 n2 c2] w fun e w' => e = .returned (.bool true) ∧ Below w.heap.size w w' := by
  have HD := Lib.hid hd
  clear hd
  have HN := Lib.hid (show d.length = n by have := h.len; rwa [bcells_length] at this)
  have R_0 := h
  have S_0 := h2
  have Z0 := Below.refl w.heap.size w
  go_enter Try.func5, Try.ntmps5
  go_wp2_with fail
  refine (parse_api R_0 S_0 hn hn2).mono ?_
  rintro e w1 ⟨A1, m1, c1, ts, rfl, ⟨P1, PT⟩, y1⟩
  have R_1 := (R_0.on y1).alloc (.cells #[.int .i64 0, .int .i64 0] 25)
  have S_1 := (S_0.on y1).alloc (.cells #[.int .i64 0, .int .i64 0] 25)
  have P_1 := (P1).alloc (.cells #[.int .i64 0, .int .i64 0] 25)
  have F_1 := (Two.new w1 25 (.int .i64 0) (.int .i64 0))
  clear R_0 S_0
  have z1 := Z0.trans (y1.mono Z0.size)
  have Z1 := (z1).alloc (by have := z1.size; omega) (.cells #[.int .i64 0, .int .i64 0] 25)
  have F_1_c0 := F_1.c0
  have F_1_c1 := F_1.c1
  go_wp2_with fail
  refine (matches_true _).mono ?_
  rintro e w2 ⟨rfl, y2⟩
  have R_2 := R_1.on y2
  have S_2 := S_1.on y2
  have P_2 := P_1.on y2
  have F_2 := F_1.on y2
  clear R_1 S_1 P_1 F_1 F_1_c0 F_1_c1
  have z2 := Z1.trans (y2.mono Z1.size)
  have Z2 := z2
  have F_2_c0 := F_2.c0
  have F_2_c1 := F_2.c1
  go_wp2_with fail
  refine (exp_api P_2 S_2 PT HN.out hn hn2).mono ?_
  rintro e w3 ⟨A3, c3, rfl, Q1, y3⟩
  have R_3 := (R_2.on y3).alloc (.cells #[.int .i64 0, .int .i64 0] 25)
  have S_3 := (S_2.on y3).alloc (.cells #[.int .i64 0, .int .i64 0] 25)
  have P_3 := (P_2.on y3).alloc (.cells #[.int .i64 0, .int .i64 0] 25)
  have F_3 := (F_2.on y3).alloc (.cells #[.int .i64 0, .int .i64 0] 25)
  have Q_3 := (Q1).alloc (.cells #[.int .i64 0, .int .i64 0] 25)
  have G_3 := (Two.new w3 25 (.int .i64 0) (.int .i64 0))
  clear R_2 S_2 P_2 F_2 F_2_c0 F_2_c1
  have z3 := Z2.trans (y3.mono Z2.size)
  have Z3 := (z3).alloc (by have := z3.size; omega) (.cells #[.int .i64 0, .int .i64 0] 25)
  have F_3_c0 := F_3.c0
  have F_3_c1 := F_3.c1
  have G_3_c0 := G_3.c0
  have G_3_c1 := G_3.c1
  go_wp2_with fail
  refine (ex_same Q_3 R_3 HD.out).mono ?_
  rintro e w9_1 ⟨rfl, rfl⟩
  go_wp2
  go_ret
  exact ⟨rfl, Z3⟩
theorem lr_all {A : Option Addr} {n c : Nat} {d : List Nat} {A2 : Option Addr} {n2 c2 : Nat} {d2 : List Nat} (hd : ∀ k, d.getD k 0 < 256) (w : World) (h : Rd w A n c (bcells d)) (h2 : Rd w A2 n2 c2 (bcells d2)) :
    Calls Try.prog 5 #[.slice A n c, .slice A2 n2 c2] w fun e w' => e = .returned (.bool true) ∧ Below w.heap.size w w' := by
  by_cases h1 : 1024 < n
  · exact lr_long hd h1 w h h2
  · by_cases h3 : 512 < n2
    · exact lr_dict hd (by omega) h3 w h h2
    · exact lr_ok hd (by omega) (by omega) w h h2
end PB
end Go.Proofs.Ytlhglomhfbbinaa
