/-
  The tokens of a parse are the cheapest ones, with all faults: the walk of the statement LzParseMatchesSpec.
-/
import Derived.Test.YtlhglomhfbbinaaRows
import Derived.Test.YtlhglomhfbbinaaLzApi
import Derived.Test.YtlhglomhfbbinaaLzRefBest
import Derived.Deep.RegionHeld3
import Derived.Deep.DrawnRows
import Derived.Lib.SlBytesConst
namespace Go.Proofs.Ytlhglomhfbbinaa
open Go.RowKit
attribute [local go_sem ↓] Go.wp_at_zero Go.wp_at_succ
set_option linter.unusedVariables false
set_option linter.unusedSimpArgs false
namespace PB
theorem sizefault_long {A : Option Addr} {n c : Nat} {A2 : Option Addr} {n2 c2 : Nat} {most : Int} {w : World} (hn : most < n) :
    Calls Try.prog 12 #[.slice A n c, .int .i64 most, .slice A2 n2 c2] w fun e w' => e = .returned (.agg #[.int .i64 3, .int .i64 (-1)]) ∧ Below w.heap.size w w' := by
  have X0 := Two.new w 25 (.int .i64 0) (.int .i64 0)
  have y0 : Below w.heap.size w (w.alloc (.cells #[.int .i64 0, .int .i64 0] 25)) := (Below.refl _ _).alloc (Nat.le_refl _) _
  have k1 : decide (most < (n : Int)) = true := by simp; omega
  go_enter Try.func12, Try.ntmps12
  go_wp2_with fail
  refine (refat_any _ _ _).mono ?_
  rintro e w1 ⟨rfl, y1⟩
  have X1 := X0.on y1
  have Y1 := y0.trans (y1.mono y0.size)
  obtain ⟨f0, f1, f2, f3, f4⟩ := X1.facts
  have HR0 := Lib.hid ((X1.set0 (.int .i64 3)).set1 (.int .i64 (-1))).c0
  have HR1 := Lib.hid ((X1.set0 (.int .i64 3)).set1 (.int .i64 (-1))).c1
  go_wp2
  have r0 := HR0.out
  have r1 := HR1.out
  exact bodyPost_ret (v := .agg #[.int .i64 3, .int .i64 (-1)]) (by simp [results, Try.results12, go_sem, r0, r1]) rfl ⟨rfl, (Y1.setCell (Nat.le_refl _) _).setCell (Nat.le_refl _) _⟩
theorem sizefault_dict {A : Option Addr} {n c : Nat} {A2 : Option Addr} {n2 c2 : Nat} {most : Int} {w : World} (hn : (n : Int) ≤ most) (hn2 : 512 < n2) :
    Calls Try.prog 12 #[.slice A n c, .int .i64 most, .slice A2 n2 c2] w fun e w' => e = .returned (.agg #[.int .i64 3, .int .i64 (-2)]) ∧ Below w.heap.size w w' := by
  have X0 := Two.new w 25 (.int .i64 0) (.int .i64 0)
  have y0 : Below w.heap.size w (w.alloc (.cells #[.int .i64 0, .int .i64 0] 25)) := (Below.refl _ _).alloc (Nat.le_refl _) _
  have k1 : decide (most < (n : Int)) = false := by simp; omega
  have k2 : decide ((512 : Int) < (n2 : Int)) = true := by simp; omega
  go_enter Try.func12, Try.ntmps12
  go_wp2_with fail
  refine (refat_any _ _ _).mono ?_
  rintro e w1 ⟨rfl, y1⟩
  have X1 := X0.on y1
  have Y1 := y0.trans (y1.mono y0.size)
  obtain ⟨f0, f1, f2, f3, f4⟩ := X1.facts
  have HR0 := Lib.hid ((X1.set0 (.int .i64 3)).set1 (.int .i64 (-2))).c0
  have HR1 := Lib.hid ((X1.set0 (.int .i64 3)).set1 (.int .i64 (-2))).c1
  go_wp2
  have r0 := HR0.out
  have r1 := HR1.out
  exact bodyPost_ret (v := .agg #[.int .i64 3, .int .i64 (-2)]) (by simp [results, Try.results12, go_sem, r0, r1]) rfl ⟨rfl, (Y1.setCell (Nat.le_refl _) _).setCell (Nat.le_refl _) _⟩
theorem sizefault_ok {A : Option Addr} {n c : Nat} {A2 : Option Addr} {n2 c2 : Nat} {most : Int} {w : World} (hn : (n : Int) ≤ most) (hn2 : n2 ≤ 512) :
    Calls Try.prog 12 #[.slice A n c, .int .i64 most, .slice A2 n2 c2] w fun e w' => e = .returned (.agg #[.int .i64 0, .int .i64 0]) ∧ Below w.heap.size w w' := by
  have X0 := Two.new w 25 (.int .i64 0) (.int .i64 0)
  have y0 : Below w.heap.size w (w.alloc (.cells #[.int .i64 0, .int .i64 0] 25)) := (Below.refl _ _).alloc (Nat.le_refl _) _
  have k1 : decide (most < (n : Int)) = false := by simp; omega
  have k2 : decide ((512 : Int) < (n2 : Int)) = false := by simp; omega
  obtain ⟨f0, f1, f2, f3, f4⟩ := X0.facts
  have HR0 := Lib.hid ((X0.set0 (.int .i64 0)).set1 (.int .i64 0)).c0
  have HR1 := Lib.hid ((X0.set0 (.int .i64 0)).set1 (.int .i64 0)).c1
  go_enter Try.func12, Try.ntmps12
  go_wp2
  have r0 := HR0.out
  have r1 := HR1.out
  exact bodyPost_ret (v := .agg #[.int .i64 0, .int .i64 0]) (by simp [results, Try.results12, go_sem, r0, r1]) rfl ⟨rfl, y0⟩
theorem cheap_api {A : Option Addr} {n c : Nat} {data : List Nat} {A2 : Option Addr} {n2 c2 : Nat} {dict : List Nat} {ts : List Tok} {w : World} (h : Rd w A n c (bcells data)) (h2 : Rd w A2 n2 c2 (bcells dict)) (hn : n ≤ 1024) (hn2 : n2 ≤ 512) (hP : PTok data dict ts) :
    Calls Try.prog 15 #[.slice A n c, .slice A2 n2 c2] w fun e w' => ∃ A' m c', e = .returned (.slice A' m c') ∧ RdT w' A' m c' ts ∧ Below w.heap.size w w' := by
  have e2 := h2.len
  rw [bcells_length] at e2
  refine (cheapest_any h h2 hn hn2).mono ?_
  rintro e w' ⟨L, nn, dd, A', m, c', rfl, hT, ho, hb⟩
  subst e2
  obtain ⟨L2, nn2, dd2, hT2, rfl⟩ := hP
  rw [hT.tokens hT2] at ho
  exact ⟨A', m, c', rfl, RdT.own ho, hb⟩
set_option maxRecDepth 100000 in
set_option maxHeartbeats 3200000 in
theorem pm_long {A : Option Addr} {n c : Nat} {d : List Nat} {A2 : Option Addr} {n2 c2 : Nat} {d2 : List Nat} (hn : 1024 < n)  (w : World) (h : Rd w A n c (bcells d)) (h2 : Rd w A2 n2 c2 (bcells d2)) :
    Calls Try.prog 3 #[.slice A n c, .slice A2 n2 c2] w fun e w' => e = .returned (.bool true) ∧ Below w.heap.size w w' := by
  have R_0 := h
  have S_0 := h2
  have Z0 := Below.refl w.heap.size w
  go_enter Try.func3, Try.ntmps3
  go_wp2_with fail
  refine (lzparse_long R_0 hn).mono ?_
  rintro e w1 ⟨rfl, y1⟩
  have R_1 := (R_0.on y1).alloc (.cells #[.int .i64 3, .int .i64 (-1)] 25)
  have S_1 := (S_0.on y1).alloc (.cells #[.int .i64 3, .int .i64 (-1)] 25)
  have F_1 := (Two.new w1 25 (.int .i64 3) (.int .i64 (-1)))
  clear R_0 S_0
  have z1 := Z0.trans (y1.mono Z0.size)
  have Z1 := (z1).alloc (by have := z1.size; omega) (.cells #[.int .i64 3, .int .i64 (-1)] 25)
  have F_1_c0 := F_1.c0
  have F_1_c1 := F_1.c1
  go_wp2_with fail
  refine (sizefault_long (by omega)).mono ?_
  rintro e w2 ⟨rfl, y2⟩
  have R_2 := (R_1.on y2).alloc (.cells #[.int .i64 3, .int .i64 (-1)] 25)
  have S_2 := (S_1.on y2).alloc (.cells #[.int .i64 3, .int .i64 (-1)] 25)
  have F_2 := (F_1.on y2).alloc (.cells #[.int .i64 3, .int .i64 (-1)] 25)
  have G_2 := (Two.new w2 25 (.int .i64 3) (.int .i64 (-1)))
  clear R_1 S_1 F_1 F_1_c0 F_1_c1
  have z2 := Z1.trans (y2.mono Z1.size)
  have Z2 := (z2).alloc (by have := z2.size; omega) (.cells #[.int .i64 3, .int .i64 (-1)] 25)
  have F_2_c0 := F_2.c0
  have F_2_c1 := F_2.c1
  have G_2_c0 := G_2.c0
  have G_2_c1 := G_2.c1
  go_wp2_with fail
  refine (matches_true _).mono ?_
  rintro e w3 ⟨rfl, y3⟩
  have R_3 := R_2.on y3
  have S_3 := S_2.on y3
  have F_3 := F_2.on y3
  have G_3 := G_2.on y3
  clear R_2 S_2 F_2 F_2_c0 F_2_c1 G_2 G_2_c0 G_2_c1
  have z3 := Z2.trans (y3.mono Z2.size)
  have Z3 := z3
  have F_3_c0 := F_3.c0
  have F_3_c1 := F_3.c1
  have G_3_c0 := G_3.c0
  have G_3_c1 := G_3.c1
  go_wp2
  go_ret
  exact ⟨rfl, Z3⟩
set_option maxRecDepth 100000 in
set_option maxHeartbeats 3200000 in
theorem pm_dict {A : Option Addr} {n c : Nat} {d : List Nat} {A2 : Option Addr} {n2 c2 : Nat} {d2 : List Nat} (hn : n ≤ 1024) (hn2 : 512 < n2)  (w : World) (h : Rd w A n c (bcells d)) (h2 : Rd w A2 n2 c2 (bcells d2)) :
    Calls Try.prog 3 #[.slice A n c, .slice A2 n2 c2] w fun e w' => e = .returned (.bool true) ∧ Below w.heap.size w w' := by
  have R_0 := h
  have S_0 := h2
  have Z0 := Below.refl w.heap.size w
  go_enter Try.func3, Try.ntmps3
  go_wp2_with fail
  refine (lzparse_dict hn hn2).mono ?_
  rintro e w1 ⟨rfl, y1⟩
  have R_1 := (R_0.on y1).alloc (.cells #[.int .i64 3, .int .i64 (-2)] 25)
  have S_1 := (S_0.on y1).alloc (.cells #[.int .i64 3, .int .i64 (-2)] 25)
  have F_1 := (Two.new w1 25 (.int .i64 3) (.int .i64 (-2)))
  clear R_0 S_0
  have z1 := Z0.trans (y1.mono Z0.size)
  have Z1 := (z1).alloc (by have := z1.size; omega) (.cells #[.int .i64 3, .int .i64 (-2)] 25)
  have F_1_c0 := F_1.c0
  have F_1_c1 := F_1.c1
  go_wp2_with fail
  refine (sizefault_dict (by omega) hn2).mono ?_
  rintro e w2 ⟨rfl, y2⟩
  have R_2 := (R_1.on y2).alloc (.cells #[.int .i64 3, .int .i64 (-2)] 25)
  have S_2 := (S_1.on y2).alloc (.cells #[.int .i64 3, .int .i64 (-2)] 25)
  have F_2 := (F_1.on y2).alloc (.cells #[.int .i64 3, .int .i64 (-2)] 25)
  have G_2 := (Two.new w2 25 (.int .i64 3) (.int .i64 (-2)))
  clear R_1 S_1 F_1 F_1_c0 F_1_c1
  have z2 := Z1.trans (y2.mono Z1.size)
  have Z2 := (z2).alloc (by have := z2.size; omega) (.cells #[.int .i64 3, .int .i64 (-2)] 25)
  have F_2_c0 := F_2.c0
  have F_2_c1 := F_2.c1
  have G_2_c0 := G_2.c0
  have G_2_c1 := G_2.c1
  go_wp2_with fail
  refine (matches_true _).mono ?_
  rintro e w3 ⟨rfl, y3⟩
  have R_3 := R_2.on y3
  have S_3 := S_2.on y3
  have F_3 := F_2.on y3
  have G_3 := G_2.on y3
  clear R_2 S_2 F_2 F_2_c0 F_2_c1 G_2 G_2_c0 G_2_c1
  have z3 := Z2.trans (y3.mono Z2.size)
  have Z3 := z3
  have F_3_c0 := F_3.c0
  have F_3_c1 := F_3.c1
  have G_3_c0 := G_3.c0
  have G_3_c1 := G_3.c1
  go_wp2
  go_ret
  exact ⟨rfl, Z3⟩
set_option maxRecDepth 100000 in
set_option maxHeartbeats 3200000 in
theorem pm_big {A : Option Addr} {n c : Nat} {d : List Nat} {A2 : Option Addr} {n2 c2 : Nat} {d2 : List Nat} (hn : n ≤ 1024) (hn2 : n2 ≤ 512) (hb : 120 < n)  (w : World) (h : Rd w A n c (bcells d)) (h2 : Rd w A2 n2 c2 (bcells d2)) :
    Calls Try.prog 3 #[.slice A n c, .slice A2 n2 c2] w fun e w' => e = .returned (.bool true) ∧ Below w.heap.size w w' := by
  have k1 : decide ((120 : Int) < (n : Int)) = true := by simp; omega
  have R_0 := h
  have S_0 := h2
  have Z0 := Below.refl w.heap.size w
  go_enter Try.func3, Try.ntmps3
  go_wp2_with fail
  refine (parse_api R_0 S_0 hn hn2).mono ?_
  rintro e w1 ⟨A1, m1, c1, ts, rfl, ⟨P1, PT⟩, y1⟩
  have R_1 := (R_0.on y1).alloc (.cells #[.int .i64 0, .int .i64 0] 25)
  have S_1 := (S_0.on y1).alloc (.cells #[.int .i64 0, .int .i64 0] 25)
  have P_1 := (P1).alloc (.cells #[.int .i64 0, .int .i64 0] 25)
  have F_1 := (Two.new w1 25 (.int .i64 0) (.int .i64 0))
  clear R_0 S_0
  have z1 := Z0.trans (y1.mono Z0.size)
  have Z1 := (z1).alloc (by have := z1.size; omega) (.cells #[.int .i64 0, .int .i64 0] 25)
  have F_1_c0 := F_1.c0
  have F_1_c1 := F_1.c1
  go_wp2_with fail
  refine (sizefault_ok (by omega) hn2).mono ?_
  rintro e w2 ⟨rfl, y2⟩
  have R_2 := (R_1.on y2).alloc (.cells #[.int .i64 0, .int .i64 0] 25)
  have S_2 := (S_1.on y2).alloc (.cells #[.int .i64 0, .int .i64 0] 25)
  have P_2 := (P_1.on y2).alloc (.cells #[.int .i64 0, .int .i64 0] 25)
  have F_2 := (F_1.on y2).alloc (.cells #[.int .i64 0, .int .i64 0] 25)
  have G_2 := (Two.new w2 25 (.int .i64 0) (.int .i64 0))
  clear R_1 S_1 P_1 F_1 F_1_c0 F_1_c1
  have z2 := Z1.trans (y2.mono Z1.size)
  have Z2 := (z2).alloc (by have := z2.size; omega) (.cells #[.int .i64 0, .int .i64 0] 25)
  have F_2_c0 := F_2.c0
  have F_2_c1 := F_2.c1
  have G_2_c0 := G_2.c0
  have G_2_c1 := G_2.c1
  go_wp2_with fail
  refine (matches_true _).mono ?_
  rintro e w3 ⟨rfl, y3⟩
  have R_3 := R_2.on y3
  have S_3 := S_2.on y3
  have P_3 := P_2.on y3
  have F_3 := F_2.on y3
  have G_3 := G_2.on y3
  clear R_2 S_2 P_2 F_2 F_2_c0 F_2_c1 G_2 G_2_c0 G_2_c1
  have z3 := Z2.trans (y3.mono Z2.size)
  have Z3 := z3
  have F_3_c0 := F_3.c0
  have F_3_c1 := F_3.c1
  have G_3_c0 := G_3.c0
  have G_3_c1 := G_3.c1
  go_wp2
  go_ret
  exact ⟨rfl, Z3⟩
set_option maxRecDepth 100000 in
set_option maxHeartbeats 3200000 in
theorem pm_big2 {A : Option Addr} {n c : Nat} {d : List Nat} {A2 : Option Addr} {n2 c2 : Nat} {d2 : List Nat} (hn : n ≤ 1024) (hn2 : n2 ≤ 512) (hb : n ≤ 120) (hb2 : 120 < n2)  (w : World) (h : Rd w A n c (bcells d)) (h2 : Rd w A2 n2 c2 (bcells d2)) :
    Calls Try.prog 3 #[.slice A n c, .slice A2 n2 c2] w fun e w' => e = .returned (.bool true) ∧ Below w.heap.size w w' := by
  have k1 : decide ((120 : Int) < (n : Int)) = false := by simp; omega
  have k2 : decide ((120 : Int) < (n2 : Int)) = true := by simp; omega
  have R_0 := h
  have S_0 := h2
  have Z0 := Below.refl w.heap.size w
  go_enter Try.func3, Try.ntmps3
  go_wp2_with fail
  refine (parse_api R_0 S_0 hn hn2).mono ?_
  rintro e w1 ⟨A1, m1, c1, ts, rfl, ⟨P1, PT⟩, y1⟩
  have R_1 := (R_0.on y1).alloc (.cells #[.int .i64 0, .int .i64 0] 25)
  have S_1 := (S_0.on y1).alloc (.cells #[.int .i64 0, .int .i64 0] 25)
  have P_1 := (P1).alloc (.cells #[.int .i64 0, .int .i64 0] 25)
  have F_1 := (Two.new w1 25 (.int .i64 0) (.int .i64 0))
  clear R_0 S_0
  have z1 := Z0.trans (y1.mono Z0.size)
  have Z1 := (z1).alloc (by have := z1.size; omega) (.cells #[.int .i64 0, .int .i64 0] 25)
  have F_1_c0 := F_1.c0
  have F_1_c1 := F_1.c1
  go_wp2_with fail
  refine (sizefault_ok (by omega) hn2).mono ?_
  rintro e w2 ⟨rfl, y2⟩
  have R_2 := (R_1.on y2).alloc (.cells #[.int .i64 0, .int .i64 0] 25)
  have S_2 := (S_1.on y2).alloc (.cells #[.int .i64 0, .int .i64 0] 25)
  have P_2 := (P_1.on y2).alloc (.cells #[.int .i64 0, .int .i64 0] 25)
  have F_2 := (F_1.on y2).alloc (.cells #[.int .i64 0, .int .i64 0] 25)
  have G_2 := (Two.new w2 25 (.int .i64 0) (.int .i64 0))
  clear R_1 S_1 P_1 F_1 F_1_c0 F_1_c1
  have z2 := Z1.trans (y2.mono Z1.size)
  have Z2 := (z2).alloc (by have := z2.size; omega) (.cells #[.int .i64 0, .int .i64 0] 25)
  have F_2_c0 := F_2.c0
  have F_2_c1 := F_2.c1
  have G_2_c0 := G_2.c0
  have G_2_c1 := G_2.c1
  go_wp2_with fail
  refine (matches_true _).mono ?_
  rintro e w3 ⟨rfl, y3⟩
  have R_3 := R_2.on y3
  have S_3 := S_2.on y3
  have P_3 := P_2.on y3
  have F_3 := F_2.on y3
  have G_3 := G_2.on y3
  clear R_2 S_2 P_2 F_2 F_2_c0 F_2_c1 G_2 G_2_c0 G_2_c1
  have z3 := Z2.trans (y3.mono Z2.size)
  have Z3 := z3
  have F_3_c0 := F_3.c0
  have F_3_c1 := F_3.c1
  have G_3_c0 := G_3.c0
  have G_3_c1 := G_3.c1
  go_wp2
  go_ret
  exact ⟨rfl, Z3⟩
set_option maxRecDepth 100000 in
set_option maxHeartbeats 3200000 in
theorem pm_ok {A : Option Addr} {n c : Nat} {d : List Nat} {A2 : Option Addr} {n2 c2 : Nat} {d2 : List Nat} (hn : n ≤ 1024) (hn2 : n2 ≤ 512) (hb : n ≤ 120) (hb2 : n2 ≤ 120)  (w : World) (h : Rd w A n c (bcells d)) (h2 : Rd w A2 n2 c2 (bcells d2)) :
    Calls Try.prog 3 #[.slice A n c, .slice A2 n2 c2] w fun e w' => e = .returned (.bool true) ∧ Below w.heap.size w w' := by
  have k1 : decide ((120 : Int) < (n : Int)) = false := by simp; omega
  have k2 : decide ((120 : Int) < (n2 : Int)) = false := by simp; omega
  have R_0 := h
  have S_0 := h2
  have Z0 := Below.refl w.heap.size w
  go_enter Try.func3, Try.ntmps3
  go_wp2_with fail
  refine (parse_api R_0 S_0 hn hn2).mono ?_
  rintro e w1 ⟨A1, m1, c1, ts, rfl, ⟨P1, PT⟩, y1⟩
  have R_1 := (R_0.on y1).alloc (.cells #[.int .i64 0, .int .i64 0] 25)
  have S_1 := (S_0.on y1).alloc (.cells #[.int .i64 0, .int .i64 0] 25)
  have P_1 := (P1).alloc (.cells #[.int .i64 0, .int .i64 0] 25)
  have F_1 := (Two.new w1 25 (.int .i64 0) (.int .i64 0))
  clear R_0 S_0
  have z1 := Z0.trans (y1.mono Z0.size)
  have Z1 := (z1).alloc (by have := z1.size; omega) (.cells #[.int .i64 0, .int .i64 0] 25)
  have F_1_c0 := F_1.c0
  have F_1_c1 := F_1.c1
  go_wp2_with fail
  refine (sizefault_ok (by omega) hn2).mono ?_
  rintro e w2 ⟨rfl, y2⟩
  have R_2 := (R_1.on y2).alloc (.cells #[.int .i64 0, .int .i64 0] 25)
  have S_2 := (S_1.on y2).alloc (.cells #[.int .i64 0, .int .i64 0] 25)
  have P_2 := (P_1.on y2).alloc (.cells #[.int .i64 0, .int .i64 0] 25)
  have F_2 := (F_1.on y2).alloc (.cells #[.int .i64 0, .int .i64 0] 25)
  have G_2 := (Two.new w2 25 (.int .i64 0) (.int .i64 0))
  clear R_1 S_1 P_1 F_1 F_1_c0 F_1_c1
  have z2 := Z1.trans (y2.mono Z1.size)
  have Z2 := (z2).alloc (by have := z2.size; omega) (.cells #[.int .i64 0, .int .i64 0] 25)
  have F_2_c0 := F_2.c0
  have F_2_c1 := F_2.c1
  have G_2_c0 := G_2.c0
  have G_2_c1 := G_2.c1
  go_wp2_with fail
  refine (matches_true _).mono ?_
  rintro e w3 ⟨rfl, y3⟩
  have R_3 := R_2.on y3
  have S_3 := S_2.on y3
  have P_3 := P_2.on y3
  have F_3 := F_2.on y3
  have G_3 := G_2.on y3
  clear R_2 S_2 P_2 F_2 F_2_c0 F_2_c1 G_2 G_2_c0 G_2_c1
  have z3 := Z2.trans (y3.mono Z2.size)
  have Z3 := z3
  have F_3_c0 := F_3.c0
  have F_3_c1 := F_3.c1
  have G_3_c0 := G_3.c0
  have G_3_c1 := G_3.c1
  go_wp2_with fail
  refine (cheap_api R_3 S_3 hn hn2 PT).mono ?_
  rintro e w4 ⟨A3, m3, c3, rfl, Q1, y4⟩
  have R_4 := R_3.on y4
  have S_4 := S_3.on y4
  have P_4 := P_3.on y4
  have F_4 := F_3.on y4
  have G_4 := G_3.on y4
  have Q_4 := Q1
  clear R_3 S_3 P_3 F_3 F_3_c0 F_3_c1 G_3 G_3_c0 G_3_c1
  have z4 := Z3.trans (y4.mono Z3.size)
  have Z4 := z4
  have F_4_c0 := F_4.c0
  have F_4_c1 := F_4.c1
  have G_4_c0 := G_4.c0
  have G_4_c1 := G_4.c1
  go_wp2_with fail
  refine (tokens_any P_4 Q_4 true ⟨fun _ => rfl, fun _ => rfl⟩).mono ?_
  rintro e w5 ⟨rfl, y5⟩
  have R_5 := R_4.on y5
  have S_5 := S_4.on y5
  have P_5 := P_4.on y5
  have F_5 := F_4.on y5
  have G_5 := G_4.on y5
  have Q_5 := Q_4.on y5
  clear R_4 S_4 P_4 F_4 F_4_c0 F_4_c1 G_4 G_4_c0 G_4_c1 Q_4
  have z5 := Z4.trans (y5.mono Z4.size)
  have Z5 := z5
  have F_5_c0 := F_5.c0
  have F_5_c1 := F_5.c1
  have G_5_c0 := G_5.c0
  have G_5_c1 := G_5.c1
  go_wp2
  go_ret
  exact ⟨rfl, Z5⟩
theorem pm_all {A : Option Addr} {n c : Nat} {d : List Nat} {A2 : Option Addr} {n2 c2 : Nat} {d2 : List Nat} (w : World) (h : Rd w A n c (bcells d)) (h2 : Rd w A2 n2 c2 (bcells d2)) :
    Calls Try.prog 3 #[.slice A n c, .slice A2 n2 c2] w fun e w' => e = .returned (.bool true) ∧ Below w.heap.size w w' := by
  by_cases g1 : 1024 < n
  · exact pm_long g1 w h h2
  by_cases g2 : 512 < n2
  · exact pm_dict (by omega) g2 w h h2
  by_cases g3 : 120 < n
  · exact pm_big (by omega) (by omega) g3 w h h2
  by_cases g4 : 120 < n2
  · exact pm_big2 (by omega) (by omega) (by omega) g4 w h h2
  · exact pm_ok (by omega) (by omega) (by omega) (by omega) w h h2
end PB
end Go.Proofs.Ytlhglomhfbbinaa
