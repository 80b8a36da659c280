/-
  The bits for which a code stands, with all faults, are as specified: the walk of the statement ArithDecodeMatchesSpec.
-/
import Derived.Test.YtnnpkajmheglgaaRows
import Derived.Test.YtnnpkajmheglgaaArEx
import Derived.Test.YtnnpkajmheglgaaBitsRef2
import Derived.Deep.RegionHeld3
import Derived.Deep.DrawnRows
import Derived.Deep.Cut
namespace Go.Proofs.Ytnnpkajmheglgaa
open Go.RowKit
attribute [local go_sem ↓] Go.wp_at_zero Go.wp_at_succ
set_option linter.unusedVariables false
set_option linter.unusedSimpArgs false
namespace PB
set_option maxRecDepth 100000 in
set_option maxHeartbeats 1600000 in
theorem ad_form_z {A : Option Addr} {n c : Nat} {A2 : Option Addr} {n2 c2 : Nat} {ps : List Int} {d : List Nat} {cnt : Int} (hd : ∀ k, d.getD k 0 < 256) (hlo : -9223372036854775808 ≤ cnt) (hhi : cnt ≤ 9223372036854775807) (hno : ¬ Ok d cnt) (hpos : ps.length = 0) (w : World) (h : Rd w A n c (bcells d)) (h2 : Rd w A2 n2 c2 (icells ps)) :
    Calls Try.prog 4 #[.agg #[.slice A n c, .int .i64 cnt], .slice A2 n2 c2] w fun e w' => e = .returned (.bool true) ∧ Below w.heap.size w w' := by
  have hn2 := h2.len
  rw [icells_length] at hn2
  have hcap := Reads.cap h2
  have hcm := Reads.capMax h2
  unfold maxLen at hcm
  obtain rfl := hn2
  have HDE := Lib.hid (fun (W : World) (hW : Rd W A n c (bcells d)) => ardec_form (v := .slice A2 ps.length c2) hW hno)
  have HBO := Lib.hid (fun (W : World) (hW : Rd W A n c (bcells d)) => bitsok_any hW hd hlo hhi false ⟨(fun h => by cases h), fun h => absurd h hno⟩)
  have kp : decide ((0 : Int) < (ps.length : Int)) = false := decide_eq_false (by omega)
  have kp2 : decide (0 < ps.length) = false := decide_eq_false (by omega)
  clear hpos hno hd hlo hhi
  have R_0 := (h).alloc (.cells #[.slice A n c, .int .i64 cnt] 25)
  have P_0 := (h2).alloc (.cells #[.slice A n c, .int .i64 cnt] 25)
  have B_0 := (Two.new w 25 (.slice A n c) (.int .i64 cnt))
  have Z0 := (Below.refl w.heap.size w).alloc (by simp) (.cells #[.slice A n c, .int .i64 cnt] 25)
  have B_0_c0 := B_0.c0
  have B_0_c1 := B_0.c1
  go_enter Try.func4, Try.ntmps4
  go_wp2_with fail
  refine (HDE.out _ R_0).mono ?_
  rintro e w1 ⟨rfl, y1⟩
  have R_1 := ((R_0.on y1).alloc (.cells #[.int .i64 6, .int .i64 (-1)] 27)).alloc (.cells #[.int .i64 0, .int .i64 0] 27)
  have P_1 := ((P_0.on y1).alloc (.cells #[.int .i64 6, .int .i64 (-1)] 27)).alloc (.cells #[.int .i64 0, .int .i64 0] 27)
  have B_1 := ((B_0.on y1).alloc (.cells #[.int .i64 6, .int .i64 (-1)] 27)).alloc (.cells #[.int .i64 0, .int .i64 0] 27)
  have R_b := R_0.on y1
  have P_b := P_0.on y1
  have B_b := B_0.on y1
  have F_1 := ((Two.new w1 27 (.int .i64 6) (.int .i64 (-1)))).alloc (.cells #[.int .i64 0, .int .i64 0] 27)
  have M_1 := (Two.new1 w1 (.cells #[.int .i64 6, .int .i64 (-1)] 27) 27 (.int .i64 0) (.int .i64 0))
  clear R_0 P_0 B_0 B_0_c0 B_0_c1
  have z1 := Z0.trans (y1.mono Z0.size)
  have Z1 := ((z1).alloc (by have := z1.size; omega) (.cells #[.int .i64 6, .int .i64 (-1)] 27)).alloc (by have := z1.size; simp; omega) (.cells #[.int .i64 0, .int .i64 0] 27)
  have CM_1 := ((Below.refl w1.heap.size w1).alloc (by simp) (.cells #[.int .i64 6, .int .i64 (-1)] 27)).alloc (by simp) (.cells #[.int .i64 0, .int .i64 0] 27)
  have B_1_c0 := B_1.c0
  have B_1_c1 := B_1.c1
  have F_1_c0 := F_1.c0
  have F_1_c1 := F_1.c1
  have M_1_c0 := M_1.c0
  have M_1_c1 := M_1.c1
  have M_1_f0 := M_1.f0
  have M_1_f1 := M_1.f1
  go_wp2_with fail
  refine (HBO.out _ R_1).mono ?_
  rintro e w2 ⟨rfl, y2⟩
  have R_2 := R_1.on y2
  have P_2 := P_1.on y2
  have B_2 := B_1.on y2
  have F_2 := F_1.on y2
  have M_2 := M_1.on y2
  clear R_1 P_1 B_1 B_1_c0 B_1_c1 F_1 F_1_c0 F_1_c1 M_1 M_1_c0 M_1_c1 M_1_f0 M_1_f1
  have z2 := Z1.trans (y2.mono Z1.size)
  have Z2 := z2
  have cM2 := CM_1.trans (y2.mono CM_1.size)
  have CM_2 := cM2
  have B_2_c0 := B_2.c0
  have B_2_c1 := B_2.c1
  have F_2_c0 := F_2.c0
  have F_2_c1 := F_2.c1
  have M_2_c0 := M_2.c0
  have M_2_c1 := M_2.c1
  have M_2_f0 := M_2.f0
  have M_2_f1 := M_2.f1
  go_wp2_with fail
  refine (refat_any _ _ _).mono ?_
  rintro e w3 ⟨rfl, y3⟩
  have R_3 := R_2.on y3
  have P_3 := P_2.on y3
  have B_3 := B_2.on y3
  have F_3 := F_2.on y3
  have M_3 := M_2.on y3
  clear R_2 P_2 B_2 B_2_c0 B_2_c1 F_2 F_2_c0 F_2_c1 M_2 M_2_c0 M_2_c1 M_2_f0 M_2_f1
  have z3 := Z2.trans (y3.mono Z2.size)
  have Z3 := z3
  have cM3 := CM_2.trans (y3.mono CM_2.size)
  have CM_3 := cM3
  have B_3_c0 := B_3.c0
  have B_3_c1 := B_3.c1
  have F_3_c0 := F_3.c0
  have F_3_c1 := F_3.c1
  have M_3_c0 := M_3.c0
  have M_3_c1 := M_3.c1
  have M_3_f0 := M_3.f0
  have M_3_f1 := M_3.f1
  have CM_4 := (CM_3.setCell (p := ⟨w1.heap.size + 1, 0, none⟩) (by simp) (.int .i64 6)).setCell (p := ⟨w1.heap.size + 1, 1, none⟩) (by simp) (.int .i64 (-1))
  have Z4 := (Z3.setCell (p := ⟨w1.heap.size + 1, 0, none⟩) (by have := z1.size; simp; omega) (.int .i64 6)).setCell (p := ⟨w1.heap.size + 1, 1, none⟩) (by have := z1.size; simp; omega) (.int .i64 (-1))
  have R_4 := R_b.on CM_4
  have P_4 := P_b.on CM_4
  have B_4 := B_b.on CM_4
  have F_4 := (F_3.far (p := ⟨w1.heap.size + 1, 0, none⟩) (by simp) (.int .i64 6)).far (p := ⟨w1.heap.size + 1, 1, none⟩) (by simp) (.int .i64 (-1))
  have M_4 := (M_3.set0 (.int .i64 6)).set1 (.int .i64 (-1))
  have B_4_c0 := B_4.c0
  have B_4_c1 := B_4.c1
  have F_4_c0 := F_4.c0
  have F_4_c1 := F_4.c1
  have M_4_c0 := M_4.c0
  have M_4_c1 := M_4.c1
  have M_4_f0 := M_4.f0
  have M_4_f1 := M_4.f1
  go_wp2_with fail
  go_loop [8] (fun i => i = .int .i64 0) (fun _ => 0)
  case atStart => rfl
  case round =>
    subst hrel
    go_wp2_with fail
    refine (codes_true _).mono ?_
    rintro e w5 ⟨rfl, y5⟩
    have R_5 := R_4.on y5
    have P_5 := P_4.on y5
    have B_5 := B_4.on y5
    have F_5 := F_4.on y5
    have M_5 := M_4.on y5
    clear R_3 P_3 B_3 B_3_c0 B_3_c1 F_3 F_3_c0 F_3_c1 M_3 M_3_c0 M_3_c1 M_3_f0 M_3_f1 R_4 P_4 B_4 B_4_c0 B_4_c1 F_4 F_4_c0 F_4_c1 M_4 M_4_c0 M_4_c1 M_4_f0 M_4_f1
    have z5 := Z4.trans (y5.mono Z4.size)
    have Z5 := z5
    have cM5 := CM_4.trans (y5.mono CM_4.size)
    have CM_5 := cM5
    have B_5_c0 := B_5.c0
    have B_5_c1 := B_5.c1
    have F_5_c0 := F_5.c0
    have F_5_c1 := F_5.c1
    have M_5_c0 := M_5.c0
    have M_5_c1 := M_5.c1
    have M_5_f0 := M_5.f0
    have M_5_f1 := M_5.f1
    go_wp2_with fail
    refine (codes_true _).mono ?_
    rintro e w6 ⟨rfl, y6⟩
    have R_6 := R_5.on y6
    have P_6 := P_5.on y6
    have B_6 := B_5.on y6
    have F_6 := F_5.on y6
    have M_6 := M_5.on y6
    clear R_5 P_5 B_5 B_5_c0 B_5_c1 F_5 F_5_c0 F_5_c1 M_5 M_5_c0 M_5_c1 M_5_f0 M_5_f1
    have z6 := Z5.trans (y6.mono Z5.size)
    have Z6 := z6
    have cM6 := CM_5.trans (y6.mono CM_5.size)
    have CM_6 := cM6
    have B_6_c0 := B_6.c0
    have B_6_c1 := B_6.c1
    have F_6_c0 := F_6.c0
    have F_6_c1 := F_6.c1
    have M_6_c0 := M_6.c0
    have M_6_c1 := M_6.c1
    have M_6_f0 := M_6.f0
    have M_6_f1 := M_6.f1
    go_wp2
    go_ret
    exact ⟨rfl, Z6⟩
set_option maxRecDepth 100000 in
set_option maxHeartbeats 1600000 in
theorem ad_form_p {A : Option Addr} {n c : Nat} {A2 : Option Addr} {n2 c2 : Nat} {ps : List Int} {d : List Nat} {cnt : Int} (hd : ∀ k, d.getD k 0 < 256) (hlo : -9223372036854775808 ≤ cnt) (hhi : cnt ≤ 9223372036854775807) (hno : ¬ Ok d cnt) (hpos : 0 < ps.length) (w : World) (h : Rd w A n c (bcells d)) (h2 : Rd w A2 n2 c2 (icells ps)) :
    Calls Try.prog 4 #[.agg #[.slice A n c, .int .i64 cnt], .slice A2 n2 c2] w fun e w' => e = .returned (.bool true) ∧ Below w.heap.size w w' := by
  have hn2 := h2.len
  rw [icells_length] at hn2
  have hcap := Reads.cap h2
  have hcm := Reads.capMax h2
  unfold maxLen at hcm
  obtain rfl := hn2
  have HDE := Lib.hid (fun (W : World) (hW : Rd W A n c (bcells d)) => ardec_form (v := .slice A2 ps.length c2) hW hno)
  have HBO := Lib.hid (fun (W : World) (hW : Rd W A n c (bcells d)) => bitsok_any hW hd hlo hhi false ⟨(fun h => by cases h), fun h => absurd h hno⟩)
  have kp : decide ((0 : Int) < (ps.length : Int)) = true := by simp; omega
  have kp2 : decide (0 < ps.length) = true := by simp; omega
  clear hpos hno hd hlo hhi
  have R_0 := (h).alloc (.cells #[.slice A n c, .int .i64 cnt] 25)
  have P_0 := (h2).alloc (.cells #[.slice A n c, .int .i64 cnt] 25)
  have B_0 := (Two.new w 25 (.slice A n c) (.int .i64 cnt))
  have Z0 := (Below.refl w.heap.size w).alloc (by simp) (.cells #[.slice A n c, .int .i64 cnt] 25)
  have B_0_c0 := B_0.c0
  have B_0_c1 := B_0.c1
  go_enter Try.func4, Try.ntmps4
  go_wp2_with fail
  refine (HDE.out _ R_0).mono ?_
  rintro e w1 ⟨rfl, y1⟩
  have R_1 := ((R_0.on y1).alloc (.cells #[.int .i64 6, .int .i64 (-1)] 27)).alloc (.cells #[.int .i64 0, .int .i64 0] 27)
  have P_1 := ((P_0.on y1).alloc (.cells #[.int .i64 6, .int .i64 (-1)] 27)).alloc (.cells #[.int .i64 0, .int .i64 0] 27)
  have B_1 := ((B_0.on y1).alloc (.cells #[.int .i64 6, .int .i64 (-1)] 27)).alloc (.cells #[.int .i64 0, .int .i64 0] 27)
  have R_b := R_0.on y1
  have P_b := P_0.on y1
  have B_b := B_0.on y1
  have F_1 := ((Two.new w1 27 (.int .i64 6) (.int .i64 (-1)))).alloc (.cells #[.int .i64 0, .int .i64 0] 27)
  have M_1 := (Two.new1 w1 (.cells #[.int .i64 6, .int .i64 (-1)] 27) 27 (.int .i64 0) (.int .i64 0))
  clear R_0 P_0 B_0 B_0_c0 B_0_c1
  have z1 := Z0.trans (y1.mono Z0.size)
  have Z1 := ((z1).alloc (by have := z1.size; omega) (.cells #[.int .i64 6, .int .i64 (-1)] 27)).alloc (by have := z1.size; simp; omega) (.cells #[.int .i64 0, .int .i64 0] 27)
  have CM_1 := ((Below.refl w1.heap.size w1).alloc (by simp) (.cells #[.int .i64 6, .int .i64 (-1)] 27)).alloc (by simp) (.cells #[.int .i64 0, .int .i64 0] 27)
  have B_1_c0 := B_1.c0
  have B_1_c1 := B_1.c1
  have F_1_c0 := F_1.c0
  have F_1_c1 := F_1.c1
  have M_1_c0 := M_1.c0
  have M_1_c1 := M_1.c1
  have M_1_f0 := M_1.f0
  have M_1_f1 := M_1.f1
  go_wp2_with fail
  refine (HBO.out _ R_1).mono ?_
  rintro e w2 ⟨rfl, y2⟩
  have R_2 := R_1.on y2
  have P_2 := P_1.on y2
  have B_2 := B_1.on y2
  have F_2 := F_1.on y2
  have M_2 := M_1.on y2
  clear R_1 P_1 B_1 B_1_c0 B_1_c1 F_1 F_1_c0 F_1_c1 M_1 M_1_c0 M_1_c1 M_1_f0 M_1_f1
  have z2 := Z1.trans (y2.mono Z1.size)
  have Z2 := z2
  have cM2 := CM_1.trans (y2.mono CM_1.size)
  have CM_2 := cM2
  have B_2_c0 := B_2.c0
  have B_2_c1 := B_2.c1
  have F_2_c0 := F_2.c0
  have F_2_c1 := F_2.c1
  have M_2_c0 := M_2.c0
  have M_2_c1 := M_2.c1
  have M_2_f0 := M_2.f0
  have M_2_f1 := M_2.f1
  go_wp2_with fail
  refine (refat_any _ _ _).mono ?_
  rintro e w3 ⟨rfl, y3⟩
  have R_3 := R_2.on y3
  have P_3 := P_2.on y3
  have B_3 := B_2.on y3
  have F_3 := F_2.on y3
  have M_3 := M_2.on y3
  clear R_2 P_2 B_2 B_2_c0 B_2_c1 F_2 F_2_c0 F_2_c1 M_2 M_2_c0 M_2_c1 M_2_f0 M_2_f1
  have z3 := Z2.trans (y3.mono Z2.size)
  have Z3 := z3
  have cM3 := CM_2.trans (y3.mono CM_2.size)
  have CM_3 := cM3
  have B_3_c0 := B_3.c0
  have B_3_c1 := B_3.c1
  have F_3_c0 := F_3.c0
  have F_3_c1 := F_3.c1
  have M_3_c0 := M_3.c0
  have M_3_c1 := M_3.c1
  have M_3_f0 := M_3.f0
  have M_3_f1 := M_3.f1
  have CM_4 := (CM_3.setCell (p := ⟨w1.heap.size + 1, 0, none⟩) (by simp) (.int .i64 6)).setCell (p := ⟨w1.heap.size + 1, 1, none⟩) (by simp) (.int .i64 (-1))
  have Z4 := (Z3.setCell (p := ⟨w1.heap.size + 1, 0, none⟩) (by have := z1.size; simp; omega) (.int .i64 6)).setCell (p := ⟨w1.heap.size + 1, 1, none⟩) (by have := z1.size; simp; omega) (.int .i64 (-1))
  have R_4 := R_b.on CM_4
  have P_4 := P_b.on CM_4
  have B_4 := B_b.on CM_4
  have F_4 := (F_3.far (p := ⟨w1.heap.size + 1, 0, none⟩) (by simp) (.int .i64 6)).far (p := ⟨w1.heap.size + 1, 1, none⟩) (by simp) (.int .i64 (-1))
  have M_4 := (M_3.set0 (.int .i64 6)).set1 (.int .i64 (-1))
  have B_4_c0 := B_4.c0
  have B_4_c1 := B_4.c1
  have F_4_c0 := F_4.c0
  have F_4_c1 := F_4.c1
  have M_4_c0 := M_4.c0
  have M_4_c1 := M_4.c1
  have M_4_f0 := M_4.f0
  have M_4_f1 := M_4.f1
  go_wp2_with fail
  go_loop [8] (fun i => i = .int .i64 0) (fun _ => 0)
  case atStart => rfl
  case round =>
    subst hrel
    go_wp2_with fail
    refine (codes_true _).mono ?_
    rintro e w5 ⟨rfl, y5⟩
    have R_5 := R_4.on y5
    have P_5 := P_4.on y5
    have B_5 := B_4.on y5
    have F_5 := F_4.on y5
    have M_5 := M_4.on y5
    clear R_3 P_3 B_3 B_3_c0 B_3_c1 F_3 F_3_c0 F_3_c1 M_3 M_3_c0 M_3_c1 M_3_f0 M_3_f1 R_4 P_4 B_4 B_4_c0 B_4_c1 F_4 F_4_c0 F_4_c1 M_4 M_4_c0 M_4_c1 M_4_f0 M_4_f1
    have z5 := Z4.trans (y5.mono Z4.size)
    have Z5 := z5
    have cM5 := CM_4.trans (y5.mono CM_4.size)
    have CM_5 := cM5
    have B_5_c0 := B_5.c0
    have B_5_c1 := B_5.c1
    have F_5_c0 := F_5.c0
    have F_5_c1 := F_5.c1
    have M_5_c0 := M_5.c0
    have M_5_c1 := M_5.c1
    have M_5_f0 := M_5.f0
    have M_5_f1 := M_5.f1
    go_wp2_with fail
    refine (codes_true _).mono ?_
    rintro e w6 ⟨rfl, y6⟩
    have R_6 := R_5.on y6
    have P_6 := P_5.on y6
    have B_6 := B_5.on y6
    have F_6 := F_5.on y6
    have M_6 := M_5.on y6
    clear R_5 P_5 B_5 B_5_c0 B_5_c1 F_5 F_5_c0 F_5_c1 M_5 M_5_c0 M_5_c1 M_5_f0 M_5_f1
    have z6 := Z5.trans (y6.mono Z5.size)
    have Z6 := z6
    have cM6 := CM_5.trans (y6.mono CM_5.size)
    have CM_6 := cM6
    have B_6_c0 := B_6.c0
    have B_6_c1 := B_6.c1
    have F_6_c0 := F_6.c0
    have F_6_c1 := F_6.c1
    have M_6_c0 := M_6.c0
    have M_6_c1 := M_6.c1
    have M_6_f0 := M_6.f0
    have M_6_f1 := M_6.f1
    go_wp2
    go_ret
    exact ⟨rfl, Z6⟩
set_option maxRecDepth 100000 in
set_option maxHeartbeats 1600000 in
theorem ad_long {A : Option Addr} {n c : Nat} {A2 : Option Addr} {n2 c2 : Nat} {ps : List Int} {l : List Nat} (h01 : Is01 l) (hl : l.length ≤ 131072) (hlong : 8192 < ps.length) (hpos : 0 < ps.length) (w : World) (h : Rd w A n c (bcells (pack l))) (h2 : Rd w A2 n2 c2 (icells ps)) :
    Calls Try.prog 4 #[.agg #[.slice A n c, .int .i64 l.length], .slice A2 n2 c2] w fun e w' => e = .returned (.bool true) ∧ Below w.heap.size w w' := by
  have hn2 := h2.len
  rw [icells_length] at hn2
  have hcap := Reads.cap h2
  have hcm := Reads.capMax h2
  unfold maxLen at hcm
  obtain rfl := hn2
  have HDE := Lib.hid (fun (W : World) (hW : Rd W A n c (bcells (pack l))) (hW2 : Rd W A2 ps.length c2 (icells ps)) => ardec_long hW hW2 h01 hl hlong)
  have HBO := Lib.hid (fun (W : World) (hW : Rd W A n c (bcells (pack l))) => bitsok_any hW (pack_lt h01) (by omega) (by omega) true ⟨fun _ => Ok.of_list h01 hl, fun _ => rfl⟩)
  have kl : decide ((8192 : Int) < (ps.length : Int)) = true := by simp; omega
  have kp : decide ((0 : Int) < (ps.length : Int)) = true := by simp; omega
  have kp2 : decide (0 < ps.length) = true := by simp; omega
  clear hpos h01 hlong
  have R_0 := (h).alloc (.cells #[.slice A n c, .int .i64 l.length] 25)
  have P_0 := (h2).alloc (.cells #[.slice A n c, .int .i64 l.length] 25)
  have B_0 := (Two.new w 25 (.slice A n c) (.int .i64 l.length))
  have Z0 := (Below.refl w.heap.size w).alloc (by simp) (.cells #[.slice A n c, .int .i64 l.length] 25)
  have B_0_c0 := B_0.c0
  have B_0_c1 := B_0.c1
  go_enter Try.func4, Try.ntmps4
  go_wp2_with fail
  refine (HDE.out _ R_0 P_0).mono ?_
  rintro e w1 ⟨rfl, y1⟩
  have R_1 := ((R_0.on y1).alloc (.cells #[.int .i64 2, .int .i64 (-2)] 27)).alloc (.cells #[.int .i64 0, .int .i64 0] 27)
  have P_1 := ((P_0.on y1).alloc (.cells #[.int .i64 2, .int .i64 (-2)] 27)).alloc (.cells #[.int .i64 0, .int .i64 0] 27)
  have B_1 := ((B_0.on y1).alloc (.cells #[.int .i64 2, .int .i64 (-2)] 27)).alloc (.cells #[.int .i64 0, .int .i64 0] 27)
  have R_b := R_0.on y1
  have P_b := P_0.on y1
  have B_b := B_0.on y1
  have F_1 := ((Two.new w1 27 (.int .i64 2) (.int .i64 (-2)))).alloc (.cells #[.int .i64 0, .int .i64 0] 27)
  have M_1 := (Two.new1 w1 (.cells #[.int .i64 2, .int .i64 (-2)] 27) 27 (.int .i64 0) (.int .i64 0))
  clear R_0 P_0 B_0 B_0_c0 B_0_c1
  have z1 := Z0.trans (y1.mono Z0.size)
  have Z1 := ((z1).alloc (by have := z1.size; omega) (.cells #[.int .i64 2, .int .i64 (-2)] 27)).alloc (by have := z1.size; simp; omega) (.cells #[.int .i64 0, .int .i64 0] 27)
  have CM_1 := ((Below.refl w1.heap.size w1).alloc (by simp) (.cells #[.int .i64 2, .int .i64 (-2)] 27)).alloc (by simp) (.cells #[.int .i64 0, .int .i64 0] 27)
  have B_1_c0 := B_1.c0
  have B_1_c1 := B_1.c1
  have F_1_c0 := F_1.c0
  have F_1_c1 := F_1.c1
  have M_1_c0 := M_1.c0
  have M_1_c1 := M_1.c1
  have M_1_f0 := M_1.f0
  have M_1_f1 := M_1.f1
  go_wp2_with fail
  refine (HBO.out _ R_1).mono ?_
  rintro e w2 ⟨rfl, y2⟩
  have R_2 := R_1.on y2
  have P_2 := P_1.on y2
  have B_2 := B_1.on y2
  have F_2 := F_1.on y2
  have M_2 := M_1.on y2
  clear R_1 P_1 B_1 B_1_c0 B_1_c1 F_1 F_1_c0 F_1_c1 M_1 M_1_c0 M_1_c1 M_1_f0 M_1_f1
  have z2 := Z1.trans (y2.mono Z1.size)
  have Z2 := z2
  have cM2 := CM_1.trans (y2.mono CM_1.size)
  have CM_2 := cM2
  have B_2_c0 := B_2.c0
  have B_2_c1 := B_2.c1
  have F_2_c0 := F_2.c0
  have F_2_c1 := F_2.c1
  have M_2_c0 := M_2.c0
  have M_2_c1 := M_2.c1
  have M_2_f0 := M_2.f0
  have M_2_f1 := M_2.f1
  go_wp2_with fail
  refine (refat_any _ _ _).mono ?_
  rintro e w3 ⟨rfl, y3⟩
  have R_3 := R_2.on y3
  have P_3 := P_2.on y3
  have B_3 := B_2.on y3
  have F_3 := F_2.on y3
  have M_3 := M_2.on y3
  clear R_2 P_2 B_2 B_2_c0 B_2_c1 F_2 F_2_c0 F_2_c1 M_2 M_2_c0 M_2_c1 M_2_f0 M_2_f1
  have z3 := Z2.trans (y3.mono Z2.size)
  have Z3 := z3
  have cM3 := CM_2.trans (y3.mono CM_2.size)
  have CM_3 := cM3
  have B_3_c0 := B_3.c0
  have B_3_c1 := B_3.c1
  have F_3_c0 := F_3.c0
  have F_3_c1 := F_3.c1
  have M_3_c0 := M_3.c0
  have M_3_c1 := M_3.c1
  have M_3_f0 := M_3.f0
  have M_3_f1 := M_3.f1
  have CM_4 := (CM_3.setCell (p := ⟨w1.heap.size + 1, 0, none⟩) (by simp) (.int .i64 2)).setCell (p := ⟨w1.heap.size + 1, 1, none⟩) (by simp) (.int .i64 (-2))
  have Z4 := (Z3.setCell (p := ⟨w1.heap.size + 1, 0, none⟩) (by have := z1.size; simp; omega) (.int .i64 2)).setCell (p := ⟨w1.heap.size + 1, 1, none⟩) (by have := z1.size; simp; omega) (.int .i64 (-2))
  have R_4 := R_b.on CM_4
  have P_4 := P_b.on CM_4
  have B_4 := B_b.on CM_4
  have F_4 := (F_3.far (p := ⟨w1.heap.size + 1, 0, none⟩) (by simp) (.int .i64 2)).far (p := ⟨w1.heap.size + 1, 1, none⟩) (by simp) (.int .i64 (-2))
  have M_4 := (M_3.set0 (.int .i64 2)).set1 (.int .i64 (-2))
  have B_4_c0 := B_4.c0
  have B_4_c1 := B_4.c1
  have F_4_c0 := F_4.c0
  have F_4_c1 := F_4.c1
  have M_4_c0 := M_4.c0
  have M_4_c1 := M_4.c1
  have M_4_f0 := M_4.f0
  have M_4_f1 := M_4.f1
  go_wp2_with fail
  go_loop [8] (fun i => i = .int .i64 0) (fun _ => 0)
  case atStart => rfl
  case round =>
    subst hrel
    go_wp2_with fail
    refine (codes_true _).mono ?_
    rintro e w5 ⟨rfl, y5⟩
    have R_5 := R_4.on y5
    have P_5 := P_4.on y5
    have B_5 := B_4.on y5
    have F_5 := F_4.on y5
    have M_5 := M_4.on y5
    clear R_3 P_3 B_3 B_3_c0 B_3_c1 F_3 F_3_c0 F_3_c1 M_3 M_3_c0 M_3_c1 M_3_f0 M_3_f1 R_4 P_4 B_4 B_4_c0 B_4_c1 F_4 F_4_c0 F_4_c1 M_4 M_4_c0 M_4_c1 M_4_f0 M_4_f1
    have z5 := Z4.trans (y5.mono Z4.size)
    have Z5 := z5
    have cM5 := CM_4.trans (y5.mono CM_4.size)
    have CM_5 := cM5
    have B_5_c0 := B_5.c0
    have B_5_c1 := B_5.c1
    have F_5_c0 := F_5.c0
    have F_5_c1 := F_5.c1
    have M_5_c0 := M_5.c0
    have M_5_c1 := M_5.c1
    have M_5_f0 := M_5.f0
    have M_5_f1 := M_5.f1
    go_wp2_with fail
    refine (codes_true _).mono ?_
    rintro e w6 ⟨rfl, y6⟩
    have R_6 := R_5.on y6
    have P_6 := P_5.on y6
    have B_6 := B_5.on y6
    have F_6 := F_5.on y6
    have M_6 := M_5.on y6
    clear R_5 P_5 B_5 B_5_c0 B_5_c1 F_5 F_5_c0 F_5_c1 M_5 M_5_c0 M_5_c1 M_5_f0 M_5_f1
    have z6 := Z5.trans (y6.mono Z5.size)
    have Z6 := z6
    have cM6 := CM_5.trans (y6.mono CM_5.size)
    have CM_6 := cM6
    have B_6_c0 := B_6.c0
    have B_6_c1 := B_6.c1
    have F_6_c0 := F_6.c0
    have F_6_c1 := F_6.c1
    have M_6_c0 := M_6.c0
    have M_6_c1 := M_6.c1
    have M_6_f0 := M_6.f0
    have M_6_f1 := M_6.f1
    go_wp2
    go_ret
    exact ⟨rfl, Z6⟩
set_option maxRecDepth 100000 in
set_option maxHeartbeats 1600000 in
theorem ad_bad {A : Option Addr} {n c : Nat} {A2 : Option Addr} {n2 c2 : Nat} {ps : List Int} {l : List Nat} (h01 : Is01 l) (hl : l.length ≤ 131072) (hlen : ps.length ≤ 8192) (q : Nat) (hq : q < ps.length) (hall : ∀ j (hj : j < ps.length), j < q → 1 ≤ ps[j] ∧ ps[j] ≤ 4095) (hbad : ¬ (1 ≤ ps[q] ∧ ps[q] ≤ 4095)) (w : World) (h : Rd w A n c (bcells (pack l))) (h2 : Rd w A2 n2 c2 (icells ps)) :
    Calls Try.prog 4 #[.agg #[.slice A n c, .int .i64 l.length], .slice A2 n2 c2] w fun e w' => e = .returned (.bool true) ∧ Below w.heap.size w w' := by
  have hn2 := h2.len
  rw [icells_length] at hn2
  have hcap := Reads.cap h2
  have hcm := Reads.capMax h2
  unfold maxLen at hcm
  obtain rfl := hn2
  have HDE := Lib.hid (fun (W : World) (hW : Rd W A n c (bcells (pack l))) (hW2 : Rd W A2 ps.length c2 (icells ps)) => ardec_bad hW hW2 h01 hl hlen q hq hall hbad)
  have HBO := Lib.hid (fun (W : World) (hW : Rd W A n c (bcells (pack l))) => bitsok_any hW (pack_lt h01) (by omega) (by omega) true ⟨fun _ => Ok.of_list h01 hl, fun _ => rfl⟩)
  have kl : decide ((8192 : Int) < (ps.length : Int)) = false := by simp; omega
  have HA := Lib.hid hall
  have HB := Lib.hid hbad
  clear hall hbad h01
  have R_0 := (h).alloc (.cells #[.slice A n c, .int .i64 l.length] 25)
  have P_0 := (h2).alloc (.cells #[.slice A n c, .int .i64 l.length] 25)
  have B_0 := (Two.new w 25 (.slice A n c) (.int .i64 l.length))
  have Z0 := (Below.refl w.heap.size w).alloc (by simp) (.cells #[.slice A n c, .int .i64 l.length] 25)
  have B_0_c0 := B_0.c0
  have B_0_c1 := B_0.c1
  go_enter Try.func4, Try.ntmps4
  go_wp2_with fail
  refine (HDE.out _ R_0 P_0).mono ?_
  rintro e w1 ⟨rfl, y1⟩
  have R_1 := ((R_0.on y1).alloc (.cells #[.int .i64 4, .int .i64 (q : Nat)] 27)).alloc (.cells #[.int .i64 0, .int .i64 0] 27)
  have P_1 := ((P_0.on y1).alloc (.cells #[.int .i64 4, .int .i64 (q : Nat)] 27)).alloc (.cells #[.int .i64 0, .int .i64 0] 27)
  have B_1 := ((B_0.on y1).alloc (.cells #[.int .i64 4, .int .i64 (q : Nat)] 27)).alloc (.cells #[.int .i64 0, .int .i64 0] 27)
  have R_b := R_0.on y1
  have P_b := P_0.on y1
  have B_b := B_0.on y1
  have F_1 := ((Two.new w1 27 (.int .i64 4) (.int .i64 (q : Nat)))).alloc (.cells #[.int .i64 0, .int .i64 0] 27)
  have M_1 := (Two.new1 w1 (.cells #[.int .i64 4, .int .i64 (q : Nat)] 27) 27 (.int .i64 0) (.int .i64 0))
  clear R_0 P_0 B_0 B_0_c0 B_0_c1
  have z1 := Z0.trans (y1.mono Z0.size)
  have Z1 := ((z1).alloc (by have := z1.size; omega) (.cells #[.int .i64 4, .int .i64 (q : Nat)] 27)).alloc (by have := z1.size; simp; omega) (.cells #[.int .i64 0, .int .i64 0] 27)
  have CM_1 := ((Below.refl w1.heap.size w1).alloc (by simp) (.cells #[.int .i64 4, .int .i64 (q : Nat)] 27)).alloc (by simp) (.cells #[.int .i64 0, .int .i64 0] 27)
  have B_1_c0 := B_1.c0
  have B_1_c1 := B_1.c1
  have F_1_c0 := F_1.c0
  have F_1_c1 := F_1.c1
  have M_1_c0 := M_1.c0
  have M_1_c1 := M_1.c1
  have M_1_f0 := M_1.f0
  have M_1_f1 := M_1.f1
  go_wp2_with fail
  refine (HBO.out _ R_1).mono ?_
  rintro e w2 ⟨rfl, y2⟩
  have R_2 := R_1.on y2
  have P_2 := P_1.on y2
  have B_2 := B_1.on y2
  have F_2 := F_1.on y2
  have M_2 := M_1.on y2
  clear R_1 P_1 B_1 B_1_c0 B_1_c1 F_1 F_1_c0 F_1_c1 M_1 M_1_c0 M_1_c1 M_1_f0 M_1_f1
  have z2 := Z1.trans (y2.mono Z1.size)
  have Z2 := z2
  have cM2 := CM_1.trans (y2.mono CM_1.size)
  have CM_2 := cM2
  have B_2_c0 := B_2.c0
  have B_2_c1 := B_2.c1
  have F_2_c0 := F_2.c0
  have F_2_c1 := F_2.c1
  have M_2_c0 := M_2.c0
  have M_2_c1 := M_2.c1
  have M_2_f0 := M_2.f0
  have M_2_f1 := M_2.f1
  go_wp2_with fail
  go_loopw [8] (fun i wr => (∃ j : Nat, j ≤ q ∧ i = .int .i64 (j : Nat) ∧ Two wr w1.heap.size 27 (.int .i64 4) (.int .i64 (q : Nat)) ∧ Two wr (w1.heap.size + 1) 27 (.int .i64 0) (.int .i64 0) ∧ Rd wr A2 ps.length c2 (icells ps) ∧ Below w.heap.size w wr) ∨ (i = .int .i64 ((q : Int) + 1) ∧ Two wr w1.heap.size 27 (.int .i64 4) (.int .i64 (q : Nat)) ∧ Two wr (w1.heap.size + 1) 27 (.int .i64 4) (.int .i64 (q : Nat)) ∧ Below w.heap.size w wr)) (fun i _ => ps.length + 1 - (intOf i).toNat)
  case atStart => exact .inl ⟨0, Nat.zero_le _, rfl, F_2, M_2, P_2, Z2⟩
  case round =>
    have hw1 : w.heap.size ≤ w1.heap.size := by have := z1.size; omega
    rcases hrel with ⟨j, hj, rfl, F5, M5, P5, Z5⟩ | ⟨rfl, F5, M5, Z5⟩
    · have hlt : j < ps.length := by omega
      obtain ⟨b, off, rfl, hb, hc⟩ := P5.2.2.2 (by omega)
      have hcell := hc j _ (icells_get hlt)
      obtain ⟨p, hp⟩ : ∃ p, p = ps[j] := ⟨_, rfl⟩
      rw [← hp] at hcell
      have i1 : (0 : Int) ≤ (j : Int) := by omega
      have i2 : (j : Int) < (ps.length : Int) := by omega
      have m0 := M5.c0
      have m1 := M5.c1
      have m2 := M5.f0
      have m3 := M5.f1
      clear hc
      by_cases hjq : j < q
      · have hok := HA.out j hlt hjq
        rw [← hp] at hok
        have HP1 := Lib.hid hok.1
        have HP2 := Lib.hid hok.2
        clear hok hp
        go_wp2_with fail
        refine (in_yes _ _ _ _ HP1.out HP2.out).mono ?_
        rintro e w9 ⟨rfl, rfl⟩
        go_wp2_with fail
        go_roundw
        case rel => exact .inl ⟨j + 1, by omega, by go_num, F5, M5, P5, Z5⟩
        case measure => simp [intOf] <;> omega
      · obtain rfl : j = q := by omega
        have hno := HB.out
        rw [← hp] at hno
        have HP := Lib.hid (show p < 1 ∨ 4095 < p by omega)
        clear hno hp
        go_wp2_with fail
        refine (in_no _ _ _ _ HP.out).mono ?_
        rintro e w9 ⟨rfl, rfl⟩
        go_wp2_with fail
        refine (refat_any _ _ _).mono ?_
        rintro e w7 ⟨rfl, y7⟩
        have F7 := F5.on y7
        have M7 := M5.on y7
        have Z7 := Z5.trans (y7.mono Z5.size)
        have n0 := M7.c0
        have n1 := M7.c1
        have n2 := M7.f0
        have n3 := M7.f1
        have F8 := (F7.far (p := ⟨w1.heap.size + 1, 0, none⟩) (by simp) (.int .i64 4)).far (p := ⟨w1.heap.size + 1, 1, none⟩) (by simp) (.int .i64 (j : Nat))
        have M8 := (M7.set0 (.int .i64 4)).set1 (.int .i64 (j : Nat))
        have Z8 := (Z7.setCell (p := ⟨w1.heap.size + 1, 0, none⟩) (by show w.heap.size ≤ w1.heap.size + 1; omega) (.int .i64 4)).setCell (p := ⟨w1.heap.size + 1, 1, none⟩) (by show w.heap.size ≤ w1.heap.size + 1; omega) (.int .i64 (j : Nat))
        clear F7 M7 Z7 m0 m1 m2 m3 hcell
        go_wp2_with fail
        go_roundw
        case rel => exact .inr ⟨by go_num, F8, M8, Z8⟩
        case measure => simp [intOf] <;> omega
    · have f0 := F5.c0
      have f1 := F5.c1
      have m0 := M5.c0
      have m1 := M5.c1
      have hdq : decide ((q : Int) + 1 < (ps.length : Int)) = decide ((q : Int) + 1 < (ps.length : Int)) := rfl
      by_cases hlast : (q : Int) + 1 < (ps.length : Int)
      all_goals
        go_wp2_with fail
        refine (codes_true _).mono ?_
        rintro e w7 ⟨rfl, y7⟩
        have F7 := F5.on y7
        have M7 := M5.on y7
        have Z7 := Z5.trans (y7.mono Z5.size)
        have f2 := F7.c0
        have f3 := F7.c1
        have m2 := M7.c0
        have m3 := M7.c1
        go_wp2_with fail
        refine (codes_true _).mono ?_
        rintro e w8 ⟨rfl, y8⟩
        have F8 := F7.on y8
        have M8 := M7.on y8
        have Z8 := Z7.trans (y8.mono Z7.size)
        have f4 := F8.c0
        have f5 := F8.c1
        have m4 := M8.c0
        have m5 := M8.c1
        go_wp2
        go_ret
        exact ⟨rfl, Z8⟩
theorem ncells_icells (l : List Nat) : ncells l = icells (l.map fun x : Nat => (x : Int)) := by simp [ncells, icells]
theorem Rd.toI {w : World} {A : Option Addr} {n c : Nat} {l : List Nat} (h : Rd w A n c (ncells l)) : Rd w A n c (icells (l.map fun x : Nat => (x : Int))) := by rw [← ncells_icells]; exact h
set_option maxRecDepth 100000 in
set_option maxHeartbeats 1600000 in
theorem ad_short {A : Option Addr} {n c : Nat} {A2 : Option Addr} {n2 c2 : Nat} {ps : List Int} {l : List Nat} (h01 : Is01 l) (hl : l.length ≤ 131072) (hlen : ps.length ≤ 8192) (hall : AllP ps) (hs : l.length < 2) (w : World) (h : Rd w A n c (bcells (pack l))) (h2 : Rd w A2 n2 c2 (icells ps)) :
    Calls Try.prog 4 #[.agg #[.slice A n c, .int .i64 l.length], .slice A2 n2 c2] w fun e w' => e = .returned (.bool true) ∧ Below w.heap.size w w' := by
  have hn2 := h2.len
  rw [icells_length] at hn2
  have hcap := Reads.cap h2
  have hcm := Reads.capMax h2
  unfold maxLen at hcm
  obtain rfl := hn2
  have hcd01 := h01
  have HBO := Lib.hid (fun (W : World) (hW : Rd W A n c (bcells (pack l))) => bitsok_any hW (pack_lt h01) (by omega) (by omega) true ⟨fun _ => Ok.of_list h01 hl, fun _ => rfl⟩)
  have kl : decide ((8192 : Int) < (ps.length : Int)) = false := by simp; omega
  have HA := Lib.hid hall
  obtain ⟨D, hD⟩ : ∃ D, D = (drun l ps (dinit l)).at_ := ⟨_, rfl⟩
  have hD16 : 16 ≤ D := by rw [hD]; exact drun_at_le l ps (dinit l)
  have hDb : D ≤ 16 + 14 * ps.length := by rw [hD]; exact drun_at_bound h01 ps hall _ (dinit_ok h01)
  obtain ⟨M0, hM0⟩ : ∃ M0, M0 + 16 = D := ⟨D - 16, by omega⟩
  obtain ⟨O, hO⟩ : ∃ O, O = dbits l ps (dinit l) := ⟨_, rfl⟩
  have HBI := Lib.hid (fun (W : World) (hW : Rd W A n c (bcells (pack l))) => bits_any hW h01 hl (l.length : Nat) rfl)
  have HDD := Lib.hid (fun (A7 : Option Addr) (n7 c7 : Nat) (W : World) (hW : Rd W A7 n7 c7 (ncells l)) (hW2 : Rd W A2 ps.length c2 (icells ps)) => decoded_any hW hW2 h01 (by omega) hall hlen O M0 hO (by rw [hM0, hD]))
  have HDE := Lib.hid (fun (W : World) (hW : Rd W A n c (bcells (pack l))) (hW2 : Rd W A2 ps.length c2 (icells ps)) => ardec_short hW hW2 h01 hl hlen hall hs)
  have kt : decide ((l.length : Int) < (M0 : Int) + 2) = true := by simp; omega
  clear hs
  have hMb : M0 ≤ 114688 := by omega
  have hO2 := hO
  clear hO2 hO hD hM0 hD16 hDb
  have H01 := Lib.hid h01
  clear h01 hcd01
  have R_0 := (h).alloc (.cells #[.slice A n c, .int .i64 l.length] 25)
  have P_0 := (h2).alloc (.cells #[.slice A n c, .int .i64 l.length] 25)
  have B_0 := (Two.new w 25 (.slice A n c) (.int .i64 l.length))
  have Z0 := (Below.refl w.heap.size w).alloc (by simp) (.cells #[.slice A n c, .int .i64 l.length] 25)
  have B_0_c0 := B_0.c0
  have B_0_c1 := B_0.c1
  go_enter Try.func4, Try.ntmps4
  go_wp2_with fail
  refine (HDE.out _ R_0 P_0).mono ?_
  rintro e w1 ⟨rfl, y1⟩
  have R_1 := ((R_0.on y1).alloc (.cells #[.int .i64 15, .int .i64 (-1)] 27)).alloc (.cells #[.int .i64 0, .int .i64 0] 27)
  have P_1 := ((P_0.on y1).alloc (.cells #[.int .i64 15, .int .i64 (-1)] 27)).alloc (.cells #[.int .i64 0, .int .i64 0] 27)
  have B_1 := ((B_0.on y1).alloc (.cells #[.int .i64 15, .int .i64 (-1)] 27)).alloc (.cells #[.int .i64 0, .int .i64 0] 27)
  have F_1 := ((Two.new w1 27 (.int .i64 15) (.int .i64 (-1)))).alloc (.cells #[.int .i64 0, .int .i64 0] 27)
  have M_1 := (Two.new1 w1 (.cells #[.int .i64 15, .int .i64 (-1)] 27) 27 (.int .i64 0) (.int .i64 0))
  clear R_0 P_0 B_0 B_0_c0 B_0_c1
  have z1 := Z0.trans (y1.mono Z0.size)
  have Z1 := ((z1).alloc (by have := z1.size; omega) (.cells #[.int .i64 15, .int .i64 (-1)] 27)).alloc (by have := z1.size; simp; omega) (.cells #[.int .i64 0, .int .i64 0] 27)
  have B_1_c0 := B_1.c0
  have B_1_c1 := B_1.c1
  have F_1_c0 := F_1.c0
  have F_1_c1 := F_1.c1
  have M_1_c0 := M_1.c0
  have M_1_c1 := M_1.c1
  go_wp2_with fail
  refine (HBO.out _ R_1).mono ?_
  rintro e w2 ⟨rfl, y2⟩
  have R_2 := R_1.on y2
  have P_2 := P_1.on y2
  have B_2 := B_1.on y2
  have F_2 := F_1.on y2
  have M_2 := M_1.on y2
  clear R_1 P_1 B_1 B_1_c0 B_1_c1 F_1 F_1_c0 F_1_c1 M_1 M_1_c0 M_1_c1
  have z2 := Z1.trans (y2.mono Z1.size)
  have Z2 := z2
  have B_2_c0 := B_2.c0
  have B_2_c1 := B_2.c1
  have F_2_c0 := F_2.c0
  have F_2_c1 := F_2.c1
  have M_2_c0 := M_2.c0
  have M_2_c1 := M_2.c1
  go_wp2_with fail
  go_loop [8] (fun i => ∃ j : Nat, j ≤ ps.length ∧ i = .int .i64 (j : Nat)) (fun i => ps.length - (intOf i).toNat)
  case atStart => exact ⟨0, Nat.zero_le _, rfl⟩
  case round =>
    obtain ⟨j, hj, rfl⟩ := hrel
    by_cases hlt : j < ps.length
    · obtain ⟨b, off, rfl, hb, hc⟩ := P_2.2.2.2 (by omega)
      have hcell := hc j _ (icells_get hlt)
      obtain ⟨p, hp⟩ : ∃ p, p = ps[j] := ⟨_, rfl⟩
      rw [← hp] at hcell
      have i1 : (0 : Int) ≤ (j : Int) := by omega
      have i2 : (j : Int) < (ps.length : Int) := by omega
      have hok := HA.out _ (List.getElem_mem hlt)
      rw [← hp] at hok
      have HP1 := Lib.hid hok.1
      have HP2 := Lib.hid hok.2
      clear hc hok hp
      go_wp2_with fail
      refine (in_yes _ _ _ _ HP1.out HP2.out).mono ?_
      rintro e w9 ⟨rfl, rfl⟩
      go_wp2_with fail
      go_round
      case rel => exact ⟨j + 1, by omega, by go_num⟩
      case measure => simp [intOf] <;> omega
    · obtain rfl : j = ps.length := by omega
      go_wp2_with fail
      refine (codes_true _).mono ?_
      rintro e w3 ⟨rfl, y3⟩
      have R_3 := R_2.on y3
      have P_3 := P_2.on y3
      have B_3 := B_2.on y3
      have F_3 := F_2.on y3
      have M_3 := M_2.on y3
      clear R_2 P_2 B_2 B_2_c0 B_2_c1 F_2 F_2_c0 F_2_c1 M_2 M_2_c0 M_2_c1
      have z3 := Z2.trans (y3.mono Z2.size)
      have Z3 := z3
      have B_3_c0 := B_3.c0
      have B_3_c1 := B_3.c1
      have F_3_c0 := F_3.c0
      have F_3_c1 := F_3.c1
      have M_3_c0 := M_3.c0
      have M_3_c1 := M_3.c1
      go_wp2_with fail
      refine (HBI.out _ R_3).mono ?_
      rintro e w4 ⟨A6, c6, rfl, o6, y4⟩
      have R_4 := R_3.on y4
      have P_4 := P_3.on y4
      have B_4 := B_3.on y4
      have F_4 := F_3.on y4
      have M_4 := M_3.on y4
      have T_4 := o6
      clear R_3 P_3 B_3 B_3_c0 B_3_c1 F_3 F_3_c0 F_3_c1 M_3 M_3_c0 M_3_c1
      have z4 := Z3.trans (y4.mono Z3.size)
      have Z4 := z4
      have B_4_c0 := B_4.c0
      have B_4_c1 := B_4.c1
      have F_4_c0 := F_4.c0
      have F_4_c1 := F_4.c1
      have M_4_c0 := M_4.c0
      have M_4_c1 := M_4.c1
      go_wp2_with fail
      refine (HDD.out _ _ _ _ (Rd.own T_4) P_4).mono ?_
      rintro e w5 ⟨A7, n7, c7, rfl, hn7, o7, y5⟩
      have R_5 := R_4.on y5
      have P_5 := P_4.on y5
      have B_5 := B_4.on y5
      have F_5 := F_4.on y5
      have M_5 := M_4.on y5
      have U_5 := o7
      clear R_4 P_4 B_4 B_4_c0 B_4_c1 F_4 F_4_c0 F_4_c1 M_4 M_4_c0 M_4_c1 T_4
      have z5 := Z4.trans (y5.mono Z4.size)
      have Z5 := z5
      have B_5_c0 := B_5.c0
      have B_5_c1 := B_5.c1
      have F_5_c0 := F_5.c0
      have F_5_c1 := F_5.c1
      have M_5_c0 := M_5.c0
      have M_5_c1 := M_5.c1
      go_wp2_with fail
      go_region_held3 (fun w' => w'.cell? ⟨w1.heap.size, 0, none⟩ = some (.int .i64 15) ∧ w'.cell? ⟨w1.heap.size, 1, none⟩ = some (.int .i64 (-1))) (go_keep) ((go_at_call 19; refine (refat_any _ _ _).mono ?_; rintro e w6 ⟨rfl, y6⟩; have Y6 : Below w5.heap.size w5.drew w6 := y6; have F_6_c0 := ((Two.on (w := w5.drew) F_5 Y6)).c0; have F_6_c1 := ((Two.on (w := w5.drew) F_5 Y6)).c1))
      have R_6 := (Rd.on (w := w5.drew) R_5 Y6)
      have P_6 := (Rd.on (w := w5.drew) P_5 Y6)
      have B_6 := (Two.on (w := w5.drew) B_5 Y6)
      have F_6 := (Two.on (w := w5.drew) F_5 Y6)
      have M_6 := (Two.on (w := w5.drew) M_5 Y6)
      have U_6 := (own_on (w := w5.drew) U_5 Y6)
      have Z6 := (belowD Z5).trans (Y6.mono (belowD Z5).size)
      clear F_6_c0 F_6_c1
      clear R_5 P_5 B_5 B_5_c0 B_5_c1 F_5 F_5_c0 F_5_c1 M_5 M_5_c0 M_5_c1 U_5
      have B_6_c0 := B_6.c0
      have B_6_c1 := B_6.c1
      have F_6_c0 := F_6.c0
      have F_6_c1 := F_6.c1
      have M_6_c0 := M_6.c0
      have M_6_c1 := M_6.c1
      go_wp2
      go_ret
      exact ⟨rfl, Z6⟩
set_option maxRecDepth 100000 in
set_option maxHeartbeats 1600000 in
theorem ad_trunc {A : Option Addr} {n c : Nat} {A2 : Option Addr} {n2 c2 : Nat} {ps : List Int} {l : List Nat} (h01 : Is01 l) (hl : l.length ≤ 131072) (hlen : ps.length ≤ 8192) (hall : AllP ps) (hs : 2 ≤ l.length) (hc : l.length + 14 < (drun l ps (dinit l)).at_) (w : World) (h : Rd w A n c (bcells (pack l))) (h2 : Rd w A2 n2 c2 (icells ps)) :
    Calls Try.prog 4 #[.agg #[.slice A n c, .int .i64 l.length], .slice A2 n2 c2] w fun e w' => e = .returned (.bool true) ∧ Below w.heap.size w w' := by
  have hn2 := h2.len
  rw [icells_length] at hn2
  have hcap := Reads.cap h2
  have hcm := Reads.capMax h2
  unfold maxLen at hcm
  obtain rfl := hn2
  have hcd01 := h01
  have HBO := Lib.hid (fun (W : World) (hW : Rd W A n c (bcells (pack l))) => bitsok_any hW (pack_lt h01) (by omega) (by omega) true ⟨fun _ => Ok.of_list h01 hl, fun _ => rfl⟩)
  have kl : decide ((8192 : Int) < (ps.length : Int)) = false := by simp; omega
  have HA := Lib.hid hall
  obtain ⟨D, hD⟩ : ∃ D, D = (drun l ps (dinit l)).at_ := ⟨_, rfl⟩
  have hD16 : 16 ≤ D := by rw [hD]; exact drun_at_le l ps (dinit l)
  have hDb : D ≤ 16 + 14 * ps.length := by rw [hD]; exact drun_at_bound h01 ps hall _ (dinit_ok h01)
  obtain ⟨M0, hM0⟩ : ∃ M0, M0 + 16 = D := ⟨D - 16, by omega⟩
  obtain ⟨O, hO⟩ : ∃ O, O = dbits l ps (dinit l) := ⟨_, rfl⟩
  have HBI := Lib.hid (fun (W : World) (hW : Rd W A n c (bcells (pack l))) => bits_any hW h01 hl (l.length : Nat) rfl)
  have HDD := Lib.hid (fun (A7 : Option Addr) (n7 c7 : Nat) (W : World) (hW : Rd W A7 n7 c7 (ncells l)) (hW2 : Rd W A2 ps.length c2 (icells ps)) => decoded_any hW hW2 h01 (by omega) hall hlen O M0 hO (by rw [hM0, hD]))
  rw [← hD] at hc
  have HDE := Lib.hid (fun (W : World) (hW : Rd W A n c (bcells (pack l))) (hW2 : Rd W A2 ps.length c2 (icells ps)) => ardec_main hW hW2 h01 hl hlen hall hs 15 (-1) (by decide) [] (by rw [← hD]; exact (if_pos hc).symm) rfl)
  have kt : decide ((l.length : Int) < (M0 : Int) + 2) = true := by simp; omega
  have kc : decide ((M0 : Int) + 2 < (l.length : Int)) = false := by simp; omega
  clear hs hc
  have hMb : M0 ≤ 114688 := by omega
  have hO2 := hO
  clear hO2 hO hD hM0 hD16 hDb
  have H01 := Lib.hid h01
  clear h01 hcd01
  have R_0 := (h).alloc (.cells #[.slice A n c, .int .i64 l.length] 25)
  have P_0 := (h2).alloc (.cells #[.slice A n c, .int .i64 l.length] 25)
  have B_0 := (Two.new w 25 (.slice A n c) (.int .i64 l.length))
  have Z0 := (Below.refl w.heap.size w).alloc (by simp) (.cells #[.slice A n c, .int .i64 l.length] 25)
  have B_0_c0 := B_0.c0
  have B_0_c1 := B_0.c1
  go_enter Try.func4, Try.ntmps4
  go_wp2_with fail
  refine (HDE.out _ R_0 P_0).mono ?_
  rintro e w1 ⟨A9, n9, c9, rfl, R9, y1⟩
  have R_1 := ((R_0.on y1).alloc (.cells #[.int .i64 15, .int .i64 (-1)] 27)).alloc (.cells #[.int .i64 0, .int .i64 0] 27)
  have P_1 := ((P_0.on y1).alloc (.cells #[.int .i64 15, .int .i64 (-1)] 27)).alloc (.cells #[.int .i64 0, .int .i64 0] 27)
  have B_1 := ((B_0.on y1).alloc (.cells #[.int .i64 15, .int .i64 (-1)] 27)).alloc (.cells #[.int .i64 0, .int .i64 0] 27)
  have S_1 := ((R9).alloc (.cells #[.int .i64 15, .int .i64 (-1)] 27)).alloc (.cells #[.int .i64 0, .int .i64 0] 27)
  have F_1 := ((Two.new w1 27 (.int .i64 15) (.int .i64 (-1)))).alloc (.cells #[.int .i64 0, .int .i64 0] 27)
  have M_1 := (Two.new1 w1 (.cells #[.int .i64 15, .int .i64 (-1)] 27) 27 (.int .i64 0) (.int .i64 0))
  clear R_0 P_0 B_0 B_0_c0 B_0_c1
  have z1 := Z0.trans (y1.mono Z0.size)
  have Z1 := ((z1).alloc (by have := z1.size; omega) (.cells #[.int .i64 15, .int .i64 (-1)] 27)).alloc (by have := z1.size; simp; omega) (.cells #[.int .i64 0, .int .i64 0] 27)
  have B_1_c0 := B_1.c0
  have B_1_c1 := B_1.c1
  have F_1_c0 := F_1.c0
  have F_1_c1 := F_1.c1
  have M_1_c0 := M_1.c0
  have M_1_c1 := M_1.c1
  have hn9 := S_1.len
  have hn90 : n9 = 0 := by rw [← hn9]; rfl
  subst hn90
  clear hn9
  go_wp2_with fail
  refine (HBO.out _ R_1).mono ?_
  rintro e w2 ⟨rfl, y2⟩
  have R_2 := R_1.on y2
  have P_2 := P_1.on y2
  have B_2 := B_1.on y2
  have S_2 := S_1.on y2
  have F_2 := F_1.on y2
  have M_2 := M_1.on y2
  clear R_1 P_1 B_1 B_1_c0 B_1_c1 S_1 F_1 F_1_c0 F_1_c1 M_1 M_1_c0 M_1_c1
  have z2 := Z1.trans (y2.mono Z1.size)
  have Z2 := z2
  have B_2_c0 := B_2.c0
  have B_2_c1 := B_2.c1
  have F_2_c0 := F_2.c0
  have F_2_c1 := F_2.c1
  have M_2_c0 := M_2.c0
  have M_2_c1 := M_2.c1
  go_wp2_with fail
  go_loop [8] (fun i => ∃ j : Nat, j ≤ ps.length ∧ i = .int .i64 (j : Nat)) (fun i => ps.length - (intOf i).toNat)
  case atStart => exact ⟨0, Nat.zero_le _, rfl⟩
  case round =>
    obtain ⟨j, hj, rfl⟩ := hrel
    by_cases hlt : j < ps.length
    · obtain ⟨b, off, rfl, hb, hc⟩ := P_2.2.2.2 (by omega)
      have hcell := hc j _ (icells_get hlt)
      obtain ⟨p, hp⟩ : ∃ p, p = ps[j] := ⟨_, rfl⟩
      rw [← hp] at hcell
      have i1 : (0 : Int) ≤ (j : Int) := by omega
      have i2 : (j : Int) < (ps.length : Int) := by omega
      have hok := HA.out _ (List.getElem_mem hlt)
      rw [← hp] at hok
      have HP1 := Lib.hid hok.1
      have HP2 := Lib.hid hok.2
      clear hc hok hp
      go_wp2_with fail
      refine (in_yes _ _ _ _ HP1.out HP2.out).mono ?_
      rintro e w9 ⟨rfl, rfl⟩
      go_wp2_with fail
      go_round
      case rel => exact ⟨j + 1, by omega, by go_num⟩
      case measure => simp [intOf] <;> omega
    · obtain rfl : j = ps.length := by omega
      go_wp2_with fail
      refine (codes_true _).mono ?_
      rintro e w3 ⟨rfl, y3⟩
      have R_3 := R_2.on y3
      have P_3 := P_2.on y3
      have B_3 := B_2.on y3
      have S_3 := S_2.on y3
      have F_3 := F_2.on y3
      have M_3 := M_2.on y3
      clear R_2 P_2 B_2 B_2_c0 B_2_c1 S_2 F_2 F_2_c0 F_2_c1 M_2 M_2_c0 M_2_c1
      have z3 := Z2.trans (y3.mono Z2.size)
      have Z3 := z3
      have B_3_c0 := B_3.c0
      have B_3_c1 := B_3.c1
      have F_3_c0 := F_3.c0
      have F_3_c1 := F_3.c1
      have M_3_c0 := M_3.c0
      have M_3_c1 := M_3.c1
      go_wp2_with fail
      refine (HBI.out _ R_3).mono ?_
      rintro e w4 ⟨A6, c6, rfl, o6, y4⟩
      have R_4 := R_3.on y4
      have P_4 := P_3.on y4
      have B_4 := B_3.on y4
      have S_4 := S_3.on y4
      have F_4 := F_3.on y4
      have M_4 := M_3.on y4
      have T_4 := o6
      clear R_3 P_3 B_3 B_3_c0 B_3_c1 S_3 F_3 F_3_c0 F_3_c1 M_3 M_3_c0 M_3_c1
      have z4 := Z3.trans (y4.mono Z3.size)
      have Z4 := z4
      have B_4_c0 := B_4.c0
      have B_4_c1 := B_4.c1
      have F_4_c0 := F_4.c0
      have F_4_c1 := F_4.c1
      have M_4_c0 := M_4.c0
      have M_4_c1 := M_4.c1
      go_wp2_with fail
      refine (HDD.out _ _ _ _ (Rd.own T_4) P_4).mono ?_
      rintro e w5 ⟨A7, n7, c7, rfl, hn7, o7, y5⟩
      have R_5 := R_4.on y5
      have P_5 := P_4.on y5
      have B_5 := B_4.on y5
      have S_5 := S_4.on y5
      have F_5 := F_4.on y5
      have M_5 := M_4.on y5
      have U_5 := o7
      clear R_4 P_4 B_4 B_4_c0 B_4_c1 S_4 F_4 F_4_c0 F_4_c1 M_4 M_4_c0 M_4_c1 T_4
      have z5 := Z4.trans (y5.mono Z4.size)
      have Z5 := z5
      have B_5_c0 := B_5.c0
      have B_5_c1 := B_5.c1
      have F_5_c0 := F_5.c0
      have F_5_c1 := F_5.c1
      have M_5_c0 := M_5.c0
      have M_5_c1 := M_5.c1
      go_wp2_with fail
      go_region_held3 (fun w' => w'.cell? ⟨w1.heap.size, 0, none⟩ = some (.int .i64 15) ∧ w'.cell? ⟨w1.heap.size, 1, none⟩ = some (.int .i64 (-1))) (go_keep) ((go_at_call 19; refine (refat_any _ _ _).mono ?_; rintro e w6 ⟨rfl, y6⟩; have Y6 : Below w5.heap.size w5.drew w6 := y6; have F_6_c0 := ((Two.on (w := w5.drew) F_5 Y6)).c0; have F_6_c1 := ((Two.on (w := w5.drew) F_5 Y6)).c1))
      have R_6 := (Rd.on (w := w5.drew) R_5 Y6)
      have P_6 := (Rd.on (w := w5.drew) P_5 Y6)
      have B_6 := (Two.on (w := w5.drew) B_5 Y6)
      have S_6 := (Rd.on (w := w5.drew) S_5 Y6)
      have F_6 := (Two.on (w := w5.drew) F_5 Y6)
      have M_6 := (Two.on (w := w5.drew) M_5 Y6)
      have U_6 := (own_on (w := w5.drew) U_5 Y6)
      have Z6 := (belowD Z5).trans (Y6.mono (belowD Z5).size)
      clear F_6_c0 F_6_c1
      clear R_5 P_5 B_5 B_5_c0 B_5_c1 S_5 F_5 F_5_c0 F_5_c1 M_5 M_5_c0 M_5_c1 U_5
      have B_6_c0 := B_6.c0
      have B_6_c1 := B_6.c1
      have F_6_c0 := F_6.c0
      have F_6_c1 := F_6.c1
      have M_6_c0 := M_6.c0
      have M_6_c1 := M_6.c1
      go_wp2
      go_ret
      exact ⟨rfl, Z6⟩
set_option maxRecDepth 100000 in
set_option maxHeartbeats 1600000 in
theorem ad_corr {A : Option Addr} {n c : Nat} {A2 : Option Addr} {n2 c2 : Nat} {ps : List Int} {l : List Nat} (h01 : Is01 l) (hl : l.length ≤ 131072) (hlen : ps.length ≤ 8192) (hall : AllP ps) (hs : 2 ≤ l.length) (hc : (drun l ps (dinit l)).at_ < l.length + 14) (w : World) (h : Rd w A n c (bcells (pack l))) (h2 : Rd w A2 n2 c2 (icells ps)) :
    Calls Try.prog 4 #[.agg #[.slice A n c, .int .i64 l.length], .slice A2 n2 c2] w fun e w' => e = .returned (.bool true) ∧ Below w.heap.size w w' := by
  have hn2 := h2.len
  rw [icells_length] at hn2
  have hcap := Reads.cap h2
  have hcm := Reads.capMax h2
  unfold maxLen at hcm
  obtain rfl := hn2
  have hcd01 := h01
  have HBO := Lib.hid (fun (W : World) (hW : Rd W A n c (bcells (pack l))) => bitsok_any hW (pack_lt h01) (by omega) (by omega) true ⟨fun _ => Ok.of_list h01 hl, fun _ => rfl⟩)
  have kl : decide ((8192 : Int) < (ps.length : Int)) = false := by simp; omega
  have HA := Lib.hid hall
  obtain ⟨D, hD⟩ : ∃ D, D = (drun l ps (dinit l)).at_ := ⟨_, rfl⟩
  have hD16 : 16 ≤ D := by rw [hD]; exact drun_at_le l ps (dinit l)
  have hDb : D ≤ 16 + 14 * ps.length := by rw [hD]; exact drun_at_bound h01 ps hall _ (dinit_ok h01)
  obtain ⟨M0, hM0⟩ : ∃ M0, M0 + 16 = D := ⟨D - 16, by omega⟩
  obtain ⟨O, hO⟩ : ∃ O, O = dbits l ps (dinit l) := ⟨_, rfl⟩
  have HBI := Lib.hid (fun (W : World) (hW : Rd W A n c (bcells (pack l))) => bits_any hW h01 hl (l.length : Nat) rfl)
  have HDD := Lib.hid (fun (A7 : Option Addr) (n7 c7 : Nat) (W : World) (hW : Rd W A7 n7 c7 (ncells l)) (hW2 : Rd W A2 ps.length c2 (icells ps)) => decoded_any hW hW2 h01 (by omega) hall hlen O M0 hO (by rw [hM0, hD]))
  rw [← hD] at hc
  have HDE := Lib.hid (fun (W : World) (hW : Rd W A n c (bcells (pack l))) (hW2 : Rd W A2 ps.length c2 (icells ps)) => ardec_main hW hW2 h01 hl hlen hall hs 16 (-1) (by decide) [] (by rw [← hD]; exact by rw [if_neg (by omega), if_pos hc]) rfl)
  have kt : decide ((l.length : Int) < (M0 : Int) + 2) = false := by simp; omega
  have kc : decide ((M0 : Int) + 2 < (l.length : Int)) = true := by simp; omega
  clear hs hc
  have hMb : M0 ≤ 114688 := by omega
  have hO2 := hO
  clear hO2 hO hD hM0 hD16 hDb
  have H01 := Lib.hid h01
  clear h01 hcd01
  have R_0 := (h).alloc (.cells #[.slice A n c, .int .i64 l.length] 25)
  have P_0 := (h2).alloc (.cells #[.slice A n c, .int .i64 l.length] 25)
  have B_0 := (Two.new w 25 (.slice A n c) (.int .i64 l.length))
  have Z0 := (Below.refl w.heap.size w).alloc (by simp) (.cells #[.slice A n c, .int .i64 l.length] 25)
  have B_0_c0 := B_0.c0
  have B_0_c1 := B_0.c1
  go_enter Try.func4, Try.ntmps4
  go_wp2_with fail
  refine (HDE.out _ R_0 P_0).mono ?_
  rintro e w1 ⟨A9, n9, c9, rfl, R9, y1⟩
  have R_1 := ((R_0.on y1).alloc (.cells #[.int .i64 16, .int .i64 (-1)] 27)).alloc (.cells #[.int .i64 0, .int .i64 0] 27)
  have P_1 := ((P_0.on y1).alloc (.cells #[.int .i64 16, .int .i64 (-1)] 27)).alloc (.cells #[.int .i64 0, .int .i64 0] 27)
  have B_1 := ((B_0.on y1).alloc (.cells #[.int .i64 16, .int .i64 (-1)] 27)).alloc (.cells #[.int .i64 0, .int .i64 0] 27)
  have S_1 := ((R9).alloc (.cells #[.int .i64 16, .int .i64 (-1)] 27)).alloc (.cells #[.int .i64 0, .int .i64 0] 27)
  have F_1 := ((Two.new w1 27 (.int .i64 16) (.int .i64 (-1)))).alloc (.cells #[.int .i64 0, .int .i64 0] 27)
  have M_1 := (Two.new1 w1 (.cells #[.int .i64 16, .int .i64 (-1)] 27) 27 (.int .i64 0) (.int .i64 0))
  clear R_0 P_0 B_0 B_0_c0 B_0_c1
  have z1 := Z0.trans (y1.mono Z0.size)
  have Z1 := ((z1).alloc (by have := z1.size; omega) (.cells #[.int .i64 16, .int .i64 (-1)] 27)).alloc (by have := z1.size; simp; omega) (.cells #[.int .i64 0, .int .i64 0] 27)
  have B_1_c0 := B_1.c0
  have B_1_c1 := B_1.c1
  have F_1_c0 := F_1.c0
  have F_1_c1 := F_1.c1
  have M_1_c0 := M_1.c0
  have M_1_c1 := M_1.c1
  have hn9 := S_1.len
  have hn90 : n9 = 0 := by rw [← hn9]; rfl
  subst hn90
  clear hn9
  go_wp2_with fail
  refine (HBO.out _ R_1).mono ?_
  rintro e w2 ⟨rfl, y2⟩
  have R_2 := R_1.on y2
  have P_2 := P_1.on y2
  have B_2 := B_1.on y2
  have S_2 := S_1.on y2
  have F_2 := F_1.on y2
  have M_2 := M_1.on y2
  clear R_1 P_1 B_1 B_1_c0 B_1_c1 S_1 F_1 F_1_c0 F_1_c1 M_1 M_1_c0 M_1_c1
  have z2 := Z1.trans (y2.mono Z1.size)
  have Z2 := z2
  have B_2_c0 := B_2.c0
  have B_2_c1 := B_2.c1
  have F_2_c0 := F_2.c0
  have F_2_c1 := F_2.c1
  have M_2_c0 := M_2.c0
  have M_2_c1 := M_2.c1
  go_wp2_with fail
  go_loop [8] (fun i => ∃ j : Nat, j ≤ ps.length ∧ i = .int .i64 (j : Nat)) (fun i => ps.length - (intOf i).toNat)
  case atStart => exact ⟨0, Nat.zero_le _, rfl⟩
  case round =>
    obtain ⟨j, hj, rfl⟩ := hrel
    by_cases hlt : j < ps.length
    · obtain ⟨b, off, rfl, hb, hc⟩ := P_2.2.2.2 (by omega)
      have hcell := hc j _ (icells_get hlt)
      obtain ⟨p, hp⟩ : ∃ p, p = ps[j] := ⟨_, rfl⟩
      rw [← hp] at hcell
      have i1 : (0 : Int) ≤ (j : Int) := by omega
      have i2 : (j : Int) < (ps.length : Int) := by omega
      have hok := HA.out _ (List.getElem_mem hlt)
      rw [← hp] at hok
      have HP1 := Lib.hid hok.1
      have HP2 := Lib.hid hok.2
      clear hc hok hp
      go_wp2_with fail
      refine (in_yes _ _ _ _ HP1.out HP2.out).mono ?_
      rintro e w9 ⟨rfl, rfl⟩
      go_wp2_with fail
      go_round
      case rel => exact ⟨j + 1, by omega, by go_num⟩
      case measure => simp [intOf] <;> omega
    · obtain rfl : j = ps.length := by omega
      go_wp2_with fail
      refine (codes_true _).mono ?_
      rintro e w3 ⟨rfl, y3⟩
      have R_3 := R_2.on y3
      have P_3 := P_2.on y3
      have B_3 := B_2.on y3
      have S_3 := S_2.on y3
      have F_3 := F_2.on y3
      have M_3 := M_2.on y3
      clear R_2 P_2 B_2 B_2_c0 B_2_c1 S_2 F_2 F_2_c0 F_2_c1 M_2 M_2_c0 M_2_c1
      have z3 := Z2.trans (y3.mono Z2.size)
      have Z3 := z3
      have B_3_c0 := B_3.c0
      have B_3_c1 := B_3.c1
      have F_3_c0 := F_3.c0
      have F_3_c1 := F_3.c1
      have M_3_c0 := M_3.c0
      have M_3_c1 := M_3.c1
      go_wp2_with fail
      refine (HBI.out _ R_3).mono ?_
      rintro e w4 ⟨A6, c6, rfl, o6, y4⟩
      have R_4 := R_3.on y4
      have P_4 := P_3.on y4
      have B_4 := B_3.on y4
      have S_4 := S_3.on y4
      have F_4 := F_3.on y4
      have M_4 := M_3.on y4
      have T_4 := o6
      clear R_3 P_3 B_3 B_3_c0 B_3_c1 S_3 F_3 F_3_c0 F_3_c1 M_3 M_3_c0 M_3_c1
      have z4 := Z3.trans (y4.mono Z3.size)
      have Z4 := z4
      have B_4_c0 := B_4.c0
      have B_4_c1 := B_4.c1
      have F_4_c0 := F_4.c0
      have F_4_c1 := F_4.c1
      have M_4_c0 := M_4.c0
      have M_4_c1 := M_4.c1
      go_wp2_with fail
      refine (HDD.out _ _ _ _ (Rd.own T_4) P_4).mono ?_
      rintro e w5 ⟨A7, n7, c7, rfl, hn7, o7, y5⟩
      have R_5 := R_4.on y5
      have P_5 := P_4.on y5
      have B_5 := B_4.on y5
      have S_5 := S_4.on y5
      have F_5 := F_4.on y5
      have M_5 := M_4.on y5
      have U_5 := o7
      clear R_4 P_4 B_4 B_4_c0 B_4_c1 S_4 F_4 F_4_c0 F_4_c1 M_4 M_4_c0 M_4_c1 T_4
      have z5 := Z4.trans (y5.mono Z4.size)
      have Z5 := z5
      have B_5_c0 := B_5.c0
      have B_5_c1 := B_5.c1
      have F_5_c0 := F_5.c0
      have F_5_c1 := F_5.c1
      have M_5_c0 := M_5.c0
      have M_5_c1 := M_5.c1
      go_wp2_with fail
      go_region_held3 (fun w' => w'.cell? ⟨w1.heap.size, 0, none⟩ = some (.int .i64 16) ∧ w'.cell? ⟨w1.heap.size, 1, none⟩ = some (.int .i64 (-1))) (go_keep) ((go_at_call 19; refine (refat_any _ _ _).mono ?_; rintro e w6 ⟨rfl, y6⟩; have Y6 : Below w5.heap.size w5.drew w6 := y6; have F_6_c0 := ((Two.on (w := w5.drew) F_5 Y6)).c0; have F_6_c1 := ((Two.on (w := w5.drew) F_5 Y6)).c1))
      have R_6 := (Rd.on (w := w5.drew) R_5 Y6)
      have P_6 := (Rd.on (w := w5.drew) P_5 Y6)
      have B_6 := (Two.on (w := w5.drew) B_5 Y6)
      have S_6 := (Rd.on (w := w5.drew) S_5 Y6)
      have F_6 := (Two.on (w := w5.drew) F_5 Y6)
      have M_6 := (Two.on (w := w5.drew) M_5 Y6)
      have U_6 := (own_on (w := w5.drew) U_5 Y6)
      have Z6 := (belowD Z5).trans (Y6.mono (belowD Z5).size)
      clear F_6_c0 F_6_c1
      clear R_5 P_5 B_5 B_5_c0 B_5_c1 S_5 F_5 F_5_c0 F_5_c1 M_5 M_5_c0 M_5_c1 U_5
      have B_6_c0 := B_6.c0
      have B_6_c1 := B_6.c1
      have F_6_c0 := F_6.c0
      have F_6_c1 := F_6.c1
      have M_6_c0 := M_6.c0
      have M_6_c1 := M_6.c1
      go_wp2
      go_ret
      exact ⟨rfl, Z6⟩
set_option maxRecDepth 100000 in
set_option maxHeartbeats 1600000 in
theorem ad_ok {A : Option Addr} {n c : Nat} {A2 : Option Addr} {n2 c2 : Nat} {ps : List Int} {l : List Nat} (h01 : Is01 l) (hl : l.length ≤ 131072) (hlen : ps.length ≤ 8192) (hall : AllP ps) (hs : 2 ≤ l.length) (hc : (drun l ps (dinit l)).at_ = l.length + 14) (w : World) (h : Rd w A n c (bcells (pack l))) (h2 : Rd w A2 n2 c2 (icells ps)) :
    Calls Try.prog 4 #[.agg #[.slice A n c, .int .i64 l.length], .slice A2 n2 c2] w fun e w' => e = .returned (.bool true) ∧ Below w.heap.size w w' := by
  have hn2 := h2.len
  rw [icells_length] at hn2
  have hcap := Reads.cap h2
  have hcm := Reads.capMax h2
  unfold maxLen at hcm
  obtain rfl := hn2
  have hcd01 := h01
  have HBO := Lib.hid (fun (W : World) (hW : Rd W A n c (bcells (pack l))) => bitsok_any hW (pack_lt h01) (by omega) (by omega) true ⟨fun _ => Ok.of_list h01 hl, fun _ => rfl⟩)
  have kl : decide ((8192 : Int) < (ps.length : Int)) = false := by simp; omega
  have HA := Lib.hid hall
  obtain ⟨D, hD⟩ : ∃ D, D = (drun l ps (dinit l)).at_ := ⟨_, rfl⟩
  have hD16 : 16 ≤ D := by rw [hD]; exact drun_at_le l ps (dinit l)
  have hDb : D ≤ 16 + 14 * ps.length := by rw [hD]; exact drun_at_bound h01 ps hall _ (dinit_ok h01)
  obtain ⟨M0, hM0⟩ : ∃ M0, M0 + 16 = D := ⟨D - 16, by omega⟩
  obtain ⟨O, hO⟩ : ∃ O, O = dbits l ps (dinit l) := ⟨_, rfl⟩
  have HBI := Lib.hid (fun (W : World) (hW : Rd W A n c (bcells (pack l))) => bits_any hW h01 hl (l.length : Nat) rfl)
  have HDD := Lib.hid (fun (A7 : Option Addr) (n7 c7 : Nat) (W : World) (hW : Rd W A7 n7 c7 (ncells l)) (hW2 : Rd W A2 ps.length c2 (icells ps)) => decoded_any hW hW2 h01 (by omega) hall hlen O M0 hO (by rw [hM0, hD]))
  rw [← hD] at hc
  have HDE := Lib.hid (fun (W : World) (hW : Rd W A n c (bcells (pack l))) (hW2 : Rd W A2 ps.length c2 (icells ps)) => ardec_main hW hW2 h01 hl hlen hall hs 0 (0) (by decide) O (by rw [← hD]; exact by rw [if_neg (by omega), if_neg (by omega)]) hO)
  have kt : decide ((l.length : Int) < (M0 : Int) + 2) = false := by simp; omega
  have kc : decide ((M0 : Int) + 2 < (l.length : Int)) = false := by simp; omega
  clear hs hc
  have hMb : M0 ≤ 114688 := by omega
  have hO2 := hO
  clear hO2 hO hD hM0 hD16 hDb
  have H01 := Lib.hid h01
  clear h01 hcd01
  have R_0 := (h).alloc (.cells #[.slice A n c, .int .i64 l.length] 25)
  have P_0 := (h2).alloc (.cells #[.slice A n c, .int .i64 l.length] 25)
  have B_0 := (Two.new w 25 (.slice A n c) (.int .i64 l.length))
  have Z0 := (Below.refl w.heap.size w).alloc (by simp) (.cells #[.slice A n c, .int .i64 l.length] 25)
  have B_0_c0 := B_0.c0
  have B_0_c1 := B_0.c1
  go_enter Try.func4, Try.ntmps4
  go_wp2_with fail
  refine (HDE.out _ R_0 P_0).mono ?_
  rintro e w1 ⟨A9, n9, c9, rfl, R9, y1⟩
  have R_1 := ((R_0.on y1).alloc (.cells #[.int .i64 0, .int .i64 0] 27)).alloc (.cells #[.int .i64 0, .int .i64 0] 27)
  have P_1 := ((P_0.on y1).alloc (.cells #[.int .i64 0, .int .i64 0] 27)).alloc (.cells #[.int .i64 0, .int .i64 0] 27)
  have B_1 := ((B_0.on y1).alloc (.cells #[.int .i64 0, .int .i64 0] 27)).alloc (.cells #[.int .i64 0, .int .i64 0] 27)
  have S_1 := (((Rd.toI R9)).alloc (.cells #[.int .i64 0, .int .i64 0] 27)).alloc (.cells #[.int .i64 0, .int .i64 0] 27)
  have F_1 := ((Two.new w1 27 (.int .i64 0) (.int .i64 0))).alloc (.cells #[.int .i64 0, .int .i64 0] 27)
  have M_1 := (Two.new1 w1 (.cells #[.int .i64 0, .int .i64 0] 27) 27 (.int .i64 0) (.int .i64 0))
  clear R_0 P_0 B_0 B_0_c0 B_0_c1
  have z1 := Z0.trans (y1.mono Z0.size)
  have Z1 := ((z1).alloc (by have := z1.size; omega) (.cells #[.int .i64 0, .int .i64 0] 27)).alloc (by have := z1.size; simp; omega) (.cells #[.int .i64 0, .int .i64 0] 27)
  have B_1_c0 := B_1.c0
  have B_1_c1 := B_1.c1
  have F_1_c0 := F_1.c0
  have F_1_c1 := F_1.c1
  have M_1_c0 := M_1.c0
  have M_1_c1 := M_1.c1
  go_wp2_with fail
  refine (HBO.out _ R_1).mono ?_
  rintro e w2 ⟨rfl, y2⟩
  have R_2 := R_1.on y2
  have P_2 := P_1.on y2
  have B_2 := B_1.on y2
  have S_2 := S_1.on y2
  have F_2 := F_1.on y2
  have M_2 := M_1.on y2
  clear R_1 P_1 B_1 B_1_c0 B_1_c1 S_1 F_1 F_1_c0 F_1_c1 M_1 M_1_c0 M_1_c1
  have z2 := Z1.trans (y2.mono Z1.size)
  have Z2 := z2
  have B_2_c0 := B_2.c0
  have B_2_c1 := B_2.c1
  have F_2_c0 := F_2.c0
  have F_2_c1 := F_2.c1
  have M_2_c0 := M_2.c0
  have M_2_c1 := M_2.c1
  go_wp2_with fail
  go_loop [8] (fun i => ∃ j : Nat, j ≤ ps.length ∧ i = .int .i64 (j : Nat)) (fun i => ps.length - (intOf i).toNat)
  case atStart => exact ⟨0, Nat.zero_le _, rfl⟩
  case round =>
    obtain ⟨j, hj, rfl⟩ := hrel
    by_cases hlt : j < ps.length
    · obtain ⟨b, off, rfl, hb, hc⟩ := P_2.2.2.2 (by omega)
      have hcell := hc j _ (icells_get hlt)
      obtain ⟨p, hp⟩ : ∃ p, p = ps[j] := ⟨_, rfl⟩
      rw [← hp] at hcell
      have i1 : (0 : Int) ≤ (j : Int) := by omega
      have i2 : (j : Int) < (ps.length : Int) := by omega
      have hok := HA.out _ (List.getElem_mem hlt)
      rw [← hp] at hok
      have HP1 := Lib.hid hok.1
      have HP2 := Lib.hid hok.2
      clear hc hok hp
      go_wp2_with fail
      refine (in_yes _ _ _ _ HP1.out HP2.out).mono ?_
      rintro e w9 ⟨rfl, rfl⟩
      go_wp2_with fail
      go_round
      case rel => exact ⟨j + 1, by omega, by go_num⟩
      case measure => simp [intOf] <;> omega
    · obtain rfl : j = ps.length := by omega
      go_wp2_with fail
      refine (codes_true _).mono ?_
      rintro e w3 ⟨rfl, y3⟩
      have R_3 := R_2.on y3
      have P_3 := P_2.on y3
      have B_3 := B_2.on y3
      have S_3 := S_2.on y3
      have F_3 := F_2.on y3
      have M_3 := M_2.on y3
      clear R_2 P_2 B_2 B_2_c0 B_2_c1 S_2 F_2 F_2_c0 F_2_c1 M_2 M_2_c0 M_2_c1
      have z3 := Z2.trans (y3.mono Z2.size)
      have Z3 := z3
      have B_3_c0 := B_3.c0
      have B_3_c1 := B_3.c1
      have F_3_c0 := F_3.c0
      have F_3_c1 := F_3.c1
      have M_3_c0 := M_3.c0
      have M_3_c1 := M_3.c1
      go_wp2_with fail
      refine (HBI.out _ R_3).mono ?_
      rintro e w4 ⟨A6, c6, rfl, o6, y4⟩
      have R_4 := R_3.on y4
      have P_4 := P_3.on y4
      have B_4 := B_3.on y4
      have S_4 := S_3.on y4
      have F_4 := F_3.on y4
      have M_4 := M_3.on y4
      have T_4 := o6
      clear R_3 P_3 B_3 B_3_c0 B_3_c1 S_3 F_3 F_3_c0 F_3_c1 M_3 M_3_c0 M_3_c1
      have z4 := Z3.trans (y4.mono Z3.size)
      have Z4 := z4
      have B_4_c0 := B_4.c0
      have B_4_c1 := B_4.c1
      have F_4_c0 := F_4.c0
      have F_4_c1 := F_4.c1
      have M_4_c0 := M_4.c0
      have M_4_c1 := M_4.c1
      go_wp2_with fail
      refine (HDD.out _ _ _ _ (Rd.own T_4) P_4).mono ?_
      rintro e w5 ⟨A7, n7, c7, rfl, hn7, o7, y5⟩
      have R_5 := R_4.on y5
      have P_5 := P_4.on y5
      have B_5 := B_4.on y5
      have S_5 := S_4.on y5
      have F_5 := F_4.on y5
      have M_5 := M_4.on y5
      have U_5 := o7
      clear R_4 P_4 B_4 B_4_c0 B_4_c1 S_4 F_4 F_4_c0 F_4_c1 M_4 M_4_c0 M_4_c1 T_4
      have z5 := Z4.trans (y5.mono Z4.size)
      have Z5 := z5
      have B_5_c0 := B_5.c0
      have B_5_c1 := B_5.c1
      have F_5_c0 := F_5.c0
      have F_5_c1 := F_5.c1
      have M_5_c0 := M_5.c0
      have M_5_c1 := M_5.c1
      have hOO := U_5
      go_wp2_with fail
      refine (ints_any S_5 (Rd.toI (Rd.own hOO)) true (by simp)).mono ?_
      rintro e w6 ⟨rfl, y6⟩
      have R_6 := R_5.on y6
      have P_6 := P_5.on y6
      have B_6 := B_5.on y6
      have S_6 := S_5.on y6
      have F_6 := F_5.on y6
      have M_6 := M_5.on y6
      have U_6 := own_on U_5 y6
      clear R_5 P_5 B_5 B_5_c0 B_5_c1 S_5 F_5 F_5_c0 F_5_c1 M_5 M_5_c0 M_5_c1 U_5
      have z6 := Z5.trans (y6.mono Z5.size)
      have Z6 := z6
      have B_6_c0 := B_6.c0
      have B_6_c1 := B_6.c1
      have F_6_c0 := F_6.c0
      have F_6_c1 := F_6.c1
      have M_6_c0 := M_6.c0
      have M_6_c1 := M_6.c1
      go_wp2
      go_ret
      exact ⟨rfl, Z6⟩
theorem stop_p (ps : List Int) : AllP ps ∨ ∃ q : Nat, ∃ h : q < ps.length, (∀ j (hj : j < ps.length), j < q → 1 ≤ ps[j] ∧ ps[j] ≤ 4095) ∧ ¬ (1 ≤ ps[q] ∧ ps[q] ≤ 4095) := by
  have key : ∀ k, k ≤ ps.length → (∀ j (hj : j < ps.length), j < k → 1 ≤ ps[j] ∧ ps[j] ≤ 4095) ∨ ∃ q : Nat, ∃ h : q < ps.length, (∀ j (hj : j < ps.length), j < q → 1 ≤ ps[j] ∧ ps[j] ≤ 4095) ∧ ¬ (1 ≤ ps[q] ∧ ps[q] ≤ 4095) := by
    intro k
    induction k with
    | zero => intro _; left; intro j _ hj; omega
    | succ k ih =>
      intro hk
      rcases ih (by omega) with h1 | h1
      · by_cases hc : 1 ≤ ps[k]'(by omega) ∧ ps[k]'(by omega) ≤ 4095
        · left
          intro j hj hjk
          rcases (by omega : j < k ∨ j = k) with h2 | rfl
          · exact h1 j hj h2
          · exact hc
        · exact .inr ⟨k, by omega, h1, hc⟩
      · exact .inr h1
  rcases key ps.length (Nat.le_refl _) with h | h
  · left
    intro p hp
    obtain ⟨j, hj, rfl⟩ := List.getElem_of_mem hp
    exact h j hj hj
  · exact .inr h
theorem ad_all {A : Option Addr} {n c : Nat} {A2 : Option Addr} {n2 c2 : Nat} {ps : List Int} {d : List Nat} {cnt : Int} (hd : ∀ k, d.getD k 0 < 256) (hlo : -9223372036854775808 ≤ cnt) (hhi : cnt ≤ 9223372036854775807) (w : World) (h : Rd w A n c (bcells d)) (h2 : Rd w A2 n2 c2 (icells ps)) : Calls Try.prog 4 #[.agg #[.slice A n c, .int .i64 cnt], .slice A2 n2 c2] w fun e w' => e = .returned (.bool true) ∧ Below w.heap.size w w' := by
  by_cases hok : Ok d cnt
  · obtain ⟨l, q1, q2, rfl, rfl⟩ := hok.list hd
    by_cases hlong : 8192 < ps.length
    · exact ad_long q1 q2 hlong (by omega) w h h2
    · rcases stop_p ps with hall | ⟨q, hq, h3, h4⟩
      · by_cases hs : l.length < 2
        · exact ad_short q1 q2 (by omega) hall hs w h h2
        · by_cases hc : l.length + 14 < (drun l ps (dinit l)).at_
          · exact ad_trunc q1 q2 (by omega) hall (by omega) hc w h h2
          · by_cases hc2 : (drun l ps (dinit l)).at_ < l.length + 14
            · exact ad_corr q1 q2 (by omega) hall (by omega) hc2 w h h2
            · exact ad_ok q1 q2 (by omega) hall (by omega) (by omega) w h h2
      · exact ad_bad q1 q2 (by omega) q hq h3 h4 w h h2
  · rcases Nat.eq_zero_or_pos ps.length with h0 | h0
    · exact ad_form_z hd hlo hhi hok h0 w h h2
    · exact ad_form_p hd hlo hhi hok h0 w h h2
end PB
end Go.Proofs.Ytnnpkajmheglgaa
