/-
  arith.Open, arith.Get.
-/
import Derived.Test.YtnnpkajmheglgaaArDec
namespace Go.Proofs.Ytnnpkajmheglgaa
open Go.RowKit
attribute [local go_sem ↓] Go.wp_at_zero Go.wp_at_succ
set_option linter.unusedVariables false
set_option linter.unusedSimpArgs false
namespace PB
set_option maxRecDepth 100000 in
set_option maxHeartbeats 1600000 in
theorem open_form {A : Option Addr} {n c : Nat} {d : List Nat} {cnt : Int} {w : World} (h : Rd w A n c (bcells d)) (hno : ¬ Ok d cnt) :
    Calls Try.prog 31 #[.agg #[.slice A n c, .int .i64 cnt]] w fun e w' => e = .returned (.tuple #[.agg #[.int .i64 0, .int .i64 0, .int .i64 0, .int .i64 0], .agg #[.int .i64 6, .int .i64 (-1)]]) ∧ Below w.heap.size w w' := by
  have HNO := Lib.hid (fun (W : World) (hW : Rd W A n c (bcells d)) => valid_no A n c d cnt _ W hW (Nat.le_refl _) hno)
  clear hno
  have R_0 := (((h).alloc (.cells #[.slice A n c, .int .i64 cnt] 25)).alloc (.cells #[.int .i64 0, .int .i64 0, .int .i64 0, .int .i64 0] 62)).alloc (.cells #[.int .i64 0, .int .i64 0] 27)
  have B_0 := (((Two.new w 25 (.slice A n c) (.int .i64 cnt))).alloc (.cells #[.int .i64 0, .int .i64 0, .int .i64 0, .int .i64 0] 62)).alloc (.cells #[.int .i64 0, .int .i64 0] 27)
  have X_0 := ((Four.new1 w (.cells #[.slice A n c, .int .i64 cnt] 25) 62 (.int .i64 0) (.int .i64 0) (.int .i64 0) (.int .i64 0))).alloc (.cells #[.int .i64 0, .int .i64 0] 27)
  have F_0 := (Two.new2 w (.cells #[.slice A n c, .int .i64 cnt] 25) (.cells #[.int .i64 0, .int .i64 0, .int .i64 0, .int .i64 0] 62) 27 (.int .i64 0) (.int .i64 0))
  have Z0 := (((Below.refl w.heap.size w).alloc (by simp) (.cells #[.slice A n c, .int .i64 cnt] 25)).alloc (by simp) (.cells #[.int .i64 0, .int .i64 0, .int .i64 0, .int .i64 0] 62)).alloc (by simp; omega) (.cells #[.int .i64 0, .int .i64 0] 27)
  have B_0_c0 := B_0.c0
  have B_0_c1 := B_0.c1
  have X_0_c0 := X_0.c0
  have X_0_c1 := X_0.c1
  have X_0_c2 := X_0.c2
  have X_0_c3 := X_0.c3
  have X_0_f0 := X_0.f0
  have X_0_f1 := X_0.f1
  have X_0_f2 := X_0.f2
  have X_0_f3 := X_0.f3
  have F_0_c0 := F_0.c0
  have F_0_c1 := F_0.c1
  have F_0_f0 := F_0.f0
  have F_0_f1 := F_0.f1
  go_enter Try.func31, Try.ntmps31
  go_wp2_with fail
  refine (HNO.out _ R_0).mono ?_
  rintro e w1 ⟨rfl, y1⟩
  have R_1 := R_0.on y1
  have B_1 := B_0.on y1
  have X_1 := X_0.on y1
  have F_1 := F_0.on y1
  clear R_0 B_0 B_0_c0 B_0_c1 X_0 X_0_c0 X_0_c1 X_0_c2 X_0_c3 X_0_f0 X_0_f1 X_0_f2 X_0_f3 F_0 F_0_c0 F_0_c1 F_0_f0 F_0_f1
  have z1 := Z0.trans (y1.mono Z0.size)
  have Z1 := z1
  have B_1_c0 := B_1.c0
  have B_1_c1 := B_1.c1
  have X_1_c0 := X_1.c0
  have X_1_c1 := X_1.c1
  have X_1_c2 := X_1.c2
  have X_1_c3 := X_1.c3
  have X_1_f0 := X_1.f0
  have X_1_f1 := X_1.f1
  have X_1_f2 := X_1.f2
  have X_1_f3 := X_1.f3
  have F_1_c0 := F_1.c0
  have F_1_c1 := F_1.c1
  have F_1_f0 := F_1.f0
  have F_1_f1 := F_1.f1
  go_wp2_with fail
  refine (arfault_any _ _ _).mono ?_
  rintro e w2 ⟨rfl, y2⟩
  have R_2 := R_1.on y2
  have B_2 := B_1.on y2
  have X_2 := X_1.on y2
  have F_2 := F_1.on y2
  clear R_1 B_1 B_1_c0 B_1_c1 X_1 X_1_c0 X_1_c1 X_1_c2 X_1_c3 X_1_f0 X_1_f1 X_1_f2 X_1_f3 F_1 F_1_c0 F_1_c1 F_1_f0 F_1_f1
  have z2 := Z1.trans (y2.mono Z1.size)
  have Z2 := z2
  have B_2_c0 := B_2.c0
  have B_2_c1 := B_2.c1
  have X_2_c0 := X_2.c0
  have X_2_c1 := X_2.c1
  have X_2_c2 := X_2.c2
  have X_2_c3 := X_2.c3
  have X_2_f0 := X_2.f0
  have X_2_f1 := X_2.f1
  have X_2_f2 := X_2.f2
  have X_2_f3 := X_2.f3
  have F_2_c0 := F_2.c0
  have F_2_c1 := F_2.c1
  have F_2_f0 := F_2.f0
  have F_2_f1 := F_2.f1
  go_wp2
  have rX := (((((((X_2.set0 (.int .i64 0)).set1 (.int .i64 0)).set2 (.int .i64 0)).set3 (.int .i64 0)).far (p := ⟨w.heap.size + 2, 0, none⟩) (by simp) (.int .i64 6)).far (p := ⟨w.heap.size + 2, 1, none⟩) (by simp) (.int .i64 (-1))))
  have rX_0 := rX.c0
  have rX_1 := rX.c1
  have rX_2 := rX.c2
  have rX_3 := rX.c3
  have rF := (((((((F_2.far (p := ⟨w.heap.size + 1, 0, none⟩) (by simp) (.int .i64 0)).far (p := ⟨w.heap.size + 1, 1, none⟩) (by simp) (.int .i64 0)).far (p := ⟨w.heap.size + 1, 2, none⟩) (by simp) (.int .i64 0)).far (p := ⟨w.heap.size + 1, 3, none⟩) (by simp) (.int .i64 0)).set0 (.int .i64 6)).set1 (.int .i64 (-1))))
  have rF_0 := rF.c0
  have rF_1 := rF.c1
  exact bodyPost_ret (v := .tuple #[.agg #[.int .i64 0, .int .i64 0, .int .i64 0, .int .i64 0], .agg #[.int .i64 6, .int .i64 (-1)]]) (by simp [results, Try.results31, go_sem, rX_0, rX_1, rX_2, rX_3, rF_0, rF_1]) rfl ⟨rfl, ((((((Z2.setCell (p := ⟨w.heap.size + 1, 0, none⟩) (by simp) (.int .i64 0)).setCell (p := ⟨w.heap.size + 1, 1, none⟩) (by simp) (.int .i64 0)).setCell (p := ⟨w.heap.size + 1, 2, none⟩) (by simp) (.int .i64 0)).setCell (p := ⟨w.heap.size + 1, 3, none⟩) (by simp) (.int .i64 0)).setCell (p := ⟨w.heap.size + 2, 0, none⟩) (by simp) (.int .i64 6)).setCell (p := ⟨w.heap.size + 2, 1, none⟩) (by simp) (.int .i64 (-1)))⟩
set_option maxRecDepth 100000 in
set_option maxHeartbeats 1600000 in
theorem open_short {A : Option Addr} {n c : Nat} {l : List Nat} {w : World} (h : Rd w A n c (bcells (pack l))) (h01 : Is01 l) (hl : l.length ≤ 131072) (h2 : l.length < 2) :
    Calls Try.prog 31 #[.agg #[.slice A n c, .int .i64 l.length]] w fun e w' => e = .returned (.tuple #[.agg #[.int .i64 0, .int .i64 0, .int .i64 0, .int .i64 0], .agg #[.int .i64 15, .int .i64 (-1)]]) ∧ Below w.heap.size w w' := by
  have HV := Lib.hid (fun (W : World) (hW : Rd W A n c (bcells (pack l))) => valid_list A n c l _ W hW (Nat.le_refl _) h01 hl)
  have k1 : decide ((l.length : Int) < 2) = true := by simp; omega
  have k2 : decide (l.length < 2) = true := by simp; omega
  clear h01 h2
  have R_0 := (((h).alloc (.cells #[.slice A n c, .int .i64 l.length] 25)).alloc (.cells #[.int .i64 0, .int .i64 0, .int .i64 0, .int .i64 0] 62)).alloc (.cells #[.int .i64 0, .int .i64 0] 27)
  have B_0 := (((Two.new w 25 (.slice A n c) (.int .i64 l.length))).alloc (.cells #[.int .i64 0, .int .i64 0, .int .i64 0, .int .i64 0] 62)).alloc (.cells #[.int .i64 0, .int .i64 0] 27)
  have X_0 := ((Four.new1 w (.cells #[.slice A n c, .int .i64 l.length] 25) 62 (.int .i64 0) (.int .i64 0) (.int .i64 0) (.int .i64 0))).alloc (.cells #[.int .i64 0, .int .i64 0] 27)
  have F_0 := (Two.new2 w (.cells #[.slice A n c, .int .i64 l.length] 25) (.cells #[.int .i64 0, .int .i64 0, .int .i64 0, .int .i64 0] 62) 27 (.int .i64 0) (.int .i64 0))
  have Z0 := (((Below.refl w.heap.size w).alloc (by simp) (.cells #[.slice A n c, .int .i64 l.length] 25)).alloc (by simp) (.cells #[.int .i64 0, .int .i64 0, .int .i64 0, .int .i64 0] 62)).alloc (by simp; omega) (.cells #[.int .i64 0, .int .i64 0] 27)
  have B_0_c0 := B_0.c0
  have B_0_c1 := B_0.c1
  have X_0_c0 := X_0.c0
  have X_0_c1 := X_0.c1
  have X_0_c2 := X_0.c2
  have X_0_c3 := X_0.c3
  have X_0_f0 := X_0.f0
  have X_0_f1 := X_0.f1
  have X_0_f2 := X_0.f2
  have X_0_f3 := X_0.f3
  have F_0_c0 := F_0.c0
  have F_0_c1 := F_0.c1
  have F_0_f0 := F_0.f0
  have F_0_f1 := F_0.f1
  go_enter Try.func31, Try.ntmps31
  go_wp2_with fail
  refine (HV.out _ R_0).mono ?_
  rintro e w1 ⟨rfl, y1⟩
  have R_1 := R_0.on y1
  have B_1 := B_0.on y1
  have X_1 := X_0.on y1
  have F_1 := F_0.on y1
  clear R_0 B_0 B_0_c0 B_0_c1 X_0 X_0_c0 X_0_c1 X_0_c2 X_0_c3 X_0_f0 X_0_f1 X_0_f2 X_0_f3 F_0 F_0_c0 F_0_c1 F_0_f0 F_0_f1
  have z1 := Z0.trans (y1.mono Z0.size)
  have Z1 := z1
  have B_1_c0 := B_1.c0
  have B_1_c1 := B_1.c1
  have X_1_c0 := X_1.c0
  have X_1_c1 := X_1.c1
  have X_1_c2 := X_1.c2
  have X_1_c3 := X_1.c3
  have X_1_f0 := X_1.f0
  have X_1_f1 := X_1.f1
  have X_1_f2 := X_1.f2
  have X_1_f3 := X_1.f3
  have F_1_c0 := F_1.c0
  have F_1_c1 := F_1.c1
  have F_1_f0 := F_1.f0
  have F_1_f1 := F_1.f1
  go_wp2_with fail
  refine (arfault_any _ _ _).mono ?_
  rintro e w2 ⟨rfl, y2⟩
  have R_2 := R_1.on y2
  have B_2 := B_1.on y2
  have X_2 := X_1.on y2
  have F_2 := F_1.on y2
  clear R_1 B_1 B_1_c0 B_1_c1 X_1 X_1_c0 X_1_c1 X_1_c2 X_1_c3 X_1_f0 X_1_f1 X_1_f2 X_1_f3 F_1 F_1_c0 F_1_c1 F_1_f0 F_1_f1
  have z2 := Z1.trans (y2.mono Z1.size)
  have Z2 := z2
  have B_2_c0 := B_2.c0
  have B_2_c1 := B_2.c1
  have X_2_c0 := X_2.c0
  have X_2_c1 := X_2.c1
  have X_2_c2 := X_2.c2
  have X_2_c3 := X_2.c3
  have X_2_f0 := X_2.f0
  have X_2_f1 := X_2.f1
  have X_2_f2 := X_2.f2
  have X_2_f3 := X_2.f3
  have F_2_c0 := F_2.c0
  have F_2_c1 := F_2.c1
  have F_2_f0 := F_2.f0
  have F_2_f1 := F_2.f1
  go_wp2
  have rX := (((((((X_2.set0 (.int .i64 0)).set1 (.int .i64 0)).set2 (.int .i64 0)).set3 (.int .i64 0)).far (p := ⟨w.heap.size + 2, 0, none⟩) (by simp) (.int .i64 15)).far (p := ⟨w.heap.size + 2, 1, none⟩) (by simp) (.int .i64 (-1))))
  have rX_0 := rX.c0
  have rX_1 := rX.c1
  have rX_2 := rX.c2
  have rX_3 := rX.c3
  have rF := (((((((F_2.far (p := ⟨w.heap.size + 1, 0, none⟩) (by simp) (.int .i64 0)).far (p := ⟨w.heap.size + 1, 1, none⟩) (by simp) (.int .i64 0)).far (p := ⟨w.heap.size + 1, 2, none⟩) (by simp) (.int .i64 0)).far (p := ⟨w.heap.size + 1, 3, none⟩) (by simp) (.int .i64 0)).set0 (.int .i64 15)).set1 (.int .i64 (-1))))
  have rF_0 := rF.c0
  have rF_1 := rF.c1
  exact bodyPost_ret (v := .tuple #[.agg #[.int .i64 0, .int .i64 0, .int .i64 0, .int .i64 0], .agg #[.int .i64 15, .int .i64 (-1)]]) (by simp [results, Try.results31, go_sem, rX_0, rX_1, rX_2, rX_3, rF_0, rF_1]) rfl ⟨rfl, ((((((Z2.setCell (p := ⟨w.heap.size + 1, 0, none⟩) (by simp) (.int .i64 0)).setCell (p := ⟨w.heap.size + 1, 1, none⟩) (by simp) (.int .i64 0)).setCell (p := ⟨w.heap.size + 1, 2, none⟩) (by simp) (.int .i64 0)).setCell (p := ⟨w.heap.size + 1, 3, none⟩) (by simp) (.int .i64 0)).setCell (p := ⟨w.heap.size + 2, 0, none⟩) (by simp) (.int .i64 15)).setCell (p := ⟨w.heap.size + 2, 1, none⟩) (by simp) (.int .i64 (-1)))⟩
set_option maxRecDepth 100000 in
set_option maxHeartbeats 1600000 in
theorem ar_open_ok {A : Option Addr} {n c : Nat} {l : List Nat} {w : World} (h : Rd w A n c (bcells (pack l))) (h01 : Is01 l) (hl : l.length ≤ 131072) (h2 : 2 ≤ l.length) (V : Nat) (hV : V = num ((List.range 16).map fun i => l.getD i 0)) :
    Calls Try.prog 31 #[.agg #[.slice A n c, .int .i64 l.length]] w fun e w' => e = .returned (.tuple #[.agg #[.int .i64 0, .int .i64 65535, .int .i64 (V : Nat), .int .i64 16], .agg #[.int .i64 0, .int .i64 0]]) ∧ Below w.heap.size w w' := by
  have HV := Lib.hid (fun (W : World) (hW : Rd W A n c (bcells (pack l))) => valid_list A n c l _ W hW (Nat.le_refl _) h01 hl)
  have k1 : decide ((l.length : Int) < 2) = false := by simp; omega
  have k2 : decide (l.length < 2) = false := by simp; omega
  have HOP := Lib.hid (fun (W : World) (hW : Rd W A n c (bcells (pack l))) => aropen_any hW h01 hl V hV)
  clear h01 h2 hV
  have R_0 := (((h).alloc (.cells #[.slice A n c, .int .i64 l.length] 25)).alloc (.cells #[.int .i64 0, .int .i64 0, .int .i64 0, .int .i64 0] 62)).alloc (.cells #[.int .i64 0, .int .i64 0] 27)
  have B_0 := (((Two.new w 25 (.slice A n c) (.int .i64 l.length))).alloc (.cells #[.int .i64 0, .int .i64 0, .int .i64 0, .int .i64 0] 62)).alloc (.cells #[.int .i64 0, .int .i64 0] 27)
  have X_0 := ((Four.new1 w (.cells #[.slice A n c, .int .i64 l.length] 25) 62 (.int .i64 0) (.int .i64 0) (.int .i64 0) (.int .i64 0))).alloc (.cells #[.int .i64 0, .int .i64 0] 27)
  have F_0 := (Two.new2 w (.cells #[.slice A n c, .int .i64 l.length] 25) (.cells #[.int .i64 0, .int .i64 0, .int .i64 0, .int .i64 0] 62) 27 (.int .i64 0) (.int .i64 0))
  have Z0 := (((Below.refl w.heap.size w).alloc (by simp) (.cells #[.slice A n c, .int .i64 l.length] 25)).alloc (by simp) (.cells #[.int .i64 0, .int .i64 0, .int .i64 0, .int .i64 0] 62)).alloc (by simp; omega) (.cells #[.int .i64 0, .int .i64 0] 27)
  have B_0_c0 := B_0.c0
  have B_0_c1 := B_0.c1
  have X_0_c0 := X_0.c0
  have X_0_c1 := X_0.c1
  have X_0_c2 := X_0.c2
  have X_0_c3 := X_0.c3
  have X_0_f0 := X_0.f0
  have X_0_f1 := X_0.f1
  have X_0_f2 := X_0.f2
  have X_0_f3 := X_0.f3
  have F_0_c0 := F_0.c0
  have F_0_c1 := F_0.c1
  have F_0_f0 := F_0.f0
  have F_0_f1 := F_0.f1
  go_enter Try.func31, Try.ntmps31
  go_wp2_with fail
  refine (HV.out _ R_0).mono ?_
  rintro e w1 ⟨rfl, y1⟩
  have R_1 := R_0.on y1
  have B_1 := B_0.on y1
  have X_1 := X_0.on y1
  have F_1 := F_0.on y1
  clear R_0 B_0 B_0_c0 B_0_c1 X_0 X_0_c0 X_0_c1 X_0_c2 X_0_c3 X_0_f0 X_0_f1 X_0_f2 X_0_f3 F_0 F_0_c0 F_0_c1 F_0_f0 F_0_f1
  have z1 := Z0.trans (y1.mono Z0.size)
  have Z1 := z1
  have B_1_c0 := B_1.c0
  have B_1_c1 := B_1.c1
  have X_1_c0 := X_1.c0
  have X_1_c1 := X_1.c1
  have X_1_c2 := X_1.c2
  have X_1_c3 := X_1.c3
  have X_1_f0 := X_1.f0
  have X_1_f1 := X_1.f1
  have X_1_f2 := X_1.f2
  have X_1_f3 := X_1.f3
  have F_1_c0 := F_1.c0
  have F_1_c1 := F_1.c1
  have F_1_f0 := F_1.f0
  have F_1_f1 := F_1.f1
  go_wp2_with fail
  refine (HOP.out _ R_1).mono ?_
  rintro e w2 ⟨rfl, y2⟩
  have R_2 := R_1.on y2
  have B_2 := B_1.on y2
  have X_2 := X_1.on y2
  have F_2 := F_1.on y2
  clear R_1 B_1 B_1_c0 B_1_c1 X_1 X_1_c0 X_1_c1 X_1_c2 X_1_c3 X_1_f0 X_1_f1 X_1_f2 X_1_f3 F_1 F_1_c0 F_1_c1 F_1_f0 F_1_f1
  have z2 := Z1.trans (y2.mono Z1.size)
  have Z2 := z2
  have B_2_c0 := B_2.c0
  have B_2_c1 := B_2.c1
  have X_2_c0 := X_2.c0
  have X_2_c1 := X_2.c1
  have X_2_c2 := X_2.c2
  have X_2_c3 := X_2.c3
  have X_2_f0 := X_2.f0
  have X_2_f1 := X_2.f1
  have X_2_f2 := X_2.f2
  have X_2_f3 := X_2.f3
  have F_2_c0 := F_2.c0
  have F_2_c1 := F_2.c1
  have F_2_f0 := F_2.f0
  have F_2_f1 := F_2.f1
  go_wp2
  have rX := (((((((X_2.set0 (.int .i64 0)).set1 (.int .i64 65535)).set2 (.int .i64 (V : Nat))).set3 (.int .i64 16)).far (p := ⟨w.heap.size + 2, 0, none⟩) (by simp) (.int .i64 0)).far (p := ⟨w.heap.size + 2, 1, none⟩) (by simp) (.int .i64 0)))
  have rX_0 := rX.c0
  have rX_1 := rX.c1
  have rX_2 := rX.c2
  have rX_3 := rX.c3
  have rF := (((((((F_2.far (p := ⟨w.heap.size + 1, 0, none⟩) (by simp) (.int .i64 0)).far (p := ⟨w.heap.size + 1, 1, none⟩) (by simp) (.int .i64 65535)).far (p := ⟨w.heap.size + 1, 2, none⟩) (by simp) (.int .i64 (V : Nat))).far (p := ⟨w.heap.size + 1, 3, none⟩) (by simp) (.int .i64 16)).set0 (.int .i64 0)).set1 (.int .i64 0)))
  have rF_0 := rF.c0
  have rF_1 := rF.c1
  exact bodyPost_ret (v := .tuple #[.agg #[.int .i64 0, .int .i64 65535, .int .i64 (V : Nat), .int .i64 16], .agg #[.int .i64 0, .int .i64 0]]) (by simp [results, Try.results31, go_sem, rX_0, rX_1, rX_2, rX_3, rF_0, rF_1]) rfl ⟨rfl, ((((((Z2.setCell (p := ⟨w.heap.size + 1, 0, none⟩) (by simp) (.int .i64 0)).setCell (p := ⟨w.heap.size + 1, 1, none⟩) (by simp) (.int .i64 65535)).setCell (p := ⟨w.heap.size + 1, 2, none⟩) (by simp) (.int .i64 (V : Nat))).setCell (p := ⟨w.heap.size + 1, 3, none⟩) (by simp) (.int .i64 16)).setCell (p := ⟨w.heap.size + 2, 0, none⟩) (by simp) (.int .i64 0)).setCell (p := ⟨w.heap.size + 2, 1, none⟩) (by simp) (.int .i64 0))⟩
set_option maxRecDepth 100000 in
set_option maxHeartbeats 1600000 in
theorem get_wide {A : Option Addr} {n c : Nat} {cnt lo hi V t p : Int} {w : World} (hw : ¬ Wid lo hi) :
    Calls Try.prog 32 #[.agg #[.int .i64 lo, .int .i64 hi, .int .i64 V, .int .i64 t], .agg #[.slice A n c, .int .i64 cnt], .int .i64 p] w fun e w' => e = .returned (.tuple #[.int .i64 0, .agg #[.int .i64 0, .int .i64 0, .int .i64 0, .int .i64 0], .agg #[.int .i64 6, .int .i64 (-1)]]) ∧ Below w.heap.size w w' := by
  have HW := Lib.hid (fun (W : World) => wide_any lo hi false (by simp [hw]) W)
  clear hw
  have D_0 := ((((Four.new w 62 (.int .i64 lo) (.int .i64 hi) (.int .i64 V) (.int .i64 t))).alloc (.cells #[.slice A n c, .int .i64 cnt] 25)).alloc (.cells #[.int .i64 0, .int .i64 0, .int .i64 0, .int .i64 0] 62)).alloc (.cells #[.int .i64 0, .int .i64 0] 27)
  have B_0 := (((Two.new1 w (.cells #[.int .i64 lo, .int .i64 hi, .int .i64 V, .int .i64 t] 62) 25 (.slice A n c) (.int .i64 cnt))).alloc (.cells #[.int .i64 0, .int .i64 0, .int .i64 0, .int .i64 0] 62)).alloc (.cells #[.int .i64 0, .int .i64 0] 27)
  have X_0 := ((Four.new2 w (.cells #[.int .i64 lo, .int .i64 hi, .int .i64 V, .int .i64 t] 62) (.cells #[.slice A n c, .int .i64 cnt] 25) 62 (.int .i64 0) (.int .i64 0) (.int .i64 0) (.int .i64 0))).alloc (.cells #[.int .i64 0, .int .i64 0] 27)
  have F_0 := (Two.new3 w (.cells #[.int .i64 lo, .int .i64 hi, .int .i64 V, .int .i64 t] 62) (.cells #[.slice A n c, .int .i64 cnt] 25) (.cells #[.int .i64 0, .int .i64 0, .int .i64 0, .int .i64 0] 62) 27 (.int .i64 0) (.int .i64 0))
  have Z0 := ((((Below.refl w.heap.size w).alloc (by simp) (.cells #[.int .i64 lo, .int .i64 hi, .int .i64 V, .int .i64 t] 62)).alloc (by simp) (.cells #[.slice A n c, .int .i64 cnt] 25)).alloc (by simp; omega) (.cells #[.int .i64 0, .int .i64 0, .int .i64 0, .int .i64 0] 62)).alloc (by simp; omega) (.cells #[.int .i64 0, .int .i64 0] 27)
  have D_0_c0 := D_0.c0
  have D_0_c1 := D_0.c1
  have D_0_c2 := D_0.c2
  have D_0_c3 := D_0.c3
  have X_0_c0 := X_0.c0
  have X_0_c1 := X_0.c1
  have X_0_c2 := X_0.c2
  have X_0_c3 := X_0.c3
  have X_0_f0 := X_0.f0
  have X_0_f1 := X_0.f1
  have X_0_f2 := X_0.f2
  have X_0_f3 := X_0.f3
  have F_0_c0 := F_0.c0
  have F_0_c1 := F_0.c1
  have F_0_f0 := F_0.f0
  have F_0_f1 := F_0.f1
  go_enter Try.func32, Try.ntmps32
  go_wp2_with fail
  refine (HW.out _).mono ?_
  rintro e w9_1 ⟨rfl, rfl⟩
  go_wp2_with fail
  refine (arfault_any _ _ _).mono ?_
  rintro e w1 ⟨rfl, y1⟩
  have D_1 := D_0.on y1
  have B_1 := B_0.on y1
  have X_1 := X_0.on y1
  have F_1 := F_0.on y1
  clear D_0 D_0_c0 D_0_c1 D_0_c2 D_0_c3 B_0 X_0 X_0_c0 X_0_c1 X_0_c2 X_0_c3 X_0_f0 X_0_f1 X_0_f2 X_0_f3 F_0 F_0_c0 F_0_c1 F_0_f0 F_0_f1
  have z1 := Z0.trans (y1.mono Z0.size)
  have Z1 := z1
  have D_1_c0 := D_1.c0
  have D_1_c1 := D_1.c1
  have D_1_c2 := D_1.c2
  have D_1_c3 := D_1.c3
  have X_1_c0 := X_1.c0
  have X_1_c1 := X_1.c1
  have X_1_c2 := X_1.c2
  have X_1_c3 := X_1.c3
  have X_1_f0 := X_1.f0
  have X_1_f1 := X_1.f1
  have X_1_f2 := X_1.f2
  have X_1_f3 := X_1.f3
  have F_1_c0 := F_1.c0
  have F_1_c1 := F_1.c1
  have F_1_f0 := F_1.f0
  have F_1_f1 := F_1.f1
  go_wp2
  have rX := (((((((X_1.set0 (.int .i64 0)).set1 (.int .i64 0)).set2 (.int .i64 0)).set3 (.int .i64 0)).far (p := ⟨w.heap.size + 3, 0, none⟩) (by simp) (.int .i64 6)).far (p := ⟨w.heap.size + 3, 1, none⟩) (by simp) (.int .i64 (-1))))
  have rX_0 := rX.c0
  have rX_1 := rX.c1
  have rX_2 := rX.c2
  have rX_3 := rX.c3
  have rF := (((((((F_1.far (p := ⟨w.heap.size + 2, 0, none⟩) (by simp) (.int .i64 0)).far (p := ⟨w.heap.size + 2, 1, none⟩) (by simp) (.int .i64 0)).far (p := ⟨w.heap.size + 2, 2, none⟩) (by simp) (.int .i64 0)).far (p := ⟨w.heap.size + 2, 3, none⟩) (by simp) (.int .i64 0)).set0 (.int .i64 6)).set1 (.int .i64 (-1))))
  have rF_0 := rF.c0
  have rF_1 := rF.c1
  exact bodyPost_ret (v := .tuple #[.int .i64 0, .agg #[.int .i64 0, .int .i64 0, .int .i64 0, .int .i64 0], .agg #[.int .i64 6, .int .i64 (-1)]]) (by simp [results, Try.results32, go_sem, rX_0, rX_1, rX_2, rX_3, rF_0, rF_1]) rfl ⟨rfl, ((((((Z1.setCell (p := ⟨w.heap.size + 2, 0, none⟩) (by simp) (.int .i64 0)).setCell (p := ⟨w.heap.size + 2, 1, none⟩) (by simp) (.int .i64 0)).setCell (p := ⟨w.heap.size + 2, 2, none⟩) (by simp) (.int .i64 0)).setCell (p := ⟨w.heap.size + 2, 3, none⟩) (by simp) (.int .i64 0)).setCell (p := ⟨w.heap.size + 3, 0, none⟩) (by simp) (.int .i64 6)).setCell (p := ⟨w.heap.size + 3, 1, none⟩) (by simp) (.int .i64 (-1)))⟩
set_option maxRecDepth 100000 in
set_option maxHeartbeats 1600000 in
theorem get_low {A : Option Addr} {n c : Nat} {cnt lo hi V t p : Int} {w : World} (hw : Wid lo hi) (h1 : V < lo) :
    Calls Try.prog 32 #[.agg #[.int .i64 lo, .int .i64 hi, .int .i64 V, .int .i64 t], .agg #[.slice A n c, .int .i64 cnt], .int .i64 p] w fun e w' => e = .returned (.tuple #[.int .i64 0, .agg #[.int .i64 0, .int .i64 0, .int .i64 0, .int .i64 0], .agg #[.int .i64 6, .int .i64 (-1)]]) ∧ Below w.heap.size w w' := by
  have HW := Lib.hid (fun (W : World) => wide_any lo hi true (by simp [hw]) W)
  have k1 : decide (V < lo) = true := by simpa using h1
  clear hw h1
  have D_0 := ((((Four.new w 62 (.int .i64 lo) (.int .i64 hi) (.int .i64 V) (.int .i64 t))).alloc (.cells #[.slice A n c, .int .i64 cnt] 25)).alloc (.cells #[.int .i64 0, .int .i64 0, .int .i64 0, .int .i64 0] 62)).alloc (.cells #[.int .i64 0, .int .i64 0] 27)
  have B_0 := (((Two.new1 w (.cells #[.int .i64 lo, .int .i64 hi, .int .i64 V, .int .i64 t] 62) 25 (.slice A n c) (.int .i64 cnt))).alloc (.cells #[.int .i64 0, .int .i64 0, .int .i64 0, .int .i64 0] 62)).alloc (.cells #[.int .i64 0, .int .i64 0] 27)
  have X_0 := ((Four.new2 w (.cells #[.int .i64 lo, .int .i64 hi, .int .i64 V, .int .i64 t] 62) (.cells #[.slice A n c, .int .i64 cnt] 25) 62 (.int .i64 0) (.int .i64 0) (.int .i64 0) (.int .i64 0))).alloc (.cells #[.int .i64 0, .int .i64 0] 27)
  have F_0 := (Two.new3 w (.cells #[.int .i64 lo, .int .i64 hi, .int .i64 V, .int .i64 t] 62) (.cells #[.slice A n c, .int .i64 cnt] 25) (.cells #[.int .i64 0, .int .i64 0, .int .i64 0, .int .i64 0] 62) 27 (.int .i64 0) (.int .i64 0))
  have Z0 := ((((Below.refl w.heap.size w).alloc (by simp) (.cells #[.int .i64 lo, .int .i64 hi, .int .i64 V, .int .i64 t] 62)).alloc (by simp) (.cells #[.slice A n c, .int .i64 cnt] 25)).alloc (by simp; omega) (.cells #[.int .i64 0, .int .i64 0, .int .i64 0, .int .i64 0] 62)).alloc (by simp; omega) (.cells #[.int .i64 0, .int .i64 0] 27)
  have D_0_c0 := D_0.c0
  have D_0_c1 := D_0.c1
  have D_0_c2 := D_0.c2
  have D_0_c3 := D_0.c3
  have X_0_c0 := X_0.c0
  have X_0_c1 := X_0.c1
  have X_0_c2 := X_0.c2
  have X_0_c3 := X_0.c3
  have X_0_f0 := X_0.f0
  have X_0_f1 := X_0.f1
  have X_0_f2 := X_0.f2
  have X_0_f3 := X_0.f3
  have F_0_c0 := F_0.c0
  have F_0_c1 := F_0.c1
  have F_0_f0 := F_0.f0
  have F_0_f1 := F_0.f1
  go_enter Try.func32, Try.ntmps32
  go_wp2_with fail
  refine (HW.out _).mono ?_
  rintro e w9_1 ⟨rfl, rfl⟩
  go_wp2_with fail
  refine (arfault_any _ _ _).mono ?_
  rintro e w1 ⟨rfl, y1⟩
  have D_1 := D_0.on y1
  have B_1 := B_0.on y1
  have X_1 := X_0.on y1
  have F_1 := F_0.on y1
  clear D_0 D_0_c0 D_0_c1 D_0_c2 D_0_c3 B_0 X_0 X_0_c0 X_0_c1 X_0_c2 X_0_c3 X_0_f0 X_0_f1 X_0_f2 X_0_f3 F_0 F_0_c0 F_0_c1 F_0_f0 F_0_f1
  have z1 := Z0.trans (y1.mono Z0.size)
  have Z1 := z1
  have D_1_c0 := D_1.c0
  have D_1_c1 := D_1.c1
  have D_1_c2 := D_1.c2
  have D_1_c3 := D_1.c3
  have X_1_c0 := X_1.c0
  have X_1_c1 := X_1.c1
  have X_1_c2 := X_1.c2
  have X_1_c3 := X_1.c3
  have X_1_f0 := X_1.f0
  have X_1_f1 := X_1.f1
  have X_1_f2 := X_1.f2
  have X_1_f3 := X_1.f3
  have F_1_c0 := F_1.c0
  have F_1_c1 := F_1.c1
  have F_1_f0 := F_1.f0
  have F_1_f1 := F_1.f1
  go_wp2
  have rX := (((((((X_1.set0 (.int .i64 0)).set1 (.int .i64 0)).set2 (.int .i64 0)).set3 (.int .i64 0)).far (p := ⟨w.heap.size + 3, 0, none⟩) (by simp) (.int .i64 6)).far (p := ⟨w.heap.size + 3, 1, none⟩) (by simp) (.int .i64 (-1))))
  have rX_0 := rX.c0
  have rX_1 := rX.c1
  have rX_2 := rX.c2
  have rX_3 := rX.c3
  have rF := (((((((F_1.far (p := ⟨w.heap.size + 2, 0, none⟩) (by simp) (.int .i64 0)).far (p := ⟨w.heap.size + 2, 1, none⟩) (by simp) (.int .i64 0)).far (p := ⟨w.heap.size + 2, 2, none⟩) (by simp) (.int .i64 0)).far (p := ⟨w.heap.size + 2, 3, none⟩) (by simp) (.int .i64 0)).set0 (.int .i64 6)).set1 (.int .i64 (-1))))
  have rF_0 := rF.c0
  have rF_1 := rF.c1
  exact bodyPost_ret (v := .tuple #[.int .i64 0, .agg #[.int .i64 0, .int .i64 0, .int .i64 0, .int .i64 0], .agg #[.int .i64 6, .int .i64 (-1)]]) (by simp [results, Try.results32, go_sem, rX_0, rX_1, rX_2, rX_3, rF_0, rF_1]) rfl ⟨rfl, ((((((Z1.setCell (p := ⟨w.heap.size + 2, 0, none⟩) (by simp) (.int .i64 0)).setCell (p := ⟨w.heap.size + 2, 1, none⟩) (by simp) (.int .i64 0)).setCell (p := ⟨w.heap.size + 2, 2, none⟩) (by simp) (.int .i64 0)).setCell (p := ⟨w.heap.size + 2, 3, none⟩) (by simp) (.int .i64 0)).setCell (p := ⟨w.heap.size + 3, 0, none⟩) (by simp) (.int .i64 6)).setCell (p := ⟨w.heap.size + 3, 1, none⟩) (by simp) (.int .i64 (-1)))⟩
set_option maxRecDepth 100000 in
set_option maxHeartbeats 1600000 in
theorem get_high {A : Option Addr} {n c : Nat} {cnt lo hi V t p : Int} {w : World} (hw : Wid lo hi) (h1 : ¬ V < lo) (h2 : hi < V) :
    Calls Try.prog 32 #[.agg #[.int .i64 lo, .int .i64 hi, .int .i64 V, .int .i64 t], .agg #[.slice A n c, .int .i64 cnt], .int .i64 p] w fun e w' => e = .returned (.tuple #[.int .i64 0, .agg #[.int .i64 0, .int .i64 0, .int .i64 0, .int .i64 0], .agg #[.int .i64 6, .int .i64 (-1)]]) ∧ Below w.heap.size w w' := by
  have HW := Lib.hid (fun (W : World) => wide_any lo hi true (by simp [hw]) W)
  have k1 : decide (V < lo) = false := by simpa using h1
  have k2 : decide (hi < V) = true := by simpa using h2
  clear hw h1 h2
  have D_0 := ((((Four.new w 62 (.int .i64 lo) (.int .i64 hi) (.int .i64 V) (.int .i64 t))).alloc (.cells #[.slice A n c, .int .i64 cnt] 25)).alloc (.cells #[.int .i64 0, .int .i64 0, .int .i64 0, .int .i64 0] 62)).alloc (.cells #[.int .i64 0, .int .i64 0] 27)
  have B_0 := (((Two.new1 w (.cells #[.int .i64 lo, .int .i64 hi, .int .i64 V, .int .i64 t] 62) 25 (.slice A n c) (.int .i64 cnt))).alloc (.cells #[.int .i64 0, .int .i64 0, .int .i64 0, .int .i64 0] 62)).alloc (.cells #[.int .i64 0, .int .i64 0] 27)
  have X_0 := ((Four.new2 w (.cells #[.int .i64 lo, .int .i64 hi, .int .i64 V, .int .i64 t] 62) (.cells #[.slice A n c, .int .i64 cnt] 25) 62 (.int .i64 0) (.int .i64 0) (.int .i64 0) (.int .i64 0))).alloc (.cells #[.int .i64 0, .int .i64 0] 27)
  have F_0 := (Two.new3 w (.cells #[.int .i64 lo, .int .i64 hi, .int .i64 V, .int .i64 t] 62) (.cells #[.slice A n c, .int .i64 cnt] 25) (.cells #[.int .i64 0, .int .i64 0, .int .i64 0, .int .i64 0] 62) 27 (.int .i64 0) (.int .i64 0))
  have Z0 := ((((Below.refl w.heap.size w).alloc (by simp) (.cells #[.int .i64 lo, .int .i64 hi, .int .i64 V, .int .i64 t] 62)).alloc (by simp) (.cells #[.slice A n c, .int .i64 cnt] 25)).alloc (by simp; omega) (.cells #[.int .i64 0, .int .i64 0, .int .i64 0, .int .i64 0] 62)).alloc (by simp; omega) (.cells #[.int .i64 0, .int .i64 0] 27)
  have D_0_c0 := D_0.c0
  have D_0_c1 := D_0.c1
  have D_0_c2 := D_0.c2
  have D_0_c3 := D_0.c3
  have X_0_c0 := X_0.c0
  have X_0_c1 := X_0.c1
  have X_0_c2 := X_0.c2
  have X_0_c3 := X_0.c3
  have X_0_f0 := X_0.f0
  have X_0_f1 := X_0.f1
  have X_0_f2 := X_0.f2
  have X_0_f3 := X_0.f3
  have F_0_c0 := F_0.c0
  have F_0_c1 := F_0.c1
  have F_0_f0 := F_0.f0
  have F_0_f1 := F_0.f1
  go_enter Try.func32, Try.ntmps32
  go_wp2_with fail
  refine (HW.out _).mono ?_
  rintro e w9_1 ⟨rfl, rfl⟩
  go_wp2_with fail
  refine (arfault_any _ _ _).mono ?_
  rintro e w1 ⟨rfl, y1⟩
  have D_1 := D_0.on y1
  have B_1 := B_0.on y1
  have X_1 := X_0.on y1
  have F_1 := F_0.on y1
  clear D_0 D_0_c0 D_0_c1 D_0_c2 D_0_c3 B_0 X_0 X_0_c0 X_0_c1 X_0_c2 X_0_c3 X_0_f0 X_0_f1 X_0_f2 X_0_f3 F_0 F_0_c0 F_0_c1 F_0_f0 F_0_f1
  have z1 := Z0.trans (y1.mono Z0.size)
  have Z1 := z1
  have D_1_c0 := D_1.c0
  have D_1_c1 := D_1.c1
  have D_1_c2 := D_1.c2
  have D_1_c3 := D_1.c3
  have X_1_c0 := X_1.c0
  have X_1_c1 := X_1.c1
  have X_1_c2 := X_1.c2
  have X_1_c3 := X_1.c3
  have X_1_f0 := X_1.f0
  have X_1_f1 := X_1.f1
  have X_1_f2 := X_1.f2
  have X_1_f3 := X_1.f3
  have F_1_c0 := F_1.c0
  have F_1_c1 := F_1.c1
  have F_1_f0 := F_1.f0
  have F_1_f1 := F_1.f1
  go_wp2
  have rX := (((((((X_1.set0 (.int .i64 0)).set1 (.int .i64 0)).set2 (.int .i64 0)).set3 (.int .i64 0)).far (p := ⟨w.heap.size + 3, 0, none⟩) (by simp) (.int .i64 6)).far (p := ⟨w.heap.size + 3, 1, none⟩) (by simp) (.int .i64 (-1))))
  have rX_0 := rX.c0
  have rX_1 := rX.c1
  have rX_2 := rX.c2
  have rX_3 := rX.c3
  have rF := (((((((F_1.far (p := ⟨w.heap.size + 2, 0, none⟩) (by simp) (.int .i64 0)).far (p := ⟨w.heap.size + 2, 1, none⟩) (by simp) (.int .i64 0)).far (p := ⟨w.heap.size + 2, 2, none⟩) (by simp) (.int .i64 0)).far (p := ⟨w.heap.size + 2, 3, none⟩) (by simp) (.int .i64 0)).set0 (.int .i64 6)).set1 (.int .i64 (-1))))
  have rF_0 := rF.c0
  have rF_1 := rF.c1
  exact bodyPost_ret (v := .tuple #[.int .i64 0, .agg #[.int .i64 0, .int .i64 0, .int .i64 0, .int .i64 0], .agg #[.int .i64 6, .int .i64 (-1)]]) (by simp [results, Try.results32, go_sem, rX_0, rX_1, rX_2, rX_3, rF_0, rF_1]) rfl ⟨rfl, ((((((Z1.setCell (p := ⟨w.heap.size + 2, 0, none⟩) (by simp) (.int .i64 0)).setCell (p := ⟨w.heap.size + 2, 1, none⟩) (by simp) (.int .i64 0)).setCell (p := ⟨w.heap.size + 2, 2, none⟩) (by simp) (.int .i64 0)).setCell (p := ⟨w.heap.size + 2, 3, none⟩) (by simp) (.int .i64 0)).setCell (p := ⟨w.heap.size + 3, 0, none⟩) (by simp) (.int .i64 6)).setCell (p := ⟨w.heap.size + 3, 1, none⟩) (by simp) (.int .i64 (-1)))⟩
set_option maxRecDepth 100000 in
set_option maxHeartbeats 1600000 in
theorem get_early {A : Option Addr} {n c : Nat} {cnt lo hi V t p : Int} {w : World} (hw : Wid lo hi) (h1 : ¬ V < lo) (h2 : ¬ hi < V) (h3 : t < 16) :
    Calls Try.prog 32 #[.agg #[.int .i64 lo, .int .i64 hi, .int .i64 V, .int .i64 t], .agg #[.slice A n c, .int .i64 cnt], .int .i64 p] w fun e w' => e = .returned (.tuple #[.int .i64 0, .agg #[.int .i64 0, .int .i64 0, .int .i64 0, .int .i64 0], .agg #[.int .i64 6, .int .i64 (-1)]]) ∧ Below w.heap.size w w' := by
  have HW := Lib.hid (fun (W : World) => wide_any lo hi true (by simp [hw]) W)
  have k1 : decide (V < lo) = false := by simpa using h1
  have k2 : decide (hi < V) = false := by simpa using h2
  have k3 : decide (t < 16) = true := by simpa using h3
  clear hw h1 h2 h3
  have D_0 := ((((Four.new w 62 (.int .i64 lo) (.int .i64 hi) (.int .i64 V) (.int .i64 t))).alloc (.cells #[.slice A n c, .int .i64 cnt] 25)).alloc (.cells #[.int .i64 0, .int .i64 0, .int .i64 0, .int .i64 0] 62)).alloc (.cells #[.int .i64 0, .int .i64 0] 27)
  have B_0 := (((Two.new1 w (.cells #[.int .i64 lo, .int .i64 hi, .int .i64 V, .int .i64 t] 62) 25 (.slice A n c) (.int .i64 cnt))).alloc (.cells #[.int .i64 0, .int .i64 0, .int .i64 0, .int .i64 0] 62)).alloc (.cells #[.int .i64 0, .int .i64 0] 27)
  have X_0 := ((Four.new2 w (.cells #[.int .i64 lo, .int .i64 hi, .int .i64 V, .int .i64 t] 62) (.cells #[.slice A n c, .int .i64 cnt] 25) 62 (.int .i64 0) (.int .i64 0) (.int .i64 0) (.int .i64 0))).alloc (.cells #[.int .i64 0, .int .i64 0] 27)
  have F_0 := (Two.new3 w (.cells #[.int .i64 lo, .int .i64 hi, .int .i64 V, .int .i64 t] 62) (.cells #[.slice A n c, .int .i64 cnt] 25) (.cells #[.int .i64 0, .int .i64 0, .int .i64 0, .int .i64 0] 62) 27 (.int .i64 0) (.int .i64 0))
  have Z0 := ((((Below.refl w.heap.size w).alloc (by simp) (.cells #[.int .i64 lo, .int .i64 hi, .int .i64 V, .int .i64 t] 62)).alloc (by simp) (.cells #[.slice A n c, .int .i64 cnt] 25)).alloc (by simp; omega) (.cells #[.int .i64 0, .int .i64 0, .int .i64 0, .int .i64 0] 62)).alloc (by simp; omega) (.cells #[.int .i64 0, .int .i64 0] 27)
  have D_0_c0 := D_0.c0
  have D_0_c1 := D_0.c1
  have D_0_c2 := D_0.c2
  have D_0_c3 := D_0.c3
  have X_0_c0 := X_0.c0
  have X_0_c1 := X_0.c1
  have X_0_c2 := X_0.c2
  have X_0_c3 := X_0.c3
  have X_0_f0 := X_0.f0
  have X_0_f1 := X_0.f1
  have X_0_f2 := X_0.f2
  have X_0_f3 := X_0.f3
  have F_0_c0 := F_0.c0
  have F_0_c1 := F_0.c1
  have F_0_f0 := F_0.f0
  have F_0_f1 := F_0.f1
  go_enter Try.func32, Try.ntmps32
  go_wp2_with fail
  refine (HW.out _).mono ?_
  rintro e w9_1 ⟨rfl, rfl⟩
  go_wp2_with fail
  refine (arfault_any _ _ _).mono ?_
  rintro e w1 ⟨rfl, y1⟩
  have D_1 := D_0.on y1
  have B_1 := B_0.on y1
  have X_1 := X_0.on y1
  have F_1 := F_0.on y1
  clear D_0 D_0_c0 D_0_c1 D_0_c2 D_0_c3 B_0 X_0 X_0_c0 X_0_c1 X_0_c2 X_0_c3 X_0_f0 X_0_f1 X_0_f2 X_0_f3 F_0 F_0_c0 F_0_c1 F_0_f0 F_0_f1
  have z1 := Z0.trans (y1.mono Z0.size)
  have Z1 := z1
  have D_1_c0 := D_1.c0
  have D_1_c1 := D_1.c1
  have D_1_c2 := D_1.c2
  have D_1_c3 := D_1.c3
  have X_1_c0 := X_1.c0
  have X_1_c1 := X_1.c1
  have X_1_c2 := X_1.c2
  have X_1_c3 := X_1.c3
  have X_1_f0 := X_1.f0
  have X_1_f1 := X_1.f1
  have X_1_f2 := X_1.f2
  have X_1_f3 := X_1.f3
  have F_1_c0 := F_1.c0
  have F_1_c1 := F_1.c1
  have F_1_f0 := F_1.f0
  have F_1_f1 := F_1.f1
  go_wp2
  have rX := (((((((X_1.set0 (.int .i64 0)).set1 (.int .i64 0)).set2 (.int .i64 0)).set3 (.int .i64 0)).far (p := ⟨w.heap.size + 3, 0, none⟩) (by simp) (.int .i64 6)).far (p := ⟨w.heap.size + 3, 1, none⟩) (by simp) (.int .i64 (-1))))
  have rX_0 := rX.c0
  have rX_1 := rX.c1
  have rX_2 := rX.c2
  have rX_3 := rX.c3
  have rF := (((((((F_1.far (p := ⟨w.heap.size + 2, 0, none⟩) (by simp) (.int .i64 0)).far (p := ⟨w.heap.size + 2, 1, none⟩) (by simp) (.int .i64 0)).far (p := ⟨w.heap.size + 2, 2, none⟩) (by simp) (.int .i64 0)).far (p := ⟨w.heap.size + 2, 3, none⟩) (by simp) (.int .i64 0)).set0 (.int .i64 6)).set1 (.int .i64 (-1))))
  have rF_0 := rF.c0
  have rF_1 := rF.c1
  exact bodyPost_ret (v := .tuple #[.int .i64 0, .agg #[.int .i64 0, .int .i64 0, .int .i64 0, .int .i64 0], .agg #[.int .i64 6, .int .i64 (-1)]]) (by simp [results, Try.results32, go_sem, rX_0, rX_1, rX_2, rX_3, rF_0, rF_1]) rfl ⟨rfl, ((((((Z1.setCell (p := ⟨w.heap.size + 2, 0, none⟩) (by simp) (.int .i64 0)).setCell (p := ⟨w.heap.size + 2, 1, none⟩) (by simp) (.int .i64 0)).setCell (p := ⟨w.heap.size + 2, 2, none⟩) (by simp) (.int .i64 0)).setCell (p := ⟨w.heap.size + 2, 3, none⟩) (by simp) (.int .i64 0)).setCell (p := ⟨w.heap.size + 3, 0, none⟩) (by simp) (.int .i64 6)).setCell (p := ⟨w.heap.size + 3, 1, none⟩) (by simp) (.int .i64 (-1)))⟩
set_option maxRecDepth 100000 in
set_option maxHeartbeats 1600000 in
theorem get_late {A : Option Addr} {n c : Nat} {cnt lo hi V t p : Int} {w : World} (hw : Wid lo hi) (h1 : ¬ V < lo) (h2 : ¬ hi < V) (h3 : ¬ t < 16) (h4 : 131086 < t) :
    Calls Try.prog 32 #[.agg #[.int .i64 lo, .int .i64 hi, .int .i64 V, .int .i64 t], .agg #[.slice A n c, .int .i64 cnt], .int .i64 p] w fun e w' => e = .returned (.tuple #[.int .i64 0, .agg #[.int .i64 0, .int .i64 0, .int .i64 0, .int .i64 0], .agg #[.int .i64 6, .int .i64 (-1)]]) ∧ Below w.heap.size w w' := by
  have HW := Lib.hid (fun (W : World) => wide_any lo hi true (by simp [hw]) W)
  have k1 : decide (V < lo) = false := by simpa using h1
  have k2 : decide (hi < V) = false := by simpa using h2
  have k3 : decide (t < 16) = false := by simpa using h3
  have k4 : decide (131086 < t) = true := by simpa using h4
  clear hw h1 h2 h3 h4
  have D_0 := ((((Four.new w 62 (.int .i64 lo) (.int .i64 hi) (.int .i64 V) (.int .i64 t))).alloc (.cells #[.slice A n c, .int .i64 cnt] 25)).alloc (.cells #[.int .i64 0, .int .i64 0, .int .i64 0, .int .i64 0] 62)).alloc (.cells #[.int .i64 0, .int .i64 0] 27)
  have B_0 := (((Two.new1 w (.cells #[.int .i64 lo, .int .i64 hi, .int .i64 V, .int .i64 t] 62) 25 (.slice A n c) (.int .i64 cnt))).alloc (.cells #[.int .i64 0, .int .i64 0, .int .i64 0, .int .i64 0] 62)).alloc (.cells #[.int .i64 0, .int .i64 0] 27)
  have X_0 := ((Four.new2 w (.cells #[.int .i64 lo, .int .i64 hi, .int .i64 V, .int .i64 t] 62) (.cells #[.slice A n c, .int .i64 cnt] 25) 62 (.int .i64 0) (.int .i64 0) (.int .i64 0) (.int .i64 0))).alloc (.cells #[.int .i64 0, .int .i64 0] 27)
  have F_0 := (Two.new3 w (.cells #[.int .i64 lo, .int .i64 hi, .int .i64 V, .int .i64 t] 62) (.cells #[.slice A n c, .int .i64 cnt] 25) (.cells #[.int .i64 0, .int .i64 0, .int .i64 0, .int .i64 0] 62) 27 (.int .i64 0) (.int .i64 0))
  have Z0 := ((((Below.refl w.heap.size w).alloc (by simp) (.cells #[.int .i64 lo, .int .i64 hi, .int .i64 V, .int .i64 t] 62)).alloc (by simp) (.cells #[.slice A n c, .int .i64 cnt] 25)).alloc (by simp; omega) (.cells #[.int .i64 0, .int .i64 0, .int .i64 0, .int .i64 0] 62)).alloc (by simp; omega) (.cells #[.int .i64 0, .int .i64 0] 27)
  have D_0_c0 := D_0.c0
  have D_0_c1 := D_0.c1
  have D_0_c2 := D_0.c2
  have D_0_c3 := D_0.c3
  have X_0_c0 := X_0.c0
  have X_0_c1 := X_0.c1
  have X_0_c2 := X_0.c2
  have X_0_c3 := X_0.c3
  have X_0_f0 := X_0.f0
  have X_0_f1 := X_0.f1
  have X_0_f2 := X_0.f2
  have X_0_f3 := X_0.f3
  have F_0_c0 := F_0.c0
  have F_0_c1 := F_0.c1
  have F_0_f0 := F_0.f0
  have F_0_f1 := F_0.f1
  go_enter Try.func32, Try.ntmps32
  go_wp2_with fail
  refine (HW.out _).mono ?_
  rintro e w9_1 ⟨rfl, rfl⟩
  go_wp2_with fail
  refine (arfault_any _ _ _).mono ?_
  rintro e w1 ⟨rfl, y1⟩
  have D_1 := D_0.on y1
  have B_1 := B_0.on y1
  have X_1 := X_0.on y1
  have F_1 := F_0.on y1
  clear D_0 D_0_c0 D_0_c1 D_0_c2 D_0_c3 B_0 X_0 X_0_c0 X_0_c1 X_0_c2 X_0_c3 X_0_f0 X_0_f1 X_0_f2 X_0_f3 F_0 F_0_c0 F_0_c1 F_0_f0 F_0_f1
  have z1 := Z0.trans (y1.mono Z0.size)
  have Z1 := z1
  have D_1_c0 := D_1.c0
  have D_1_c1 := D_1.c1
  have D_1_c2 := D_1.c2
  have D_1_c3 := D_1.c3
  have X_1_c0 := X_1.c0
  have X_1_c1 := X_1.c1
  have X_1_c2 := X_1.c2
  have X_1_c3 := X_1.c3
  have X_1_f0 := X_1.f0
  have X_1_f1 := X_1.f1
  have X_1_f2 := X_1.f2
  have X_1_f3 := X_1.f3
  have F_1_c0 := F_1.c0
  have F_1_c1 := F_1.c1
  have F_1_f0 := F_1.f0
  have F_1_f1 := F_1.f1
  go_wp2
  have rX := (((((((X_1.set0 (.int .i64 0)).set1 (.int .i64 0)).set2 (.int .i64 0)).set3 (.int .i64 0)).far (p := ⟨w.heap.size + 3, 0, none⟩) (by simp) (.int .i64 6)).far (p := ⟨w.heap.size + 3, 1, none⟩) (by simp) (.int .i64 (-1))))
  have rX_0 := rX.c0
  have rX_1 := rX.c1
  have rX_2 := rX.c2
  have rX_3 := rX.c3
  have rF := (((((((F_1.far (p := ⟨w.heap.size + 2, 0, none⟩) (by simp) (.int .i64 0)).far (p := ⟨w.heap.size + 2, 1, none⟩) (by simp) (.int .i64 0)).far (p := ⟨w.heap.size + 2, 2, none⟩) (by simp) (.int .i64 0)).far (p := ⟨w.heap.size + 2, 3, none⟩) (by simp) (.int .i64 0)).set0 (.int .i64 6)).set1 (.int .i64 (-1))))
  have rF_0 := rF.c0
  have rF_1 := rF.c1
  exact bodyPost_ret (v := .tuple #[.int .i64 0, .agg #[.int .i64 0, .int .i64 0, .int .i64 0, .int .i64 0], .agg #[.int .i64 6, .int .i64 (-1)]]) (by simp [results, Try.results32, go_sem, rX_0, rX_1, rX_2, rX_3, rF_0, rF_1]) rfl ⟨rfl, ((((((Z1.setCell (p := ⟨w.heap.size + 2, 0, none⟩) (by simp) (.int .i64 0)).setCell (p := ⟨w.heap.size + 2, 1, none⟩) (by simp) (.int .i64 0)).setCell (p := ⟨w.heap.size + 2, 2, none⟩) (by simp) (.int .i64 0)).setCell (p := ⟨w.heap.size + 2, 3, none⟩) (by simp) (.int .i64 0)).setCell (p := ⟨w.heap.size + 3, 0, none⟩) (by simp) (.int .i64 6)).setCell (p := ⟨w.heap.size + 3, 1, none⟩) (by simp) (.int .i64 (-1)))⟩
theorem get_bad {A : Option Addr} {n c : Nat} {cnt lo hi V t p : Int} {w : World} (hno : ¬ DecOk lo hi V t) :
    Calls Try.prog 32 #[.agg #[.int .i64 lo, .int .i64 hi, .int .i64 V, .int .i64 t], .agg #[.slice A n c, .int .i64 cnt], .int .i64 p] w fun e w' => e = .returned (.tuple #[.int .i64 0, .agg #[.int .i64 0, .int .i64 0, .int .i64 0, .int .i64 0], .agg #[.int .i64 6, .int .i64 (-1)]]) ∧ Below w.heap.size w w' := by
  by_cases hw : Wid lo hi
  · by_cases h1 : V < lo
    · exact get_low hw h1
    · by_cases h2 : hi < V
      · exact get_high hw h1 h2
      · by_cases h3 : t < 16
        · exact get_early hw h1 h2 h3
        · by_cases h4 : 131086 < t
          · exact get_late hw h1 h2 h3 h4
          · exact absurd ⟨hw, ⟨by omega, by omega⟩, by omega, by omega⟩ hno
  · exact get_wide hw
set_option maxRecDepth 100000 in
set_option maxHeartbeats 1600000 in
theorem get_form {A : Option Addr} {n c : Nat} {d : List Nat} {cnt lo hi V t p : Int} {w : World} (h : Rd w A n c (bcells d)) (hok : DecOk lo hi V t) (hno : ¬ Ok d cnt) :
    Calls Try.prog 32 #[.agg #[.int .i64 lo, .int .i64 hi, .int .i64 V, .int .i64 t], .agg #[.slice A n c, .int .i64 cnt], .int .i64 p] w fun e w' => e = .returned (.tuple #[.int .i64 0, .agg #[.int .i64 0, .int .i64 0, .int .i64 0, .int .i64 0], .agg #[.int .i64 6, .int .i64 (-2)]]) ∧ Below w.heap.size w w' := by
  obtain ⟨hw, ⟨h1, h2⟩, h3, h4⟩ := hok
  have HW := Lib.hid (fun (W : World) => wide_any lo hi true (by simp [hw]) W)
  have k1 : decide (V < lo) = false := by simp; omega
  have k2 : decide (hi < V) = false := by simp; omega
  have k3 : decide (t < 16) = false := by simp; omega
  have k4 : decide (131086 < t) = false := by simp; omega
  have HNO := Lib.hid (fun (W : World) (hW : Rd W A n c (bcells d)) => valid_no A n c d cnt _ W hW (Nat.le_refl _) hno)
  clear hno hw h1 h2 h3 h4
  have R_0 := ((((h).alloc (.cells #[.int .i64 lo, .int .i64 hi, .int .i64 V, .int .i64 t] 62)).alloc (.cells #[.slice A n c, .int .i64 cnt] 25)).alloc (.cells #[.int .i64 0, .int .i64 0, .int .i64 0, .int .i64 0] 62)).alloc (.cells #[.int .i64 0, .int .i64 0] 27)
  have D_0 := ((((Four.new w 62 (.int .i64 lo) (.int .i64 hi) (.int .i64 V) (.int .i64 t))).alloc (.cells #[.slice A n c, .int .i64 cnt] 25)).alloc (.cells #[.int .i64 0, .int .i64 0, .int .i64 0, .int .i64 0] 62)).alloc (.cells #[.int .i64 0, .int .i64 0] 27)
  have B_0 := (((Two.new1 w (.cells #[.int .i64 lo, .int .i64 hi, .int .i64 V, .int .i64 t] 62) 25 (.slice A n c) (.int .i64 cnt))).alloc (.cells #[.int .i64 0, .int .i64 0, .int .i64 0, .int .i64 0] 62)).alloc (.cells #[.int .i64 0, .int .i64 0] 27)
  have X_0 := ((Four.new2 w (.cells #[.int .i64 lo, .int .i64 hi, .int .i64 V, .int .i64 t] 62) (.cells #[.slice A n c, .int .i64 cnt] 25) 62 (.int .i64 0) (.int .i64 0) (.int .i64 0) (.int .i64 0))).alloc (.cells #[.int .i64 0, .int .i64 0] 27)
  have F_0 := (Two.new3 w (.cells #[.int .i64 lo, .int .i64 hi, .int .i64 V, .int .i64 t] 62) (.cells #[.slice A n c, .int .i64 cnt] 25) (.cells #[.int .i64 0, .int .i64 0, .int .i64 0, .int .i64 0] 62) 27 (.int .i64 0) (.int .i64 0))
  have Z0 := ((((Below.refl w.heap.size w).alloc (by simp) (.cells #[.int .i64 lo, .int .i64 hi, .int .i64 V, .int .i64 t] 62)).alloc (by simp) (.cells #[.slice A n c, .int .i64 cnt] 25)).alloc (by simp; omega) (.cells #[.int .i64 0, .int .i64 0, .int .i64 0, .int .i64 0] 62)).alloc (by simp; omega) (.cells #[.int .i64 0, .int .i64 0] 27)
  have D_0_c0 := D_0.c0
  have D_0_c1 := D_0.c1
  have D_0_c2 := D_0.c2
  have D_0_c3 := D_0.c3
  have B_0_c0 := B_0.c0
  have B_0_c1 := B_0.c1
  have X_0_c0 := X_0.c0
  have X_0_c1 := X_0.c1
  have X_0_c2 := X_0.c2
  have X_0_c3 := X_0.c3
  have X_0_f0 := X_0.f0
  have X_0_f1 := X_0.f1
  have X_0_f2 := X_0.f2
  have X_0_f3 := X_0.f3
  have F_0_c0 := F_0.c0
  have F_0_c1 := F_0.c1
  have F_0_f0 := F_0.f0
  have F_0_f1 := F_0.f1
  go_enter Try.func32, Try.ntmps32
  go_wp2_with fail
  refine (HW.out _).mono ?_
  rintro e w9_1 ⟨rfl, rfl⟩
  go_wp2_with fail
  refine (HNO.out _ R_0).mono ?_
  rintro e w1 ⟨rfl, y1⟩
  have R_1 := R_0.on y1
  have D_1 := D_0.on y1
  have B_1 := B_0.on y1
  have X_1 := X_0.on y1
  have F_1 := F_0.on y1
  clear R_0 D_0 D_0_c0 D_0_c1 D_0_c2 D_0_c3 B_0 B_0_c0 B_0_c1 X_0 X_0_c0 X_0_c1 X_0_c2 X_0_c3 X_0_f0 X_0_f1 X_0_f2 X_0_f3 F_0 F_0_c0 F_0_c1 F_0_f0 F_0_f1
  have z1 := Z0.trans (y1.mono Z0.size)
  have Z1 := z1
  have D_1_c0 := D_1.c0
  have D_1_c1 := D_1.c1
  have D_1_c2 := D_1.c2
  have D_1_c3 := D_1.c3
  have B_1_c0 := B_1.c0
  have B_1_c1 := B_1.c1
  have X_1_c0 := X_1.c0
  have X_1_c1 := X_1.c1
  have X_1_c2 := X_1.c2
  have X_1_c3 := X_1.c3
  have X_1_f0 := X_1.f0
  have X_1_f1 := X_1.f1
  have X_1_f2 := X_1.f2
  have X_1_f3 := X_1.f3
  have F_1_c0 := F_1.c0
  have F_1_c1 := F_1.c1
  have F_1_f0 := F_1.f0
  have F_1_f1 := F_1.f1
  go_wp2_with fail
  refine (arfault_any _ _ _).mono ?_
  rintro e w2 ⟨rfl, y2⟩
  have R_2 := R_1.on y2
  have D_2 := D_1.on y2
  have B_2 := B_1.on y2
  have X_2 := X_1.on y2
  have F_2 := F_1.on y2
  clear R_1 D_1 D_1_c0 D_1_c1 D_1_c2 D_1_c3 B_1 B_1_c0 B_1_c1 X_1 X_1_c0 X_1_c1 X_1_c2 X_1_c3 X_1_f0 X_1_f1 X_1_f2 X_1_f3 F_1 F_1_c0 F_1_c1 F_1_f0 F_1_f1
  have z2 := Z1.trans (y2.mono Z1.size)
  have Z2 := z2
  have D_2_c0 := D_2.c0
  have D_2_c1 := D_2.c1
  have D_2_c2 := D_2.c2
  have D_2_c3 := D_2.c3
  have B_2_c0 := B_2.c0
  have B_2_c1 := B_2.c1
  have X_2_c0 := X_2.c0
  have X_2_c1 := X_2.c1
  have X_2_c2 := X_2.c2
  have X_2_c3 := X_2.c3
  have X_2_f0 := X_2.f0
  have X_2_f1 := X_2.f1
  have X_2_f2 := X_2.f2
  have X_2_f3 := X_2.f3
  have F_2_c0 := F_2.c0
  have F_2_c1 := F_2.c1
  have F_2_f0 := F_2.f0
  have F_2_f1 := F_2.f1
  go_wp2
  have rX := (((((((X_2.set0 (.int .i64 0)).set1 (.int .i64 0)).set2 (.int .i64 0)).set3 (.int .i64 0)).far (p := ⟨w.heap.size + 3, 0, none⟩) (by simp) (.int .i64 6)).far (p := ⟨w.heap.size + 3, 1, none⟩) (by simp) (.int .i64 (-2))))
  have rX_0 := rX.c0
  have rX_1 := rX.c1
  have rX_2 := rX.c2
  have rX_3 := rX.c3
  have rF := (((((((F_2.far (p := ⟨w.heap.size + 2, 0, none⟩) (by simp) (.int .i64 0)).far (p := ⟨w.heap.size + 2, 1, none⟩) (by simp) (.int .i64 0)).far (p := ⟨w.heap.size + 2, 2, none⟩) (by simp) (.int .i64 0)).far (p := ⟨w.heap.size + 2, 3, none⟩) (by simp) (.int .i64 0)).set0 (.int .i64 6)).set1 (.int .i64 (-2))))
  have rF_0 := rF.c0
  have rF_1 := rF.c1
  exact bodyPost_ret (v := .tuple #[.int .i64 0, .agg #[.int .i64 0, .int .i64 0, .int .i64 0, .int .i64 0], .agg #[.int .i64 6, .int .i64 (-2)]]) (by simp [results, Try.results32, go_sem, rX_0, rX_1, rX_2, rX_3, rF_0, rF_1]) rfl ⟨rfl, ((((((Z2.setCell (p := ⟨w.heap.size + 2, 0, none⟩) (by simp) (.int .i64 0)).setCell (p := ⟨w.heap.size + 2, 1, none⟩) (by simp) (.int .i64 0)).setCell (p := ⟨w.heap.size + 2, 2, none⟩) (by simp) (.int .i64 0)).setCell (p := ⟨w.heap.size + 2, 3, none⟩) (by simp) (.int .i64 0)).setCell (p := ⟨w.heap.size + 3, 0, none⟩) (by simp) (.int .i64 6)).setCell (p := ⟨w.heap.size + 3, 1, none⟩) (by simp) (.int .i64 (-2)))⟩
set_option maxRecDepth 100000 in
set_option maxHeartbeats 1600000 in
theorem get_prob {A : Option Addr} {n c : Nat} {l : List Nat} {lo hi V t p : Int} {w : World} (h : Rd w A n c (bcells (pack l))) (h01 : Is01 l) (hl : l.length ≤ 131072) (hok : DecOk lo hi V t) (hp : ¬ (1 ≤ p ∧ p ≤ 4095)) :
    Calls Try.prog 32 #[.agg #[.int .i64 lo, .int .i64 hi, .int .i64 V, .int .i64 t], .agg #[.slice A n c, .int .i64 l.length], .int .i64 p] w fun e w' => e = .returned (.tuple #[.int .i64 0, .agg #[.int .i64 0, .int .i64 0, .int .i64 0, .int .i64 0], .agg #[.int .i64 4, .int .i64 (-3)]]) ∧ Below w.heap.size w w' := by
  obtain ⟨hw, ⟨h1, h2⟩, h3, h4⟩ := hok
  have HW := Lib.hid (fun (W : World) => wide_any lo hi true (by simp [hw]) W)
  have k1 : decide (V < lo) = false := by simp; omega
  have k2 : decide (hi < V) = false := by simp; omega
  have k3 : decide (t < 16) = false := by simp; omega
  have k4 : decide (131086 < t) = false := by simp; omega
  have HV := Lib.hid (fun (W : World) (hW : Rd W A n c (bcells (pack l))) => valid_list A n c l _ W hW (Nat.le_refl _) h01 hl)
  have HP := Lib.hid (show decide (1 ≤ p ∧ p ≤ 4095) = false from decide_eq_false hp)
  clear hp hw h1 h2 h3 h4 h01
  have R_0 := ((((h).alloc (.cells #[.int .i64 lo, .int .i64 hi, .int .i64 V, .int .i64 t] 62)).alloc (.cells #[.slice A n c, .int .i64 l.length] 25)).alloc (.cells #[.int .i64 0, .int .i64 0, .int .i64 0, .int .i64 0] 62)).alloc (.cells #[.int .i64 0, .int .i64 0] 27)
  have D_0 := ((((Four.new w 62 (.int .i64 lo) (.int .i64 hi) (.int .i64 V) (.int .i64 t))).alloc (.cells #[.slice A n c, .int .i64 l.length] 25)).alloc (.cells #[.int .i64 0, .int .i64 0, .int .i64 0, .int .i64 0] 62)).alloc (.cells #[.int .i64 0, .int .i64 0] 27)
  have B_0 := (((Two.new1 w (.cells #[.int .i64 lo, .int .i64 hi, .int .i64 V, .int .i64 t] 62) 25 (.slice A n c) (.int .i64 l.length))).alloc (.cells #[.int .i64 0, .int .i64 0, .int .i64 0, .int .i64 0] 62)).alloc (.cells #[.int .i64 0, .int .i64 0] 27)
  have X_0 := ((Four.new2 w (.cells #[.int .i64 lo, .int .i64 hi, .int .i64 V, .int .i64 t] 62) (.cells #[.slice A n c, .int .i64 l.length] 25) 62 (.int .i64 0) (.int .i64 0) (.int .i64 0) (.int .i64 0))).alloc (.cells #[.int .i64 0, .int .i64 0] 27)
  have F_0 := (Two.new3 w (.cells #[.int .i64 lo, .int .i64 hi, .int .i64 V, .int .i64 t] 62) (.cells #[.slice A n c, .int .i64 l.length] 25) (.cells #[.int .i64 0, .int .i64 0, .int .i64 0, .int .i64 0] 62) 27 (.int .i64 0) (.int .i64 0))
  have Z0 := ((((Below.refl w.heap.size w).alloc (by simp) (.cells #[.int .i64 lo, .int .i64 hi, .int .i64 V, .int .i64 t] 62)).alloc (by simp) (.cells #[.slice A n c, .int .i64 l.length] 25)).alloc (by simp; omega) (.cells #[.int .i64 0, .int .i64 0, .int .i64 0, .int .i64 0] 62)).alloc (by simp; omega) (.cells #[.int .i64 0, .int .i64 0] 27)
  have D_0_c0 := D_0.c0
  have D_0_c1 := D_0.c1
  have D_0_c2 := D_0.c2
  have D_0_c3 := D_0.c3
  have B_0_c0 := B_0.c0
  have B_0_c1 := B_0.c1
  have X_0_c0 := X_0.c0
  have X_0_c1 := X_0.c1
  have X_0_c2 := X_0.c2
  have X_0_c3 := X_0.c3
  have X_0_f0 := X_0.f0
  have X_0_f1 := X_0.f1
  have X_0_f2 := X_0.f2
  have X_0_f3 := X_0.f3
  have F_0_c0 := F_0.c0
  have F_0_c1 := F_0.c1
  have F_0_f0 := F_0.f0
  have F_0_f1 := F_0.f1
  go_enter Try.func32, Try.ntmps32
  go_wp2_with fail
  refine (HW.out _).mono ?_
  rintro e w9_1 ⟨rfl, rfl⟩
  go_wp2_with fail
  refine (HV.out _ R_0).mono ?_
  rintro e w1 ⟨rfl, y1⟩
  have R_1 := R_0.on y1
  have D_1 := D_0.on y1
  have B_1 := B_0.on y1
  have X_1 := X_0.on y1
  have F_1 := F_0.on y1
  clear R_0 D_0 D_0_c0 D_0_c1 D_0_c2 D_0_c3 B_0 B_0_c0 B_0_c1 X_0 X_0_c0 X_0_c1 X_0_c2 X_0_c3 X_0_f0 X_0_f1 X_0_f2 X_0_f3 F_0 F_0_c0 F_0_c1 F_0_f0 F_0_f1
  have z1 := Z0.trans (y1.mono Z0.size)
  have Z1 := z1
  have D_1_c0 := D_1.c0
  have D_1_c1 := D_1.c1
  have D_1_c2 := D_1.c2
  have D_1_c3 := D_1.c3
  have B_1_c0 := B_1.c0
  have B_1_c1 := B_1.c1
  have X_1_c0 := X_1.c0
  have X_1_c1 := X_1.c1
  have X_1_c2 := X_1.c2
  have X_1_c3 := X_1.c3
  have X_1_f0 := X_1.f0
  have X_1_f1 := X_1.f1
  have X_1_f2 := X_1.f2
  have X_1_f3 := X_1.f3
  have F_1_c0 := F_1.c0
  have F_1_c1 := F_1.c1
  have F_1_f0 := F_1.f0
  have F_1_f1 := F_1.f1
  go_wp2_with fail
  refine (validp_no _ HP.out _).mono ?_
  rintro e w9_2 ⟨rfl, rfl⟩
  go_wp2_with fail
  refine (arfault_any _ _ _).mono ?_
  rintro e w2 ⟨rfl, y2⟩
  have R_2 := R_1.on y2
  have D_2 := D_1.on y2
  have B_2 := B_1.on y2
  have X_2 := X_1.on y2
  have F_2 := F_1.on y2
  clear R_1 D_1 D_1_c0 D_1_c1 D_1_c2 D_1_c3 B_1 B_1_c0 B_1_c1 X_1 X_1_c0 X_1_c1 X_1_c2 X_1_c3 X_1_f0 X_1_f1 X_1_f2 X_1_f3 F_1 F_1_c0 F_1_c1 F_1_f0 F_1_f1
  have z2 := Z1.trans (y2.mono Z1.size)
  have Z2 := z2
  have D_2_c0 := D_2.c0
  have D_2_c1 := D_2.c1
  have D_2_c2 := D_2.c2
  have D_2_c3 := D_2.c3
  have B_2_c0 := B_2.c0
  have B_2_c1 := B_2.c1
  have X_2_c0 := X_2.c0
  have X_2_c1 := X_2.c1
  have X_2_c2 := X_2.c2
  have X_2_c3 := X_2.c3
  have X_2_f0 := X_2.f0
  have X_2_f1 := X_2.f1
  have X_2_f2 := X_2.f2
  have X_2_f3 := X_2.f3
  have F_2_c0 := F_2.c0
  have F_2_c1 := F_2.c1
  have F_2_f0 := F_2.f0
  have F_2_f1 := F_2.f1
  go_wp2
  have rX := (((((((X_2.set0 (.int .i64 0)).set1 (.int .i64 0)).set2 (.int .i64 0)).set3 (.int .i64 0)).far (p := ⟨w.heap.size + 3, 0, none⟩) (by simp) (.int .i64 4)).far (p := ⟨w.heap.size + 3, 1, none⟩) (by simp) (.int .i64 (-3))))
  have rX_0 := rX.c0
  have rX_1 := rX.c1
  have rX_2 := rX.c2
  have rX_3 := rX.c3
  have rF := (((((((F_2.far (p := ⟨w.heap.size + 2, 0, none⟩) (by simp) (.int .i64 0)).far (p := ⟨w.heap.size + 2, 1, none⟩) (by simp) (.int .i64 0)).far (p := ⟨w.heap.size + 2, 2, none⟩) (by simp) (.int .i64 0)).far (p := ⟨w.heap.size + 2, 3, none⟩) (by simp) (.int .i64 0)).set0 (.int .i64 4)).set1 (.int .i64 (-3))))
  have rF_0 := rF.c0
  have rF_1 := rF.c1
  exact bodyPost_ret (v := .tuple #[.int .i64 0, .agg #[.int .i64 0, .int .i64 0, .int .i64 0, .int .i64 0], .agg #[.int .i64 4, .int .i64 (-3)]]) (by simp [results, Try.results32, go_sem, rX_0, rX_1, rX_2, rX_3, rF_0, rF_1]) rfl ⟨rfl, ((((((Z2.setCell (p := ⟨w.heap.size + 2, 0, none⟩) (by simp) (.int .i64 0)).setCell (p := ⟨w.heap.size + 2, 1, none⟩) (by simp) (.int .i64 0)).setCell (p := ⟨w.heap.size + 2, 2, none⟩) (by simp) (.int .i64 0)).setCell (p := ⟨w.heap.size + 2, 3, none⟩) (by simp) (.int .i64 0)).setCell (p := ⟨w.heap.size + 3, 0, none⟩) (by simp) (.int .i64 4)).setCell (p := ⟨w.heap.size + 3, 1, none⟩) (by simp) (.int .i64 (-3)))⟩
set_option maxRecDepth 100000 in
set_option maxHeartbeats 1600000 in
theorem get_big {A : Option Addr} {n c : Nat} {l : List Nat} {lo hi V p : Int} {t : Nat} {w : World} (h : Rd w A n c (bcells (pack l))) (h01 : Is01 l) (hl : l.length ≤ 131072) (hok : DecOk lo hi V (t : Nat)) (hp1 : 1 ≤ p) (hp2 : p ≤ 4095) (b : Nat) (LO HI VV : Int) (TT : Nat) (hb : b = pickb ⟨lo, hi, V, t⟩ p) (hLO : LO = (stp lo hi b p).1) (hHI : HI = (stp lo hi b p).2.1) (hVV : VV = dv l (stp lo hi b p).2.2 V t) (hTT : TT = t + (stp lo hi b p).2.2.length) (hbig : l.length + 14 < TT) :
    Calls Try.prog 32 #[.agg #[.int .i64 lo, .int .i64 hi, .int .i64 V, .int .i64 (t : Nat)], .agg #[.slice A n c, .int .i64 l.length], .int .i64 p] w fun e w' => e = .returned (.tuple #[.int .i64 0, .agg #[.int .i64 0, .int .i64 0, .int .i64 0, .int .i64 0], .agg #[.int .i64 15, .int .i64 (-2)]]) ∧ Below w.heap.size w w' := by
  obtain ⟨hw, ⟨h1, h2⟩, h3, h4⟩ := hok
  have HW := Lib.hid (fun (W : World) => wide_any lo hi true (by simp [hw]) W)
  have k1 : decide (V < lo) = false := by simp; omega
  have k2 : decide (hi < V) = false := by simp; omega
  have k3 : decide ((t : Int) < 16) = false := by simp; omega
  have k4 : decide (131086 < (t : Int)) = false := by simp; omega
  have HV := Lib.hid (fun (W : World) (hW : Rd W A n c (bcells (pack l))) => valid_list A n c l _ W hW (Nat.le_refl _) h01 hl)
  have HP := Lib.hid (show decide (1 ≤ p ∧ p ≤ 4095) = true from decide_eq_true ⟨hp1, hp2⟩)
  have hTb : TT ≤ 200000 := by rw [hTT]; have := (stp_facts b hw hp1 hp2).2.1; omega
  have HDC := Lib.hid (fun (W : World) (hW : Rd W A n c (bcells (pack l))) => decode_any hW h01 hl hw h1 h2 (by omega) hp1 hp2 b LO HI VV TT hb hLO hHI hVV hTT)
  have k5 : decide ((l.length : Int) + 14 < (TT : Int)) = true := by simp; omega
  clear hp1 hp2 hw h1 h2 h3 h4 h01 hb hLO hHI hVV hTT hbig
  have R_0 := ((((h).alloc (.cells #[.int .i64 lo, .int .i64 hi, .int .i64 V, .int .i64 (t : Nat)] 62)).alloc (.cells #[.slice A n c, .int .i64 l.length] 25)).alloc (.cells #[.int .i64 0, .int .i64 0, .int .i64 0, .int .i64 0] 62)).alloc (.cells #[.int .i64 0, .int .i64 0] 27)
  have D_0 := ((((Four.new w 62 (.int .i64 lo) (.int .i64 hi) (.int .i64 V) (.int .i64 (t : Nat)))).alloc (.cells #[.slice A n c, .int .i64 l.length] 25)).alloc (.cells #[.int .i64 0, .int .i64 0, .int .i64 0, .int .i64 0] 62)).alloc (.cells #[.int .i64 0, .int .i64 0] 27)
  have B_0 := (((Two.new1 w (.cells #[.int .i64 lo, .int .i64 hi, .int .i64 V, .int .i64 (t : Nat)] 62) 25 (.slice A n c) (.int .i64 l.length))).alloc (.cells #[.int .i64 0, .int .i64 0, .int .i64 0, .int .i64 0] 62)).alloc (.cells #[.int .i64 0, .int .i64 0] 27)
  have X_0 := ((Four.new2 w (.cells #[.int .i64 lo, .int .i64 hi, .int .i64 V, .int .i64 (t : Nat)] 62) (.cells #[.slice A n c, .int .i64 l.length] 25) 62 (.int .i64 0) (.int .i64 0) (.int .i64 0) (.int .i64 0))).alloc (.cells #[.int .i64 0, .int .i64 0] 27)
  have F_0 := (Two.new3 w (.cells #[.int .i64 lo, .int .i64 hi, .int .i64 V, .int .i64 (t : Nat)] 62) (.cells #[.slice A n c, .int .i64 l.length] 25) (.cells #[.int .i64 0, .int .i64 0, .int .i64 0, .int .i64 0] 62) 27 (.int .i64 0) (.int .i64 0))
  have Z0 := ((((Below.refl w.heap.size w).alloc (by simp) (.cells #[.int .i64 lo, .int .i64 hi, .int .i64 V, .int .i64 (t : Nat)] 62)).alloc (by simp) (.cells #[.slice A n c, .int .i64 l.length] 25)).alloc (by simp; omega) (.cells #[.int .i64 0, .int .i64 0, .int .i64 0, .int .i64 0] 62)).alloc (by simp; omega) (.cells #[.int .i64 0, .int .i64 0] 27)
  have D_0_c0 := D_0.c0
  have D_0_c1 := D_0.c1
  have D_0_c2 := D_0.c2
  have D_0_c3 := D_0.c3
  have B_0_c0 := B_0.c0
  have B_0_c1 := B_0.c1
  have X_0_c0 := X_0.c0
  have X_0_c1 := X_0.c1
  have X_0_c2 := X_0.c2
  have X_0_c3 := X_0.c3
  have X_0_f0 := X_0.f0
  have X_0_f1 := X_0.f1
  have X_0_f2 := X_0.f2
  have X_0_f3 := X_0.f3
  have F_0_c0 := F_0.c0
  have F_0_c1 := F_0.c1
  have F_0_f0 := F_0.f0
  have F_0_f1 := F_0.f1
  go_enter Try.func32, Try.ntmps32
  go_wp2_with fail
  refine (HW.out _).mono ?_
  rintro e w9_1 ⟨rfl, rfl⟩
  go_wp2_with fail
  refine (HV.out _ R_0).mono ?_
  rintro e w1 ⟨rfl, y1⟩
  have R_1 := R_0.on y1
  have D_1 := D_0.on y1
  have B_1 := B_0.on y1
  have X_1 := X_0.on y1
  have F_1 := F_0.on y1
  clear R_0 D_0 D_0_c0 D_0_c1 D_0_c2 D_0_c3 B_0 B_0_c0 B_0_c1 X_0 X_0_c0 X_0_c1 X_0_c2 X_0_c3 X_0_f0 X_0_f1 X_0_f2 X_0_f3 F_0 F_0_c0 F_0_c1 F_0_f0 F_0_f1
  have z1 := Z0.trans (y1.mono Z0.size)
  have Z1 := z1
  have D_1_c0 := D_1.c0
  have D_1_c1 := D_1.c1
  have D_1_c2 := D_1.c2
  have D_1_c3 := D_1.c3
  have B_1_c0 := B_1.c0
  have B_1_c1 := B_1.c1
  have X_1_c0 := X_1.c0
  have X_1_c1 := X_1.c1
  have X_1_c2 := X_1.c2
  have X_1_c3 := X_1.c3
  have X_1_f0 := X_1.f0
  have X_1_f1 := X_1.f1
  have X_1_f2 := X_1.f2
  have X_1_f3 := X_1.f3
  have F_1_c0 := F_1.c0
  have F_1_c1 := F_1.c1
  have F_1_f0 := F_1.f0
  have F_1_f1 := F_1.f1
  go_wp2_with fail
  refine (validp_yes _ HP.out _).mono ?_
  rintro e w9_2 ⟨rfl, rfl⟩
  have LT0 := F_1.lt
  go_wp2_with fail
  refine (HDC.out _ R_1).mono ?_
  rintro e w2 ⟨rfl, y2⟩
  have R_2 := (R_1.on y2).alloc (.cells #[.int .i64 LO, .int .i64 HI, .int .i64 VV, .int .i64 (TT : Nat)] 62)
  have D_2 := (D_1.on y2).alloc (.cells #[.int .i64 LO, .int .i64 HI, .int .i64 VV, .int .i64 (TT : Nat)] 62)
  have B_2 := (B_1.on y2).alloc (.cells #[.int .i64 LO, .int .i64 HI, .int .i64 VV, .int .i64 (TT : Nat)] 62)
  have X_2 := (X_1.on y2).alloc (.cells #[.int .i64 LO, .int .i64 HI, .int .i64 VV, .int .i64 (TT : Nat)] 62)
  have F_2 := (F_1.on y2).alloc (.cells #[.int .i64 LO, .int .i64 HI, .int .i64 VV, .int .i64 (TT : Nat)] 62)
  have N_2 := (Four.new w2 62 (.int .i64 LO) (.int .i64 HI) (.int .i64 VV) (.int .i64 (TT : Nat)))
  clear R_1 D_1 D_1_c0 D_1_c1 D_1_c2 D_1_c3 B_1 B_1_c0 B_1_c1 X_1 X_1_c0 X_1_c1 X_1_c2 X_1_c3 X_1_f0 X_1_f1 X_1_f2 X_1_f3 F_1 F_1_c0 F_1_c1 F_1_f0 F_1_f1
  have z2 := Z1.trans (y2.mono Z1.size)
  have Z2 := (z2).alloc (by have := z2.size; omega) (.cells #[.int .i64 LO, .int .i64 HI, .int .i64 VV, .int .i64 (TT : Nat)] 62)
  have D_2_c0 := D_2.c0
  have D_2_c1 := D_2.c1
  have D_2_c2 := D_2.c2
  have D_2_c3 := D_2.c3
  have B_2_c0 := B_2.c0
  have B_2_c1 := B_2.c1
  have X_2_c0 := X_2.c0
  have X_2_c1 := X_2.c1
  have X_2_c2 := X_2.c2
  have X_2_c3 := X_2.c3
  have X_2_f0 := X_2.f0
  have X_2_f1 := X_2.f1
  have X_2_f2 := X_2.f2
  have X_2_f3 := X_2.f3
  have F_2_c0 := F_2.c0
  have F_2_c1 := F_2.c1
  have F_2_f0 := F_2.f0
  have F_2_f1 := F_2.f1
  have N_2_c0 := N_2.c0
  have N_2_c1 := N_2.c1
  have N_2_c2 := N_2.c2
  have N_2_c3 := N_2.c3
  go_wp2_with fail
  refine (arfault_any _ _ _).mono ?_
  rintro e w3 ⟨rfl, y3⟩
  have R_3 := R_2.on y3
  have D_3 := D_2.on y3
  have B_3 := B_2.on y3
  have X_3 := X_2.on y3
  have F_3 := F_2.on y3
  have N_3 := N_2.on y3
  clear R_2 D_2 D_2_c0 D_2_c1 D_2_c2 D_2_c3 B_2 B_2_c0 B_2_c1 X_2 X_2_c0 X_2_c1 X_2_c2 X_2_c3 X_2_f0 X_2_f1 X_2_f2 X_2_f3 F_2 F_2_c0 F_2_c1 F_2_f0 F_2_f1 N_2 N_2_c0 N_2_c1 N_2_c2 N_2_c3
  have z3 := Z2.trans (y3.mono Z2.size)
  have Z3 := z3
  have D_3_c0 := D_3.c0
  have D_3_c1 := D_3.c1
  have D_3_c2 := D_3.c2
  have D_3_c3 := D_3.c3
  have B_3_c0 := B_3.c0
  have B_3_c1 := B_3.c1
  have X_3_c0 := X_3.c0
  have X_3_c1 := X_3.c1
  have X_3_c2 := X_3.c2
  have X_3_c3 := X_3.c3
  have X_3_f0 := X_3.f0
  have X_3_f1 := X_3.f1
  have X_3_f2 := X_3.f2
  have X_3_f3 := X_3.f3
  have F_3_c0 := F_3.c0
  have F_3_c1 := F_3.c1
  have F_3_f0 := F_3.f0
  have F_3_f1 := F_3.f1
  have N_3_c0 := N_3.c0
  have N_3_c1 := N_3.c1
  have N_3_c2 := N_3.c2
  have N_3_c3 := N_3.c3
  go_wp2
  have rX := (((((((X_3.set0 (.int .i64 0)).set1 (.int .i64 0)).set2 (.int .i64 0)).set3 (.int .i64 0)).far (p := ⟨w.heap.size + 3, 0, none⟩) (by simp) (.int .i64 15)).far (p := ⟨w.heap.size + 3, 1, none⟩) (by simp) (.int .i64 (-2))))
  have rX_0 := rX.c0
  have rX_1 := rX.c1
  have rX_2 := rX.c2
  have rX_3 := rX.c3
  have rF := (((((((F_3.far (p := ⟨w.heap.size + 2, 0, none⟩) (by simp) (.int .i64 0)).far (p := ⟨w.heap.size + 2, 1, none⟩) (by simp) (.int .i64 0)).far (p := ⟨w.heap.size + 2, 2, none⟩) (by simp) (.int .i64 0)).far (p := ⟨w.heap.size + 2, 3, none⟩) (by simp) (.int .i64 0)).set0 (.int .i64 15)).set1 (.int .i64 (-2))))
  have rF_0 := rF.c0
  have rF_1 := rF.c1
  exact bodyPost_ret (v := .tuple #[.int .i64 0, .agg #[.int .i64 0, .int .i64 0, .int .i64 0, .int .i64 0], .agg #[.int .i64 15, .int .i64 (-2)]]) (by simp [results, Try.results32, go_sem, rX_0, rX_1, rX_2, rX_3, rF_0, rF_1]) rfl ⟨rfl, ((((((Z3.setCell (p := ⟨w.heap.size + 2, 0, none⟩) (by simp) (.int .i64 0)).setCell (p := ⟨w.heap.size + 2, 1, none⟩) (by simp) (.int .i64 0)).setCell (p := ⟨w.heap.size + 2, 2, none⟩) (by simp) (.int .i64 0)).setCell (p := ⟨w.heap.size + 2, 3, none⟩) (by simp) (.int .i64 0)).setCell (p := ⟨w.heap.size + 3, 0, none⟩) (by simp) (.int .i64 15)).setCell (p := ⟨w.heap.size + 3, 1, none⟩) (by simp) (.int .i64 (-2)))⟩
set_option maxRecDepth 100000 in
set_option maxHeartbeats 1600000 in
theorem get_ok {A : Option Addr} {n c : Nat} {l : List Nat} {lo hi V p : Int} {t : Nat} {w : World} (h : Rd w A n c (bcells (pack l))) (h01 : Is01 l) (hl : l.length ≤ 131072) (hok : DecOk lo hi V (t : Nat)) (hp1 : 1 ≤ p) (hp2 : p ≤ 4095) (b : Nat) (LO HI VV : Int) (TT : Nat) (hb : b = pickb ⟨lo, hi, V, t⟩ p) (hLO : LO = (stp lo hi b p).1) (hHI : HI = (stp lo hi b p).2.1) (hVV : VV = dv l (stp lo hi b p).2.2 V t) (hTT : TT = t + (stp lo hi b p).2.2.length) (hbig : TT ≤ l.length + 14) :
    Calls Try.prog 32 #[.agg #[.int .i64 lo, .int .i64 hi, .int .i64 V, .int .i64 (t : Nat)], .agg #[.slice A n c, .int .i64 l.length], .int .i64 p] w fun e w' => e = .returned (.tuple #[.int .i64 (b : Nat), .agg #[.int .i64 LO, .int .i64 HI, .int .i64 VV, .int .i64 (TT : Nat)], .agg #[.int .i64 0, .int .i64 0]]) ∧ Below w.heap.size w w' := by
  obtain ⟨hw, ⟨h1, h2⟩, h3, h4⟩ := hok
  have HW := Lib.hid (fun (W : World) => wide_any lo hi true (by simp [hw]) W)
  have k1 : decide (V < lo) = false := by simp; omega
  have k2 : decide (hi < V) = false := by simp; omega
  have k3 : decide ((t : Int) < 16) = false := by simp; omega
  have k4 : decide (131086 < (t : Int)) = false := by simp; omega
  have HV := Lib.hid (fun (W : World) (hW : Rd W A n c (bcells (pack l))) => valid_list A n c l _ W hW (Nat.le_refl _) h01 hl)
  have HP := Lib.hid (show decide (1 ≤ p ∧ p ≤ 4095) = true from decide_eq_true ⟨hp1, hp2⟩)
  have hTb : TT ≤ 200000 := by rw [hTT]; have := (stp_facts b hw hp1 hp2).2.1; omega
  have HDC := Lib.hid (fun (W : World) (hW : Rd W A n c (bcells (pack l))) => decode_any hW h01 hl hw h1 h2 (by omega) hp1 hp2 b LO HI VV TT hb hLO hHI hVV hTT)
  have k5 : decide ((l.length : Int) + 14 < (TT : Int)) = false := by simp; omega
  clear hp1 hp2 hw h1 h2 h3 h4 h01 hb hLO hHI hVV hTT hbig
  have R_0 := ((((h).alloc (.cells #[.int .i64 lo, .int .i64 hi, .int .i64 V, .int .i64 (t : Nat)] 62)).alloc (.cells #[.slice A n c, .int .i64 l.length] 25)).alloc (.cells #[.int .i64 0, .int .i64 0, .int .i64 0, .int .i64 0] 62)).alloc (.cells #[.int .i64 0, .int .i64 0] 27)
  have D_0 := ((((Four.new w 62 (.int .i64 lo) (.int .i64 hi) (.int .i64 V) (.int .i64 (t : Nat)))).alloc (.cells #[.slice A n c, .int .i64 l.length] 25)).alloc (.cells #[.int .i64 0, .int .i64 0, .int .i64 0, .int .i64 0] 62)).alloc (.cells #[.int .i64 0, .int .i64 0] 27)
  have B_0 := (((Two.new1 w (.cells #[.int .i64 lo, .int .i64 hi, .int .i64 V, .int .i64 (t : Nat)] 62) 25 (.slice A n c) (.int .i64 l.length))).alloc (.cells #[.int .i64 0, .int .i64 0, .int .i64 0, .int .i64 0] 62)).alloc (.cells #[.int .i64 0, .int .i64 0] 27)
  have X_0 := ((Four.new2 w (.cells #[.int .i64 lo, .int .i64 hi, .int .i64 V, .int .i64 (t : Nat)] 62) (.cells #[.slice A n c, .int .i64 l.length] 25) 62 (.int .i64 0) (.int .i64 0) (.int .i64 0) (.int .i64 0))).alloc (.cells #[.int .i64 0, .int .i64 0] 27)
  have F_0 := (Two.new3 w (.cells #[.int .i64 lo, .int .i64 hi, .int .i64 V, .int .i64 (t : Nat)] 62) (.cells #[.slice A n c, .int .i64 l.length] 25) (.cells #[.int .i64 0, .int .i64 0, .int .i64 0, .int .i64 0] 62) 27 (.int .i64 0) (.int .i64 0))
  have Z0 := ((((Below.refl w.heap.size w).alloc (by simp) (.cells #[.int .i64 lo, .int .i64 hi, .int .i64 V, .int .i64 (t : Nat)] 62)).alloc (by simp) (.cells #[.slice A n c, .int .i64 l.length] 25)).alloc (by simp; omega) (.cells #[.int .i64 0, .int .i64 0, .int .i64 0, .int .i64 0] 62)).alloc (by simp; omega) (.cells #[.int .i64 0, .int .i64 0] 27)
  have D_0_c0 := D_0.c0
  have D_0_c1 := D_0.c1
  have D_0_c2 := D_0.c2
  have D_0_c3 := D_0.c3
  have B_0_c0 := B_0.c0
  have B_0_c1 := B_0.c1
  have X_0_c0 := X_0.c0
  have X_0_c1 := X_0.c1
  have X_0_c2 := X_0.c2
  have X_0_c3 := X_0.c3
  have X_0_f0 := X_0.f0
  have X_0_f1 := X_0.f1
  have X_0_f2 := X_0.f2
  have X_0_f3 := X_0.f3
  have F_0_c0 := F_0.c0
  have F_0_c1 := F_0.c1
  have F_0_f0 := F_0.f0
  have F_0_f1 := F_0.f1
  go_enter Try.func32, Try.ntmps32
  go_wp2_with fail
  refine (HW.out _).mono ?_
  rintro e w9_1 ⟨rfl, rfl⟩
  go_wp2_with fail
  refine (HV.out _ R_0).mono ?_
  rintro e w1 ⟨rfl, y1⟩
  have R_1 := R_0.on y1
  have D_1 := D_0.on y1
  have B_1 := B_0.on y1
  have X_1 := X_0.on y1
  have F_1 := F_0.on y1
  clear R_0 D_0 D_0_c0 D_0_c1 D_0_c2 D_0_c3 B_0 B_0_c0 B_0_c1 X_0 X_0_c0 X_0_c1 X_0_c2 X_0_c3 X_0_f0 X_0_f1 X_0_f2 X_0_f3 F_0 F_0_c0 F_0_c1 F_0_f0 F_0_f1
  have z1 := Z0.trans (y1.mono Z0.size)
  have Z1 := z1
  have D_1_c0 := D_1.c0
  have D_1_c1 := D_1.c1
  have D_1_c2 := D_1.c2
  have D_1_c3 := D_1.c3
  have B_1_c0 := B_1.c0
  have B_1_c1 := B_1.c1
  have X_1_c0 := X_1.c0
  have X_1_c1 := X_1.c1
  have X_1_c2 := X_1.c2
  have X_1_c3 := X_1.c3
  have X_1_f0 := X_1.f0
  have X_1_f1 := X_1.f1
  have X_1_f2 := X_1.f2
  have X_1_f3 := X_1.f3
  have F_1_c0 := F_1.c0
  have F_1_c1 := F_1.c1
  have F_1_f0 := F_1.f0
  have F_1_f1 := F_1.f1
  go_wp2_with fail
  refine (validp_yes _ HP.out _).mono ?_
  rintro e w9_2 ⟨rfl, rfl⟩
  have LT0 := F_1.lt
  go_wp2_with fail
  refine (HDC.out _ R_1).mono ?_
  rintro e w2 ⟨rfl, y2⟩
  have R_2 := (R_1.on y2).alloc (.cells #[.int .i64 LO, .int .i64 HI, .int .i64 VV, .int .i64 (TT : Nat)] 62)
  have D_2 := (D_1.on y2).alloc (.cells #[.int .i64 LO, .int .i64 HI, .int .i64 VV, .int .i64 (TT : Nat)] 62)
  have B_2 := (B_1.on y2).alloc (.cells #[.int .i64 LO, .int .i64 HI, .int .i64 VV, .int .i64 (TT : Nat)] 62)
  have X_2 := (X_1.on y2).alloc (.cells #[.int .i64 LO, .int .i64 HI, .int .i64 VV, .int .i64 (TT : Nat)] 62)
  have F_2 := (F_1.on y2).alloc (.cells #[.int .i64 LO, .int .i64 HI, .int .i64 VV, .int .i64 (TT : Nat)] 62)
  have N_2 := (Four.new w2 62 (.int .i64 LO) (.int .i64 HI) (.int .i64 VV) (.int .i64 (TT : Nat)))
  clear R_1 D_1 D_1_c0 D_1_c1 D_1_c2 D_1_c3 B_1 B_1_c0 B_1_c1 X_1 X_1_c0 X_1_c1 X_1_c2 X_1_c3 X_1_f0 X_1_f1 X_1_f2 X_1_f3 F_1 F_1_c0 F_1_c1 F_1_f0 F_1_f1
  have z2 := Z1.trans (y2.mono Z1.size)
  have Z2 := (z2).alloc (by have := z2.size; omega) (.cells #[.int .i64 LO, .int .i64 HI, .int .i64 VV, .int .i64 (TT : Nat)] 62)
  have D_2_c0 := D_2.c0
  have D_2_c1 := D_2.c1
  have D_2_c2 := D_2.c2
  have D_2_c3 := D_2.c3
  have B_2_c0 := B_2.c0
  have B_2_c1 := B_2.c1
  have X_2_c0 := X_2.c0
  have X_2_c1 := X_2.c1
  have X_2_c2 := X_2.c2
  have X_2_c3 := X_2.c3
  have X_2_f0 := X_2.f0
  have X_2_f1 := X_2.f1
  have X_2_f2 := X_2.f2
  have X_2_f3 := X_2.f3
  have F_2_c0 := F_2.c0
  have F_2_c1 := F_2.c1
  have F_2_f0 := F_2.f0
  have F_2_f1 := F_2.f1
  have N_2_c0 := N_2.c0
  have N_2_c1 := N_2.c1
  have N_2_c2 := N_2.c2
  have N_2_c3 := N_2.c3
  have ap0 : w.heap.size + 3 < w2.heap.size := by have := LT0; have := y2.size; (try simp at *); omega
  have ap0_0 : w2.heap.size ≠ w.heap.size := by omega
  have ap0_0r : w.heap.size ≠ w2.heap.size := by omega
  have ap0_1 : w2.heap.size ≠ w.heap.size + 1 := by omega
  have ap0_1r : w.heap.size + 1 ≠ w2.heap.size := by omega
  have ap0_2 : w2.heap.size ≠ w.heap.size + 1 + 1 := by omega
  have ap0_2r : w.heap.size + 1 + 1 ≠ w2.heap.size := by omega
  have ap0_3 : w2.heap.size ≠ w.heap.size + 1 + 1 + 1 := by omega
  have ap0_3r : w.heap.size + 1 + 1 + 1 ≠ w2.heap.size := by omega
  go_wp2_with fail
  go_region
  go_wp2
  have rX := (((((((X_2.set0 (.int .i64 LO)).set1 (.int .i64 HI)).set2 (.int .i64 VV)).set3 (.int .i64 (TT : Nat))).far (p := ⟨w.heap.size + 3, 0, none⟩) (by simp) (.int .i64 0)).far (p := ⟨w.heap.size + 3, 1, none⟩) (by simp) (.int .i64 0))).drew
  have rX_0 := rX.c0
  have rX_1 := rX.c1
  have rX_2 := rX.c2
  have rX_3 := rX.c3
  have rF := (((((((F_2.far (p := ⟨w.heap.size + 2, 0, none⟩) (by simp) (.int .i64 LO)).far (p := ⟨w.heap.size + 2, 1, none⟩) (by simp) (.int .i64 HI)).far (p := ⟨w.heap.size + 2, 2, none⟩) (by simp) (.int .i64 VV)).far (p := ⟨w.heap.size + 2, 3, none⟩) (by simp) (.int .i64 (TT : Nat))).set0 (.int .i64 0)).set1 (.int .i64 0))).drew
  have rF_0 := rF.c0
  have rF_1 := rF.c1
  exact bodyPost_ret (v := .tuple #[.int .i64 (b : Nat), .agg #[.int .i64 LO, .int .i64 HI, .int .i64 VV, .int .i64 (TT : Nat)], .agg #[.int .i64 0, .int .i64 0]]) (by simp [results, Try.results32, go_sem, rX_0, rX_1, rX_2, rX_3, rF_0, rF_1]) rfl ⟨rfl, (belowD ((((((Z2.setCell (p := ⟨w.heap.size + 2, 0, none⟩) (by simp) (.int .i64 LO)).setCell (p := ⟨w.heap.size + 2, 1, none⟩) (by simp) (.int .i64 HI)).setCell (p := ⟨w.heap.size + 2, 2, none⟩) (by simp) (.int .i64 VV)).setCell (p := ⟨w.heap.size + 2, 3, none⟩) (by simp) (.int .i64 (TT : Nat))).setCell (p := ⟨w.heap.size + 3, 0, none⟩) (by simp) (.int .i64 0)).setCell (p := ⟨w.heap.size + 3, 1, none⟩) (by simp) (.int .i64 0)))⟩
end PB
end Go.Proofs.Ytnnpkajmheglgaa
