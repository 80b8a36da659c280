/-
  The closed examples of package rank: ranks answers true.
-/
import Derived.Test.YtckimocmppdecaaRows
import Derived.Test.YtckimocmppdecaaRankF
import Derived.Deep.RegionHeld3
import Derived.Deep.DrawnRows
namespace Go.Proofs.Ytckimocmppdecaa
open Go.RowKit
attribute [local go_sem ↓] Go.wp_at_zero Go.wp_at_succ
set_option linter.unusedVariables false
set_option linter.unusedSimpArgs false
namespace PB
theorem rk_ok2 {A : Option Addr} {n c : Nat} {l : List Nat} {A2 : Option Addr} {n2 c2 : Nat} {i r : Nat} {ii ri ci : Int} {w : World} (hii : ii = (i : Nat)) (hri : ri = (r : Nat)) (hci : ci = (l.length : Nat)) (hi : i ≤ l.length) (hr : r = ones (l.take i)) (h : Rd w A n c (bcells (pack l))) (h2 : Rd w A2 n2 c2 (ncells (sumsL l))) (h01 : Is01 l) (hl : l.length ≤ 131072) :
    Calls Try.prog 16 #[.agg #[.slice A n c, .int .i64 ci, .slice A2 n2 c2], .int .i64 ii] w fun e w' => e = .returned (.tuple #[.int .i64 ri, .agg #[.int .i64 0, .int .i64 0]]) ∧ Below w.heap.size w w' := by
  subst hii hri hci
  exact rk_ok hi hr h h2 h01 hl
theorem sel_ok2 {A : Option Addr} {n c : Nat} {l : List Nat} {A2 : Option Addr} {n2 c2 : Nat} {k p : Nat} {ki pi ci : Int} {w : World} (hki : ki = (k : Nat)) (hpi : pi = (p : Nat)) (hci : ci = (l.length : Nat)) (hk : k < 9223372036854775808) (hp : PlaceAt l k 1 p) (h : Rd w A n c (bcells (pack l))) (h2 : Rd w A2 n2 c2 (ncells (sumsL l))) (h01 : Is01 l) (hl : l.length ≤ 131072) :
    Calls Try.prog 17 #[.agg #[.slice A n c, .int .i64 ci, .slice A2 n2 c2], .int .i64 ki] w fun e w' => e = .returned (.tuple #[.int .i64 pi, .agg #[.int .i64 0, .int .i64 0]]) ∧ Below w.heap.size w w' := by
  subst hki hpi hci
  exact sel_any hk (.inr ⟨hp, rfl, rfl⟩) h h2 h01 hl
theorem selz_ok2 {A : Option Addr} {n c : Nat} {l : List Nat} {A2 : Option Addr} {n2 c2 : Nat} {k p : Nat} {ki pi ci : Int} {w : World} (hki : ki = (k : Nat)) (hpi : pi = (p : Nat)) (hci : ci = (l.length : Nat)) (hk : k < 9223372036854775808) (hp : PlaceAt l k 0 p) (h : Rd w A n c (bcells (pack l))) (h2 : Rd w A2 n2 c2 (ncells (sumsL l))) (h01 : Is01 l) (hl : l.length ≤ 131072) :
    Calls Try.prog 18 #[.agg #[.slice A n c, .int .i64 ci, .slice A2 n2 c2], .int .i64 ki] w fun e w' => e = .returned (.tuple #[.int .i64 pi, .agg #[.int .i64 0, .int .i64 0]]) ∧ Below w.heap.size w w' := by
  subst hki hpi hci
  exact selz_any hk (.inr ⟨hp, rfl, rfl⟩) h h2 h01 hl
theorem rrank_ok2 {A : Option Addr} {n c : Nat} {l : List Nat} {A2 : Option Addr} {n2 c2 : Nat} {ii ri ci : Int} {r : Nat} {w : World} (hri : ri = (r : Nat)) (hci : ci = (l.length : Nat)) (h : Rd w A n c (bcells (pack l))) (h2 : Rd w A2 n2 c2 (ncells (sumsL l))) (h01 : Is01 l) (hl : l.length ≤ 131072) (hlo : -9223372036854775808 ≤ ii) (hhi : ii ≤ 9223372036854775807) (hr : r = ones (l.take ii.toNat)) :
    Calls Try.prog 25 #[.agg #[.slice A n c, .int .i64 ci, .slice A2 n2 c2], .int .i64 ii] w fun e w' => e = .returned (.int .i64 ri) ∧ Below w.heap.size w w' := by
  subst hri hci
  exact rrank_meth h h2 h01 hl hlo hhi hr
theorem rbit_ok2 {A : Option Addr} {n c : Nat} {l : List Nat} {A2 : Option Addr} {n2 c2 : Nat} {ii ci : Int} {r : Bool} {w : World} (hci : ci = (l.length : Nat)) (h : Rd w A n c (bcells (pack l))) (h2 : Rd w A2 n2 c2 (ncells (sumsL l))) (h01 : Is01 l) (hl : l.length ≤ 131072) (hlo : -9223372036854775808 ≤ ii) (hhi : ii ≤ 9223372036854775807) (hr : r = BitIs l ii) :
    Calls Try.prog 24 #[.agg #[.slice A n c, .int .i64 ci, .slice A2 n2 c2], .int .i64 ii] w fun e w' => e = .returned (.bool r) ∧ Below w.heap.size w w' := by
  subst hci
  exact rbit_meth h h2 h01 hl hlo hhi hr
theorem e01 : Is01 [0, 1, 1, 0, 1] := Is01.of_mem (by simp)
theorem elen : ([0, 1, 1, 0, 1] : List Nat).length ≤ 131072 := by decide
theorem Rd.lit1 (w : World) (t : TypeId) (v : Value) : Rd (w.alloc (.cells #[v] t)) (some ⟨w.heap.size, 0, none⟩) 1 1 [v] := by
  refine ⟨rfl, Nat.le_refl _, by decide, fun _ => ⟨w.heap.size, 0, rfl, by simp, fun j y hj => ?_⟩⟩
  have := one_new w w.heap.size rfl v t j y hj
  have e : (⟨w.heap.size, 0, none⟩ : Addr).add j = ⟨w.heap.size, 0 + j, none⟩ := by
    unfold Addr.add
    by_cases hj : j = 0 <;> simp [hj]
  rw [e] at this
  exact this
theorem e_bytes : bcells (pack [0, 1, 1, 0, 1]) = [.int .u8 104] := rfl
theorem e_sums : icells (isums [0, 1, 1, 0, 1]) = [.int .i64 0] := rfl
theorem build_ex {A : Option Addr} {n c : Nat} {w : World} (h : Rd w A n c (bcells (pack [0, 1, 1, 0, 1]))) :
    Calls Try.prog 8 #[.agg #[.slice A n c, .int .i64 5]] w fun e w' => ∃ A1 c1 A2 n2 c2, e = .returned (.tuple #[.agg #[.slice A1 n c1, .int .i64 5, .slice A2 n2 c2], .agg #[.int .i64 0, .int .i64 0]]) ∧
      Rd w' A1 n c1 (bcells (pack [0, 1, 1, 0, 1])) ∧ Rd w' A2 n2 c2 (ncells (sumsL [0, 1, 1, 0, 1])) ∧ Below w.heap.size w w' := build_ok h e01 elen
theorem open_ex {A : Option Addr} {n c : Nat} {w : World} (h : Rd w A n c (bcells (pack [0, 1, 1, 0, 1]))) :
    Calls Try.prog 23 #[.agg #[.slice A n c, .int .i64 5]] w fun e w' => ∃ A1 c1 A2 n2 c2, e = .returned (.tuple #[.agg #[.slice A1 n c1, .int .i64 5, .slice A2 n2 c2], .agg #[.int .i64 0, .int .i64 0]]) ∧
      Rd w' A1 n c1 (bcells (pack [0, 1, 1, 0, 1])) ∧ Rd w' A2 n2 c2 (ncells (sumsL [0, 1, 1, 0, 1])) ∧ Below w.heap.size w w' := open_ok h e01 elen
theorem rk_ex {A : Option Addr} {n c : Nat} {A2 : Option Addr} {n2 c2 : Nat} {w : World} (h : Rd w A n c (bcells (pack [0, 1, 1, 0, 1]))) (h2 : Rd w A2 n2 c2 (ncells (sumsL [0, 1, 1, 0, 1]))) :
    Calls Try.prog 16 #[.agg #[.slice A n c, .int .i64 5, .slice A2 n2 c2], .int .i64 3] w fun e w' => e = .returned (.tuple #[.int .i64 2, .agg #[.int .i64 0, .int .i64 0]]) ∧ Below w.heap.size w w' := rk_ok2 (i := 3) (r := 2) rfl rfl rfl (by decide) (by decide) h h2 e01 elen
theorem sel_ex {A : Option Addr} {n c : Nat} {A2 : Option Addr} {n2 c2 : Nat} {w : World} (h : Rd w A n c (bcells (pack [0, 1, 1, 0, 1]))) (h2 : Rd w A2 n2 c2 (ncells (sumsL [0, 1, 1, 0, 1]))) :
    Calls Try.prog 17 #[.agg #[.slice A n c, .int .i64 5, .slice A2 n2 c2], .int .i64 2] w fun e w' => e = .returned (.tuple #[.int .i64 4, .agg #[.int .i64 0, .int .i64 0]]) ∧ Below w.heap.size w w' := sel_ok2 (k := 2) (p := 4) rfl rfl rfl (by decide) ⟨by decide, by decide, by decide⟩ h h2 e01 elen
theorem selz_ex {A : Option Addr} {n c : Nat} {A2 : Option Addr} {n2 c2 : Nat} {w : World} (h : Rd w A n c (bcells (pack [0, 1, 1, 0, 1]))) (h2 : Rd w A2 n2 c2 (ncells (sumsL [0, 1, 1, 0, 1]))) :
    Calls Try.prog 18 #[.agg #[.slice A n c, .int .i64 5, .slice A2 n2 c2], .int .i64 1] w fun e w' => e = .returned (.tuple #[.int .i64 3, .agg #[.int .i64 0, .int .i64 0]]) ∧ Below w.heap.size w w' := selz_ok2 (k := 1) (p := 3) rfl rfl rfl (by decide) ⟨by decide, by decide, by decide⟩ h h2 e01 elen
theorem rrank_ex {A : Option Addr} {n c : Nat} {A2 : Option Addr} {n2 c2 : Nat} {w : World} (h : Rd w A n c (bcells (pack [0, 1, 1, 0, 1]))) (h2 : Rd w A2 n2 c2 (ncells (sumsL [0, 1, 1, 0, 1]))) :
    Calls Try.prog 25 #[.agg #[.slice A n c, .int .i64 5, .slice A2 n2 c2], .int .i64 100] w fun e w' => e = .returned (.int .i64 3) ∧ Below w.heap.size w w' := rrank_ok2 (ii := 100) (r := 3) rfl rfl h h2 e01 elen (by decide) (by decide) (by decide)
theorem rbit1_ex {A : Option Addr} {n c : Nat} {A2 : Option Addr} {n2 c2 : Nat} {w : World} (h : Rd w A n c (bcells (pack [0, 1, 1, 0, 1]))) (h2 : Rd w A2 n2 c2 (ncells (sumsL [0, 1, 1, 0, 1]))) :
    Calls Try.prog 24 #[.agg #[.slice A n c, .int .i64 5, .slice A2 n2 c2], .int .i64 1] w fun e w' => e = .returned (.bool true) ∧ Below w.heap.size w w' := rbit_ok2 (ii := 1) (r := true) rfl h h2 e01 elen (by decide) (by decide) (by decide)
theorem rbit5_ex {A : Option Addr} {n c : Nat} {A2 : Option Addr} {n2 c2 : Nat} {w : World} (h : Rd w A n c (bcells (pack [0, 1, 1, 0, 1]))) (h2 : Rd w A2 n2 c2 (ncells (sumsL [0, 1, 1, 0, 1]))) :
    Calls Try.prog 24 #[.agg #[.slice A n c, .int .i64 5, .slice A2 n2 c2], .int .i64 5] w fun e w' => e = .returned (.bool false) ∧ Below w.heap.size w w' := rbit_ok2 (ii := 5) (r := false) rfl h h2 e01 elen (by decide) (by decide) (by decide)
theorem samevec_ex {A : Option Addr} {n c : Nat} {A2 : Option Addr} {n2 c2 : Nat} {w : World} {A3 : Option Addr} {n3 c3 : Nat} {g : Nat} (h : Rd w A n c (bcells (pack [0, 1, 1, 0, 1]))) (h2 : Rd w A2 n2 c2 (ncells (sumsL [0, 1, 1, 0, 1]))) (h3 : Rd w A3 n3 c3 (bcells (pack [0, 1, 1, 0, 1]))) (hg : Rd w (some ⟨g, 0, none⟩) 1 1 [.int .i64 0]) :
    Calls Try.prog 14 #[.agg #[.slice A n c, .int .i64 5, .slice A2 n2 c2], .agg #[.slice A3 n3 c3, .int .i64 5, .slice (some ⟨g, 0, none⟩) 1 1]] w fun e w' => e = .returned (.bool true) ∧ Below w.heap.size w w' := by
  rw [isums_cells] at h2
  exact samevec_any h h2 h3 (by rw [e_sums]; exact hg) e01 5 5 rfl rfl
set_option maxRecDepth 100000 in
set_option maxHeartbeats 3200000 in
theorem ranks_true (w : World) :
    Calls Try.prog 10 #[] w fun e w' => e = .returned (.bool true) ∧ Below w.heap.size w w' := by
  go_enter Try.func10, Try.ntmps10
  have RB_0 := (Rd.lit1 w 5 (.int .u8 104)).alloc (.cells #[.slice (some ⟨w.heap.size, 0, none⟩) 1 1, .int .i64 5] 24)
  rw [← e_bytes] at RB_0
  have B_0 := Two.new1 w (.cells #[.int .u8 104] 5) 24 (.slice (some ⟨w.heap.size, 0, none⟩) 1 1) (.int .i64 5)
  have Z0 : Below w.heap.size w ((w.alloc (.cells #[.int .u8 104] 5)).alloc (.cells #[.slice (some ⟨w.heap.size, 0, none⟩) 1 1, .int .i64 5] 24)) := ((Below.refl _ _).alloc (Nat.le_refl _) _).alloc (by simp) _
  have B_0_c0 := B_0.c0
  have B_0_c1 := B_0.c1
  go_wp2_with fail
  refine (build_ex RB_0).mono ?_
  rintro e w1 ⟨A1, c1, A2, n2, c2, rfl, RV, SV, y1⟩
  have RB_1 := ((RB_0.on y1).alloc (.cells #[.slice A1 1 c1, .int .i64 5, .slice A2 n2 c2] 27)).alloc (.cells #[.int .i64 0, .int .i64 0] 29)
  have B_1 := ((B_0.on y1).alloc (.cells #[.slice A1 1 c1, .int .i64 5, .slice A2 n2 c2] 27)).alloc (.cells #[.int .i64 0, .int .i64 0] 29)
  have RV_1 := ((RV).alloc (.cells #[.slice A1 1 c1, .int .i64 5, .slice A2 n2 c2] 27)).alloc (.cells #[.int .i64 0, .int .i64 0] 29)
  have SV_1 := ((SV).alloc (.cells #[.slice A1 1 c1, .int .i64 5, .slice A2 n2 c2] 27)).alloc (.cells #[.int .i64 0, .int .i64 0] 29)
  have V_1 := ((Three.new w1 27 (.slice A1 1 c1) (.int .i64 5) (.slice A2 n2 c2))).alloc (.cells #[.int .i64 0, .int .i64 0] 29)
  have F_1 := (Two.new1 w1 (.cells #[.slice A1 1 c1, .int .i64 5, .slice A2 n2 c2] 27) 29 (.int .i64 0) (.int .i64 0))
  clear RB_0 B_0 B_0_c0 B_0_c1
  have z1 := Z0.trans (y1.mono Z0.size)
  have Z1 := ((z1).alloc (by have := z1.size; omega) (.cells #[.slice A1 1 c1, .int .i64 5, .slice A2 n2 c2] 27)).alloc (by have := z1.size; simp; omega) (.cells #[.int .i64 0, .int .i64 0] 29)
  have B_1_c0 := B_1.c0
  have B_1_c1 := B_1.c1
  have V_1_c0 := V_1.c0
  have V_1_c1 := V_1.c1
  have V_1_c2 := V_1.c2
  have F_1_c0 := F_1.c0
  have F_1_c1 := F_1.c1
  go_wp2_with fail
  refine (rk_ex RV_1 SV_1).mono ?_
  rintro e w2 ⟨rfl, y2⟩
  have RB_2 := (RB_1.on y2).alloc (.cells #[.int .i64 0, .int .i64 0] 29)
  have B_2 := (B_1.on y2).alloc (.cells #[.int .i64 0, .int .i64 0] 29)
  have RV_2 := (RV_1.on y2).alloc (.cells #[.int .i64 0, .int .i64 0] 29)
  have SV_2 := (SV_1.on y2).alloc (.cells #[.int .i64 0, .int .i64 0] 29)
  have V_2 := (V_1.on y2).alloc (.cells #[.int .i64 0, .int .i64 0] 29)
  have F_2 := (F_1.on y2).alloc (.cells #[.int .i64 0, .int .i64 0] 29)
  have E_2 := (Two.new w2 29 (.int .i64 0) (.int .i64 0))
  clear RB_1 B_1 B_1_c0 B_1_c1 RV_1 SV_1 V_1 V_1_c0 V_1_c1 V_1_c2 F_1 F_1_c0 F_1_c1
  have z2 := Z1.trans (y2.mono Z1.size)
  have Z2 := (z2).alloc (by have := z2.size; omega) (.cells #[.int .i64 0, .int .i64 0] 29)
  have B_2_c0 := B_2.c0
  have B_2_c1 := B_2.c1
  have V_2_c0 := V_2.c0
  have V_2_c1 := V_2.c1
  have V_2_c2 := V_2.c2
  have F_2_c0 := F_2.c0
  have F_2_c1 := F_2.c1
  have E_2_c0 := E_2.c0
  have E_2_c1 := E_2.c1
  go_wp2_with fail
  refine (sel_ex RV_2 SV_2).mono ?_
  rintro e w3 ⟨rfl, y3⟩
  have RB_3 := (RB_2.on y3).alloc (.cells #[.int .i64 0, .int .i64 0] 29)
  have B_3 := (B_2.on y3).alloc (.cells #[.int .i64 0, .int .i64 0] 29)
  have RV_3 := (RV_2.on y3).alloc (.cells #[.int .i64 0, .int .i64 0] 29)
  have SV_3 := (SV_2.on y3).alloc (.cells #[.int .i64 0, .int .i64 0] 29)
  have V_3 := (V_2.on y3).alloc (.cells #[.int .i64 0, .int .i64 0] 29)
  have F_3 := (F_2.on y3).alloc (.cells #[.int .i64 0, .int .i64 0] 29)
  have E_3 := (E_2.on y3).alloc (.cells #[.int .i64 0, .int .i64 0] 29)
  have H_3 := (Two.new w3 29 (.int .i64 0) (.int .i64 0))
  clear RB_2 B_2 B_2_c0 B_2_c1 RV_2 SV_2 V_2 V_2_c0 V_2_c1 V_2_c2 F_2 F_2_c0 F_2_c1 E_2 E_2_c0 E_2_c1
  have z3 := Z2.trans (y3.mono Z2.size)
  have Z3 := (z3).alloc (by have := z3.size; omega) (.cells #[.int .i64 0, .int .i64 0] 29)
  have B_3_c0 := B_3.c0
  have B_3_c1 := B_3.c1
  have V_3_c0 := V_3.c0
  have V_3_c1 := V_3.c1
  have V_3_c2 := V_3.c2
  have F_3_c0 := F_3.c0
  have F_3_c1 := F_3.c1
  have E_3_c0 := E_3.c0
  have E_3_c1 := E_3.c1
  have H_3_c0 := H_3.c0
  have H_3_c1 := H_3.c1
  go_wp2_with fail
  refine (selz_ex RV_3 SV_3).mono ?_
  rintro e w4 ⟨rfl, y4⟩
  have RB_4 := (RB_3.on y4).alloc (.cells #[.int .i64 0, .int .i64 0] 29)
  have B_4 := (B_3.on y4).alloc (.cells #[.int .i64 0, .int .i64 0] 29)
  have RV_4 := (RV_3.on y4).alloc (.cells #[.int .i64 0, .int .i64 0] 29)
  have SV_4 := (SV_3.on y4).alloc (.cells #[.int .i64 0, .int .i64 0] 29)
  have V_4 := (V_3.on y4).alloc (.cells #[.int .i64 0, .int .i64 0] 29)
  have F_4 := (F_3.on y4).alloc (.cells #[.int .i64 0, .int .i64 0] 29)
  have E_4 := (E_3.on y4).alloc (.cells #[.int .i64 0, .int .i64 0] 29)
  have H_4 := (H_3.on y4).alloc (.cells #[.int .i64 0, .int .i64 0] 29)
  have I_4 := (Two.new w4 29 (.int .i64 0) (.int .i64 0))
  clear RB_3 B_3 B_3_c0 B_3_c1 RV_3 SV_3 V_3 V_3_c0 V_3_c1 V_3_c2 F_3 F_3_c0 F_3_c1 E_3 E_3_c0 E_3_c1 H_3 H_3_c0 H_3_c1
  have z4 := Z3.trans (y4.mono Z3.size)
  have Z4 := (z4).alloc (by have := z4.size; omega) (.cells #[.int .i64 0, .int .i64 0] 29)
  have B_4_c0 := B_4.c0
  have B_4_c1 := B_4.c1
  have V_4_c0 := V_4.c0
  have V_4_c1 := V_4.c1
  have V_4_c2 := V_4.c2
  have F_4_c0 := F_4.c0
  have F_4_c1 := F_4.c1
  have E_4_c0 := E_4.c0
  have E_4_c1 := E_4.c1
  have H_4_c0 := H_4.c0
  have H_4_c1 := H_4.c1
  have I_4_c0 := I_4.c0
  have I_4_c1 := I_4.c1
  go_wp2_with fail
  refine (open_ex RB_4).mono ?_
  rintro e w5 ⟨A3, c3, A4, n4, c4, rfl, RR, SR, y5⟩
  have RB_5 := ((RB_4.on y5).alloc (.cells #[.slice A3 1 c3, .int .i64 5, .slice A4 n4 c4] 48)).alloc (.cells #[.int .i64 0, .int .i64 0] 29)
  have B_5 := ((B_4.on y5).alloc (.cells #[.slice A3 1 c3, .int .i64 5, .slice A4 n4 c4] 48)).alloc (.cells #[.int .i64 0, .int .i64 0] 29)
  have RV_5 := ((RV_4.on y5).alloc (.cells #[.slice A3 1 c3, .int .i64 5, .slice A4 n4 c4] 48)).alloc (.cells #[.int .i64 0, .int .i64 0] 29)
  have SV_5 := ((SV_4.on y5).alloc (.cells #[.slice A3 1 c3, .int .i64 5, .slice A4 n4 c4] 48)).alloc (.cells #[.int .i64 0, .int .i64 0] 29)
  have V_5 := ((V_4.on y5).alloc (.cells #[.slice A3 1 c3, .int .i64 5, .slice A4 n4 c4] 48)).alloc (.cells #[.int .i64 0, .int .i64 0] 29)
  have F_5 := ((F_4.on y5).alloc (.cells #[.slice A3 1 c3, .int .i64 5, .slice A4 n4 c4] 48)).alloc (.cells #[.int .i64 0, .int .i64 0] 29)
  have E_5 := ((E_4.on y5).alloc (.cells #[.slice A3 1 c3, .int .i64 5, .slice A4 n4 c4] 48)).alloc (.cells #[.int .i64 0, .int .i64 0] 29)
  have H_5 := ((H_4.on y5).alloc (.cells #[.slice A3 1 c3, .int .i64 5, .slice A4 n4 c4] 48)).alloc (.cells #[.int .i64 0, .int .i64 0] 29)
  have I_5 := ((I_4.on y5).alloc (.cells #[.slice A3 1 c3, .int .i64 5, .slice A4 n4 c4] 48)).alloc (.cells #[.int .i64 0, .int .i64 0] 29)
  have RR_5 := ((RR).alloc (.cells #[.slice A3 1 c3, .int .i64 5, .slice A4 n4 c4] 48)).alloc (.cells #[.int .i64 0, .int .i64 0] 29)
  have SR_5 := ((SR).alloc (.cells #[.slice A3 1 c3, .int .i64 5, .slice A4 n4 c4] 48)).alloc (.cells #[.int .i64 0, .int .i64 0] 29)
  have R_5 := ((Three.new w5 48 (.slice A3 1 c3) (.int .i64 5) (.slice A4 n4 c4))).alloc (.cells #[.int .i64 0, .int .i64 0] 29)
  have G_5 := (Two.new1 w5 (.cells #[.slice A3 1 c3, .int .i64 5, .slice A4 n4 c4] 48) 29 (.int .i64 0) (.int .i64 0))
  clear RB_4 B_4 B_4_c0 B_4_c1 RV_4 SV_4 V_4 V_4_c0 V_4_c1 V_4_c2 F_4 F_4_c0 F_4_c1 E_4 E_4_c0 E_4_c1 H_4 H_4_c0 H_4_c1 I_4 I_4_c0 I_4_c1
  have z5 := Z4.trans (y5.mono Z4.size)
  have Z5 := ((z5).alloc (by have := z5.size; omega) (.cells #[.slice A3 1 c3, .int .i64 5, .slice A4 n4 c4] 48)).alloc (by have := z5.size; simp; omega) (.cells #[.int .i64 0, .int .i64 0] 29)
  have B_5_c0 := B_5.c0
  have B_5_c1 := B_5.c1
  have V_5_c0 := V_5.c0
  have V_5_c1 := V_5.c1
  have V_5_c2 := V_5.c2
  have F_5_c0 := F_5.c0
  have F_5_c1 := F_5.c1
  have E_5_c0 := E_5.c0
  have E_5_c1 := E_5.c1
  have H_5_c0 := H_5.c0
  have H_5_c1 := H_5.c1
  have I_5_c0 := I_5.c0
  have I_5_c1 := I_5.c1
  have R_5_c0 := R_5.c0
  have R_5_c1 := R_5.c1
  have R_5_c2 := R_5.c2
  have G_5_c0 := G_5.c0
  have G_5_c1 := G_5.c1
  have RB_6 := RB_5.alloc (.cells #[.int .i64 0] 3)
  have B_6 := B_5.alloc (.cells #[.int .i64 0] 3)
  have RV_6 := RV_5.alloc (.cells #[.int .i64 0] 3)
  have SV_6 := SV_5.alloc (.cells #[.int .i64 0] 3)
  have V_6 := V_5.alloc (.cells #[.int .i64 0] 3)
  have F_6 := F_5.alloc (.cells #[.int .i64 0] 3)
  have E_6 := E_5.alloc (.cells #[.int .i64 0] 3)
  have H_6 := H_5.alloc (.cells #[.int .i64 0] 3)
  have I_6 := I_5.alloc (.cells #[.int .i64 0] 3)
  have RR_6 := RR_5.alloc (.cells #[.int .i64 0] 3)
  have SR_6 := SR_5.alloc (.cells #[.int .i64 0] 3)
  have R_6 := R_5.alloc (.cells #[.int .i64 0] 3)
  have G_6 := G_5.alloc (.cells #[.int .i64 0] 3)
  have Z6 := Z5.alloc Z5.size (.cells #[.int .i64 0] 3)
  have B_6_c0 := B_6.c0
  have B_6_c1 := B_6.c1
  have V_6_c0 := V_6.c0
  have V_6_c1 := V_6.c1
  have V_6_c2 := V_6.c2
  have F_6_c0 := F_6.c0
  have F_6_c1 := F_6.c1
  have E_6_c0 := E_6.c0
  have E_6_c1 := E_6.c1
  have H_6_c0 := H_6.c0
  have H_6_c1 := H_6.c1
  have I_6_c0 := I_6.c0
  have I_6_c1 := I_6.c1
  have R_6_c0 := R_6.c0
  have R_6_c1 := R_6.c1
  have R_6_c2 := R_6.c2
  have G_6_c0 := G_6.c0
  have G_6_c1 := G_6.c1
  have LL := Rd.lit1 ((w5.alloc (.cells #[.slice A3 1 c3, .int .i64 5, .slice A4 n4 c4] 48)).alloc (.cells #[.int .i64 0, .int .i64 0] 29)) 3 (.int .i64 0)
  go_wp2_with fail
  refine (samevec_ex RV_6 SV_6 RB_6 (by first | exact LL | simpa using LL)).mono ?_
  rintro e w7 ⟨rfl, y7⟩
  have RB_7 := RB_6.on y7
  have B_7 := B_6.on y7
  have RV_7 := RV_6.on y7
  have SV_7 := SV_6.on y7
  have V_7 := V_6.on y7
  have F_7 := F_6.on y7
  have E_7 := E_6.on y7
  have H_7 := H_6.on y7
  have I_7 := I_6.on y7
  have RR_7 := RR_6.on y7
  have SR_7 := SR_6.on y7
  have R_7 := R_6.on y7
  have G_7 := G_6.on y7
  clear RB_5 B_5 B_5_c0 B_5_c1 RV_5 SV_5 V_5 V_5_c0 V_5_c1 V_5_c2 F_5 F_5_c0 F_5_c1 E_5 E_5_c0 E_5_c1 H_5 H_5_c0 H_5_c1 I_5 I_5_c0 I_5_c1 RR_5 SR_5 R_5 R_5_c0 R_5_c1 R_5_c2 G_5 G_5_c0 G_5_c1 RB_6 B_6 B_6_c0 B_6_c1 RV_6 SV_6 V_6 V_6_c0 V_6_c1 V_6_c2 F_6 F_6_c0 F_6_c1 E_6 E_6_c0 E_6_c1 H_6 H_6_c0 H_6_c1 I_6 I_6_c0 I_6_c1 RR_6 SR_6 R_6 R_6_c0 R_6_c1 R_6_c2 G_6 G_6_c0 G_6_c1
  have z7 := Z6.trans (y7.mono Z6.size)
  have Z7 := z7
  have B_7_c0 := B_7.c0
  have B_7_c1 := B_7.c1
  have V_7_c0 := V_7.c0
  have V_7_c1 := V_7.c1
  have V_7_c2 := V_7.c2
  have F_7_c0 := F_7.c0
  have F_7_c1 := F_7.c1
  have E_7_c0 := E_7.c0
  have E_7_c1 := E_7.c1
  have H_7_c0 := H_7.c0
  have H_7_c1 := H_7.c1
  have I_7_c0 := I_7.c0
  have I_7_c1 := I_7.c1
  have R_7_c0 := R_7.c0
  have R_7_c1 := R_7.c1
  have R_7_c2 := R_7.c2
  have G_7_c0 := G_7.c0
  have G_7_c1 := G_7.c1
  go_wp2_with fail
  refine (rlen_any _).mono ?_
  rintro e w8 ⟨rfl, y8⟩
  have RB_8 := RB_7.on y8
  have B_8 := B_7.on y8
  have RV_8 := RV_7.on y8
  have SV_8 := SV_7.on y8
  have V_8 := V_7.on y8
  have F_8 := F_7.on y8
  have E_8 := E_7.on y8
  have H_8 := H_7.on y8
  have I_8 := I_7.on y8
  have RR_8 := RR_7.on y8
  have SR_8 := SR_7.on y8
  have R_8 := R_7.on y8
  have G_8 := G_7.on y8
  clear RB_7 B_7 B_7_c0 B_7_c1 RV_7 SV_7 V_7 V_7_c0 V_7_c1 V_7_c2 F_7 F_7_c0 F_7_c1 E_7 E_7_c0 E_7_c1 H_7 H_7_c0 H_7_c1 I_7 I_7_c0 I_7_c1 RR_7 SR_7 R_7 R_7_c0 R_7_c1 R_7_c2 G_7 G_7_c0 G_7_c1
  have z8 := Z7.trans (y8.mono Z7.size)
  have Z8 := z8
  have B_8_c0 := B_8.c0
  have B_8_c1 := B_8.c1
  have V_8_c0 := V_8.c0
  have V_8_c1 := V_8.c1
  have V_8_c2 := V_8.c2
  have F_8_c0 := F_8.c0
  have F_8_c1 := F_8.c1
  have E_8_c0 := E_8.c0
  have E_8_c1 := E_8.c1
  have H_8_c0 := H_8.c0
  have H_8_c1 := H_8.c1
  have I_8_c0 := I_8.c0
  have I_8_c1 := I_8.c1
  have R_8_c0 := R_8.c0
  have R_8_c1 := R_8.c1
  have R_8_c2 := R_8.c2
  have G_8_c0 := G_8.c0
  have G_8_c1 := G_8.c1
  go_wp2_with fail
  refine (rrank_ex RR_8 SR_8).mono ?_
  rintro e w9 ⟨rfl, y9⟩
  have RB_9 := RB_8.on y9
  have B_9 := B_8.on y9
  have RV_9 := RV_8.on y9
  have SV_9 := SV_8.on y9
  have V_9 := V_8.on y9
  have F_9 := F_8.on y9
  have E_9 := E_8.on y9
  have H_9 := H_8.on y9
  have I_9 := I_8.on y9
  have RR_9 := RR_8.on y9
  have SR_9 := SR_8.on y9
  have R_9 := R_8.on y9
  have G_9 := G_8.on y9
  clear RB_8 B_8 B_8_c0 B_8_c1 RV_8 SV_8 V_8 V_8_c0 V_8_c1 V_8_c2 F_8 F_8_c0 F_8_c1 E_8 E_8_c0 E_8_c1 H_8 H_8_c0 H_8_c1 I_8 I_8_c0 I_8_c1 RR_8 SR_8 R_8 R_8_c0 R_8_c1 R_8_c2 G_8 G_8_c0 G_8_c1
  have z9 := Z8.trans (y9.mono Z8.size)
  have Z9 := z9
  have B_9_c0 := B_9.c0
  have B_9_c1 := B_9.c1
  have V_9_c0 := V_9.c0
  have V_9_c1 := V_9.c1
  have V_9_c2 := V_9.c2
  have F_9_c0 := F_9.c0
  have F_9_c1 := F_9.c1
  have E_9_c0 := E_9.c0
  have E_9_c1 := E_9.c1
  have H_9_c0 := H_9.c0
  have H_9_c1 := H_9.c1
  have I_9_c0 := I_9.c0
  have I_9_c1 := I_9.c1
  have R_9_c0 := R_9.c0
  have R_9_c1 := R_9.c1
  have R_9_c2 := R_9.c2
  have G_9_c0 := G_9.c0
  have G_9_c1 := G_9.c1
  go_wp2_with fail
  refine (rbit1_ex RR_9 SR_9).mono ?_
  rintro e w10 ⟨rfl, y10⟩
  have RB_10 := RB_9.on y10
  have B_10 := B_9.on y10
  have RV_10 := RV_9.on y10
  have SV_10 := SV_9.on y10
  have V_10 := V_9.on y10
  have F_10 := F_9.on y10
  have E_10 := E_9.on y10
  have H_10 := H_9.on y10
  have I_10 := I_9.on y10
  have RR_10 := RR_9.on y10
  have SR_10 := SR_9.on y10
  have R_10 := R_9.on y10
  have G_10 := G_9.on y10
  clear RB_9 B_9 B_9_c0 B_9_c1 RV_9 SV_9 V_9 V_9_c0 V_9_c1 V_9_c2 F_9 F_9_c0 F_9_c1 E_9 E_9_c0 E_9_c1 H_9 H_9_c0 H_9_c1 I_9 I_9_c0 I_9_c1 RR_9 SR_9 R_9 R_9_c0 R_9_c1 R_9_c2 G_9 G_9_c0 G_9_c1
  have z10 := Z9.trans (y10.mono Z9.size)
  have Z10 := z10
  have B_10_c0 := B_10.c0
  have B_10_c1 := B_10.c1
  have V_10_c0 := V_10.c0
  have V_10_c1 := V_10.c1
  have V_10_c2 := V_10.c2
  have F_10_c0 := F_10.c0
  have F_10_c1 := F_10.c1
  have E_10_c0 := E_10.c0
  have E_10_c1 := E_10.c1
  have H_10_c0 := H_10.c0
  have H_10_c1 := H_10.c1
  have I_10_c0 := I_10.c0
  have I_10_c1 := I_10.c1
  have R_10_c0 := R_10.c0
  have R_10_c1 := R_10.c1
  have R_10_c2 := R_10.c2
  have G_10_c0 := G_10.c0
  have G_10_c1 := G_10.c1
  go_wp2_with fail
  refine (rbit5_ex RR_10 SR_10).mono ?_
  rintro e w11 ⟨rfl, y11⟩
  have RB_11 := RB_10.on y11
  have B_11 := B_10.on y11
  have RV_11 := RV_10.on y11
  have SV_11 := SV_10.on y11
  have V_11 := V_10.on y11
  have F_11 := F_10.on y11
  have E_11 := E_10.on y11
  have H_11 := H_10.on y11
  have I_11 := I_10.on y11
  have RR_11 := RR_10.on y11
  have SR_11 := SR_10.on y11
  have R_11 := R_10.on y11
  have G_11 := G_10.on y11
  clear RB_10 B_10 B_10_c0 B_10_c1 RV_10 SV_10 V_10 V_10_c0 V_10_c1 V_10_c2 F_10 F_10_c0 F_10_c1 E_10 E_10_c0 E_10_c1 H_10 H_10_c0 H_10_c1 I_10 I_10_c0 I_10_c1 RR_10 SR_10 R_10 R_10_c0 R_10_c1 R_10_c2 G_10 G_10_c0 G_10_c1
  have z11 := Z10.trans (y11.mono Z10.size)
  have Z11 := z11
  have B_11_c0 := B_11.c0
  have B_11_c1 := B_11.c1
  have V_11_c0 := V_11.c0
  have V_11_c1 := V_11.c1
  have V_11_c2 := V_11.c2
  have F_11_c0 := F_11.c0
  have F_11_c1 := F_11.c1
  have E_11_c0 := E_11.c0
  have E_11_c1 := E_11.c1
  have H_11_c0 := H_11.c0
  have H_11_c1 := H_11.c1
  have I_11_c0 := I_11.c0
  have I_11_c1 := I_11.c1
  have R_11_c0 := R_11.c0
  have R_11_c1 := R_11.c1
  have R_11_c2 := R_11.c2
  have G_11_c0 := G_11.c0
  have G_11_c1 := G_11.c1
  go_wp2
  go_ret
  exact ⟨rfl, Z11⟩
end PB
end Go.Proofs.Ytckimocmppdecaa
