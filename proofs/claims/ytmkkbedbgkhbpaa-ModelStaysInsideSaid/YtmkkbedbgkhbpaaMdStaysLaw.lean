/-
  No bit is ever predicted for certain: the walk of the statement ModelStaysInside.
-/
import Derived.Test.YtmkkbedbgkhbpaaRows
import Derived.Test.YtmkkbedbgkhbpaaMdEx
import Derived.Deep.RegionHeld3
import Derived.Deep.DrawnRows
import Derived.Deep.Cut
namespace Go.Proofs.Ytmkkbedbgkhbpaa
open Go.RowKit
attribute [local go_sem ↓] Go.wp_at_zero Go.wp_at_succ
set_option linter.unusedVariables false
set_option linter.unusedSimpArgs false
namespace PB
set_option maxRecDepth 100000 in
set_option maxHeartbeats 1600000 in
theorem ms_bad {A : Option Addr} {n c : Nat} {xs : List Int} {oi code idx : Int} (hC : POut oi xs code idx) (hc : code ≠ 0) (w : World) (h : Rd w A n c (icells xs)) :
    Calls Try.prog 4 #[.int .i64 oi, .slice A n c] w fun e w' => e = .returned (.bool true) ∧ Below w.heap.size w w' := by
  have hn := h.len
  simp only [icells, List.length_map] at hn
  subst hn
  have hcap := Reads.cap h
  have hcm := Reads.capMax h
  unfold maxLen at hcm
  have hc2 : (code != 0) = true := by rw [bne_iff_ne]; exact hc
  have hc3 : (code == 0) = false := by rw [beq_eq_false_iff_ne]; exact hc
  have HPR := Lib.hid (fun (W : World) (hW : Rd W A xs.length c (icells xs)) => mpredict_any hW oi code idx hC [] (by rw [if_neg hc]) 0 rfl)
  clear hC hc
  have C_0 := h
  have Z0 := Below.refl w.heap.size w
  go_enter Try.func4, Try.ntmps4
  go_wp2_with fail
  refine (HPR.out _ C_0).mono ?_
  rintro e w1 ⟨A1, c1, rfl, R1, y1⟩
  have C_1 := (C_0.on y1).alloc (.cells #[.int .i64 code, .int .i64 idx] 24)
  have R_1 := (R1).alloc (.cells #[.int .i64 code, .int .i64 idx] 24)
  have F_1 := (Two.new w1 24 (.int .i64 code) (.int .i64 idx))
  clear C_0
  have z1 := Z0.trans (y1.mono Z0.size)
  have Z1 := (z1).alloc (by have := z1.size; omega) (.cells #[.int .i64 code, .int .i64 idx] 24)
  have F_1_c0 := F_1.c0
  have F_1_c1 := F_1.c1
  go_wp2_with fail
  refine (predicts_true _).mono ?_
  rintro e w2 ⟨rfl, y2⟩
  have C_2 := C_1.on y2
  have R_2 := R_1.on y2
  have F_2 := F_1.on y2
  clear C_1 R_1 F_1 F_1_c0 F_1_c1
  have z2 := Z1.trans (y2.mono Z1.size)
  have Z2 := z2
  have F_2_c0 := F_2.c0
  have F_2_c1 := F_2.c1
  go_wp2_with fail
  refine (predicts_true _).mono ?_
  rintro e w3 ⟨rfl, y3⟩
  have C_3 := C_2.on y3
  have R_3 := R_2.on y3
  have F_3 := F_2.on y3
  clear C_2 R_2 F_2 F_2_c0 F_2_c1
  have z3 := Z2.trans (y3.mono Z2.size)
  have Z3 := z3
  have F_3_c0 := F_3.c0
  have F_3_c1 := F_3.c1
  go_wp2
  go_ret
  exact ⟨rfl, Z3⟩
set_option maxRecDepth 100000 in
set_option maxHeartbeats 1600000 in
theorem ms_ok {A : Option Addr} {n c : Nat} {xs : List Int} {oi idx : Int} (hC : POut oi xs 0 idx) (w : World) (h : Rd w A n c (icells xs)) :
    Calls Try.prog 4 #[.int .i64 oi, .slice A n c] w fun e w' => e = .returned (.bool true) ∧ Below w.heap.size w w' := by
  have hn := h.len
  simp only [icells, List.length_map] at hn
  subst hn
  have hcap := Reads.cap h
  have hcm := Reads.capMax h
  unfold maxLen at hcm
  obtain ⟨ho, hl, hb, rfl⟩ := pout_ok hC rfl
  obtain ⟨ord, rfl⟩ := Int.eq_ofNat_of_zero_le ho.1
  have hord : ord ≤ 2 := by have := ho.2; omega
  obtain ⟨X, hX⟩ : ∃ X, X = allpreds ord (toBits xs) := ⟨_, rfl⟩
  have hXl : X.length = xs.length + 1 := by rw [hX, allpreds_length, toBits_length]
  have HXG := Lib.hid (show ∀ i, i ≤ xs.length → X.getD i 0 = predv (toBits xs) i ord from fun i hi => by rw [hX, allpreds_getD _ _ _ (by rw [toBits_length]; exact hi)])
  have HPR := Lib.hid (fun (W : World) (hW : Rd W A xs.length c (icells xs)) => mpredict_any hW ord 0 0 hC X (by rw [if_pos rfl]; exact hX) (xs.length + 1) hXl.symm)
  have HB01 := Lib.hid (toBits_01 hb)
  have HBT := Lib.hid hb
  have HXL := Lib.hid hXl
  clear hC hX hXl hb ho
  have C_0 := h
  have Z0 := Below.refl w.heap.size w
  go_enter Try.func4, Try.ntmps4
  go_wp2_with fail
  refine (HPR.out _ C_0).mono ?_
  rintro e w1 ⟨A1, c1, rfl, R1, y1⟩
  have C_1 := (C_0.on y1).alloc (.cells #[.int .i64 0, .int .i64 0] 24)
  have R_1 := (R1).alloc (.cells #[.int .i64 0, .int .i64 0] 24)
  have F_1 := (Two.new w1 24 (.int .i64 0) (.int .i64 0))
  clear C_0
  have z1 := Z0.trans (y1.mono Z0.size)
  have Z1 := (z1).alloc (by have := z1.size; omega) (.cells #[.int .i64 0, .int .i64 0] 24)
  have F_1_c0 := F_1.c0
  have F_1_c1 := F_1.c1
  go_wp2_with fail
  refine (predicts_true _).mono ?_
  rintro e w2 ⟨rfl, y2⟩
  have C_2 := C_1.on y2
  have R_2 := R_1.on y2
  have F_2 := F_1.on y2
  clear C_1 R_1 F_1 F_1_c0 F_1_c1
  have z2 := Z1.trans (y2.mono Z1.size)
  have Z2 := z2
  have F_2_c0 := F_2.c0
  have F_2_c1 := F_2.c1
  go_wp2_with fail
  go_loop [7] (fun i => ∃ k : Nat, k ≤ xs.length + 1 ∧ i = .int .i64 (k : Nat)) (fun i => xs.length + 1 - (intOf i).toNat)
  case atStart => exact ⟨0, Nat.zero_le _, rfl⟩
  case round =>
    obtain ⟨k, hk, rfl⟩ := hrel
    by_cases hlt : k < xs.length + 1
    · obtain ⟨g, off, rfl, hg, hc⟩ := R_2.2.2.2 (by omega)
      have hcell := hc k _ (ncells_get X k (by rw [HXL.out]; exact hlt))
      rw [HXG.out k (by omega)] at hcell
      have hin := predv_in (toBits xs) k ord
      obtain ⟨p, hp⟩ : ∃ p, p = predv (toBits xs) k ord := ⟨_, rfl⟩
      rw [← hp] at hcell hin
      have HIN := Lib.hid hin
      clear hc hp hin
      go_wp2_with fail
      refine (in_yes _ _ _ _ (by have := HIN.out; omega) (by have := HIN.out; omega)).mono ?_
      rintro e w9 ⟨rfl, rfl⟩
      go_wp2_with fail
      go_round
      case rel => exact ⟨k + 1, by omega, by go_num⟩
      case measure => simp [intOf] <;> omega
    · obtain rfl : k = xs.length + 1 := by omega
      go_wp2
      go_ret
      exact ⟨rfl, Z2⟩
theorem ms_all {A : Option Addr} {n c : Nat} {xs : List Int} {oi : Int} (w : World) (h : Rd w A n c (icells xs)) : Calls Try.prog 4 #[.int .i64 oi, .slice A n c] w fun e w' => e = .returned (.bool true) ∧ Below w.heap.size w w' := by
  obtain ⟨code, idx, hC⟩ := pout_ex oi xs
  by_cases hc : code = 0
  · subst hc
    exact ms_ok hC w h
  · exact ms_bad hC hc w h
end PB
end Go.Proofs.Ytmkkbedbgkhbpaa
