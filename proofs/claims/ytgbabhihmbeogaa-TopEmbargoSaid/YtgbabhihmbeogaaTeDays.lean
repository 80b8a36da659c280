/-
  Package calendar: what its functions answer.
-/
import Derived.Test.YtgbabhihmbeogaaTeCal
import Derived.Test.YtgbabhihmbeogaaBoxes
import Derived.Test.YtgbabhihmbeogaaKit
import Derived.Deep.Cut
namespace Go.Proofs.Ytgbabhihmbeogaa
open Go.RowKit
attribute [local go_sem ↓] Go.wp_at_zero Go.wp_at_succ
set_option linter.unusedVariables false
set_option linter.unusedSimpArgs false
namespace PB
set_option maxRecDepth 100000 in
set_option maxHeartbeats 800000 in
theorem leap_any (y : Nat) (hy : y ≤ 10000) (w : World) :
    Calls Try.prog 14 #[.int .i64 (y : Nat)] w fun e w' => e = .returned (.bool (leapy y)) ∧ w' = w := by
  have e4 : Int.tmod (y : Int) 4 = ((y % 4 : Nat) : Int) := rfl
  have e100 : Int.tmod (y : Int) 100 = ((y % 100 : Nat) : Int) := rfl
  have e400 : Int.tmod (y : Int) 400 = ((y % 400 : Nat) : Int) := rfl
  unfold leapy
  go_enter Try.func14, Try.ntmps14
  by_cases h4 : y % 4 = 0
  · by_cases h100 : y % 100 = 0
    · by_cases h400 : y % 400 = 0
      all_goals
        go_wp2
        go_ret
        refine ⟨?_, rfl⟩
        have q4 : (y : Int) % 4 = 0 := by omega
        simp [h4, h100, h400]
        try omega
    · go_wp2
      go_ret
      simp [h4, h100]
  · go_wp2
    go_ret
    simp [h4]
theorem month_1 (w : World) : (Instr.index 61 (.agg #[.int .i64 31, .int .i64 28, .int .i64 31, .int .i64 30, .int .i64 31, .int .i64 30, .int .i64 31, .int .i64 31, .int .i64 30, .int .i64 31, .int .i64 30, .int .i64 31]) (.int .i64 0)).run Try.prog w = .ok (.int .i64 31) w := rfl
theorem month_2 (w : World) : (Instr.index 61 (.agg #[.int .i64 31, .int .i64 28, .int .i64 31, .int .i64 30, .int .i64 31, .int .i64 30, .int .i64 31, .int .i64 31, .int .i64 30, .int .i64 31, .int .i64 30, .int .i64 31]) (.int .i64 1)).run Try.prog w = .ok (.int .i64 28) w := rfl
theorem month_3 (w : World) : (Instr.index 61 (.agg #[.int .i64 31, .int .i64 28, .int .i64 31, .int .i64 30, .int .i64 31, .int .i64 30, .int .i64 31, .int .i64 31, .int .i64 30, .int .i64 31, .int .i64 30, .int .i64 31]) (.int .i64 2)).run Try.prog w = .ok (.int .i64 31) w := rfl
theorem month_4 (w : World) : (Instr.index 61 (.agg #[.int .i64 31, .int .i64 28, .int .i64 31, .int .i64 30, .int .i64 31, .int .i64 30, .int .i64 31, .int .i64 31, .int .i64 30, .int .i64 31, .int .i64 30, .int .i64 31]) (.int .i64 3)).run Try.prog w = .ok (.int .i64 30) w := rfl
theorem month_5 (w : World) : (Instr.index 61 (.agg #[.int .i64 31, .int .i64 28, .int .i64 31, .int .i64 30, .int .i64 31, .int .i64 30, .int .i64 31, .int .i64 31, .int .i64 30, .int .i64 31, .int .i64 30, .int .i64 31]) (.int .i64 4)).run Try.prog w = .ok (.int .i64 31) w := rfl
theorem month_6 (w : World) : (Instr.index 61 (.agg #[.int .i64 31, .int .i64 28, .int .i64 31, .int .i64 30, .int .i64 31, .int .i64 30, .int .i64 31, .int .i64 31, .int .i64 30, .int .i64 31, .int .i64 30, .int .i64 31]) (.int .i64 5)).run Try.prog w = .ok (.int .i64 30) w := rfl
theorem month_7 (w : World) : (Instr.index 61 (.agg #[.int .i64 31, .int .i64 28, .int .i64 31, .int .i64 30, .int .i64 31, .int .i64 30, .int .i64 31, .int .i64 31, .int .i64 30, .int .i64 31, .int .i64 30, .int .i64 31]) (.int .i64 6)).run Try.prog w = .ok (.int .i64 31) w := rfl
theorem month_8 (w : World) : (Instr.index 61 (.agg #[.int .i64 31, .int .i64 28, .int .i64 31, .int .i64 30, .int .i64 31, .int .i64 30, .int .i64 31, .int .i64 31, .int .i64 30, .int .i64 31, .int .i64 30, .int .i64 31]) (.int .i64 7)).run Try.prog w = .ok (.int .i64 31) w := rfl
theorem month_9 (w : World) : (Instr.index 61 (.agg #[.int .i64 31, .int .i64 28, .int .i64 31, .int .i64 30, .int .i64 31, .int .i64 30, .int .i64 31, .int .i64 31, .int .i64 30, .int .i64 31, .int .i64 30, .int .i64 31]) (.int .i64 8)).run Try.prog w = .ok (.int .i64 30) w := rfl
theorem month_10 (w : World) : (Instr.index 61 (.agg #[.int .i64 31, .int .i64 28, .int .i64 31, .int .i64 30, .int .i64 31, .int .i64 30, .int .i64 31, .int .i64 31, .int .i64 30, .int .i64 31, .int .i64 30, .int .i64 31]) (.int .i64 9)).run Try.prog w = .ok (.int .i64 31) w := rfl
theorem month_11 (w : World) : (Instr.index 61 (.agg #[.int .i64 31, .int .i64 28, .int .i64 31, .int .i64 30, .int .i64 31, .int .i64 30, .int .i64 31, .int .i64 31, .int .i64 30, .int .i64 31, .int .i64 30, .int .i64 31]) (.int .i64 10)).run Try.prog w = .ok (.int .i64 30) w := rfl
theorem month_12 (w : World) : (Instr.index 61 (.agg #[.int .i64 31, .int .i64 28, .int .i64 31, .int .i64 30, .int .i64 31, .int .i64 30, .int .i64 31, .int .i64 31, .int .i64 30, .int .i64 31, .int .i64 30, .int .i64 31]) (.int .i64 11)).run Try.prog w = .ok (.int .i64 31) w := rfl
set_option maxRecDepth 100000 in
set_option maxHeartbeats 800000 in
theorem mdays_r (y m : Nat) (hy : y ≤ 10000) (h1 : 1 ≤ m) (h2 : m ≤ 12) (w : World) (mi R : Int) (hmi : mi = (m : Nat)) (hR : R = (mdays y m : Nat)) :
    Calls Try.prog 10 #[.int .i64 (y : Nat), .int .i64 mi] w fun e w' => e = .returned (.int .i64 R) ∧ w' = w := by
  by_cases hm : m = 2
  · subst hm
    have hmi2 : mi = 2 := by rw [hmi]; rfl
    subst hmi2
    by_cases hl : leapy y = true
    · have HLE := Lib.hid (leap_any y hy w)
      rw [hl] at HLE
      obtain rfl : R = 29 := by rw [hR]; simp [mdays, hl]
      clear hl hR hmi
      go_enter Try.func10, Try.ntmps10
      go_wp2_with fail
      refine HLE.out.mono ?_
      rintro e w' ⟨rfl, rfl⟩
      go_wp2
      go_ret
      exact ⟨rfl, rfl⟩
    · have HLE := Lib.hid (leap_any y hy w)
      rw [Bool.not_eq_true] at hl
      rw [hl] at HLE
      obtain rfl : R = 28 := by rw [hR]; simp [mdays, hl]
      clear hl hR hmi
      have x1 := month_2
      go_enter Try.func10, Try.ntmps10
      go_wp2_with fail
      refine HLE.out.mono ?_
      rintro e w' ⟨rfl, rfl⟩
      go_wp2
      go_ret
      exact ⟨rfl, rfl⟩
  · have hv : mdays y m = [31, 28, 31, 30, 31, 30, 31, 31, 30, 31, 30, 31].getD (m - 1) 0 := by unfold mdays; rw [if_neg (fun h => hm h.1)]
    rw [hv] at hR
    clear hv
    rcases (by omega : m = 1 ∨ m = 3 ∨ m = 4 ∨ m = 5 ∨ m = 6 ∨ m = 7 ∨ m = 8 ∨ m = 9 ∨ m = 10 ∨ m = 11 ∨ m = 12) with rfl | rfl | rfl | rfl | rfl | rfl | rfl | rfl | rfl | rfl | rfl
    · simp at hR hmi
      subst hR hmi
      have x1 := month_1
      go_enter Try.func10, Try.ntmps10
      go_wp2
      go_ret
      exact ⟨rfl, rfl⟩
    · simp at hR hmi
      subst hR hmi
      have x1 := month_3
      go_enter Try.func10, Try.ntmps10
      go_wp2
      go_ret
      exact ⟨rfl, rfl⟩
    · simp at hR hmi
      subst hR hmi
      have x1 := month_4
      go_enter Try.func10, Try.ntmps10
      go_wp2
      go_ret
      exact ⟨rfl, rfl⟩
    · simp at hR hmi
      subst hR hmi
      have x1 := month_5
      go_enter Try.func10, Try.ntmps10
      go_wp2
      go_ret
      exact ⟨rfl, rfl⟩
    · simp at hR hmi
      subst hR hmi
      have x1 := month_6
      go_enter Try.func10, Try.ntmps10
      go_wp2
      go_ret
      exact ⟨rfl, rfl⟩
    · simp at hR hmi
      subst hR hmi
      have x1 := month_7
      go_enter Try.func10, Try.ntmps10
      go_wp2
      go_ret
      exact ⟨rfl, rfl⟩
    · simp at hR hmi
      subst hR hmi
      have x1 := month_8
      go_enter Try.func10, Try.ntmps10
      go_wp2
      go_ret
      exact ⟨rfl, rfl⟩
    · simp at hR hmi
      subst hR hmi
      have x1 := month_9
      go_enter Try.func10, Try.ntmps10
      go_wp2
      go_ret
      exact ⟨rfl, rfl⟩
    · simp at hR hmi
      subst hR hmi
      have x1 := month_10
      go_enter Try.func10, Try.ntmps10
      go_wp2
      go_ret
      exact ⟨rfl, rfl⟩
    · simp at hR hmi
      subst hR hmi
      have x1 := month_11
      go_enter Try.func10, Try.ntmps10
      go_wp2
      go_ret
      exact ⟨rfl, rfl⟩
    · simp at hR hmi
      subst hR hmi
      have x1 := month_12
      go_enter Try.func10, Try.ntmps10
      go_wp2
      go_ret
      exact ⟨rfl, rfl⟩
theorem mdays_any (y m : Nat) (hy : y ≤ 10000) (h1 : 1 ≤ m) (h2 : m ≤ 12) (w : World) :
    Calls Try.prog 10 #[.int .i64 (y : Nat), .int .i64 (m : Nat)] w fun e w' => e = .returned (.int .i64 (mdays y m : Nat)) ∧ w' = w := mdays_r y m hy h1 h2 w _ _ rfl rfl
set_option maxRecDepth 100000 in
set_option maxHeartbeats 800000 in
theorem before_any (y : Nat) (h1 : 1 ≤ y) (hy : y ≤ 10000) (w : World) :
    Calls Try.prog 15 #[.int .i64 (y : Nat)] w fun e w' => e = .returned (.int .i64 (befy y : Nat)) ∧ w' = w := by
  obtain ⟨k, rfl⟩ : ∃ k, y = k + 1 := ⟨y - 1, by omega⟩
  have e4 : Int.tdiv (k : Int) 4 = ((k / 4 : Nat) : Int) := rfl
  have e100 : Int.tdiv (k : Int) 100 = ((k / 100 : Nat) : Int) := rfl
  have e400 : Int.tdiv (k : Int) 400 = ((k / 400 : Nat) : Int) := rfl
  have hb : ((befy (k + 1) : Nat) : Int) = 365 * (k : Int) + ((k / 4 : Nat) : Int) - ((k / 100 : Nat) : Int) + ((k / 400 : Nat) : Int) := by unfold befy; omega
  have hk : ((k + 1 : Nat) : Int) - 1 = (k : Int) := by omega
  have hk2 : ((k : Int) + 1) - 1 = (k : Int) := by omega
  go_enter Try.func15, Try.ntmps15
  go_wp2
  go_ret
  rw [hb]
  refine ⟨?_, rfl⟩
  go_num
set_option maxRecDepth 100000 in
set_option maxHeartbeats 800000 in
theorem number_any (y m d : Nat) (h0 : 1 ≤ y) (hy : y ≤ 10000) (h1 : 1 ≤ m) (h2 : m ≤ 12) (hd : d ≤ 31) (w : World) :
    Calls Try.prog 11 #[.int .i64 (y : Nat), .int .i64 (m : Nat), .int .i64 (d : Nat)] w fun e w' => e = .returned (.int .i64 (numb y m d : Nat)) ∧ w' = w := by
  obtain ⟨N, hN⟩ : ∃ N, N = numb y m d := ⟨_, rfl⟩
  have hbl := befy_le hy
  obtain ⟨b, hb⟩ : ∃ b, b = befy y := ⟨_, rfl⟩
  have HB := Lib.hid (before_any y h0 hy)
  rw [← hb] at HB hbl
  have HN := Lib.hid (show N = b + d + befm y m by rw [hN, hb]; rfl)
  rw [← hN]
  clear hN hb
  go_enter Try.func11, Try.ntmps11
  go_wp2_with fail
  refine (HB.out w).mono ?_
  rintro e w' ⟨rfl, rfl⟩
  go_wp2_with fail
  go_loop [7, 8] (fun nv iv => ∃ (k V : Nat), 1 ≤ k ∧ k ≤ m ∧ iv = .int .i64 (k : Nat) ∧ nv = .int .i64 ((b + d + V : Nat) : Int) ∧ V = befm y k ∧ V ≤ 31 * k) (fun _ iv => m - (intOf iv).toNat)
  case atStart => exact ⟨1, 0, Nat.le_refl _, h1, rfl, by go_num, rfl, by omega⟩
  case round =>
    obtain ⟨k, V, hk1, hk, rfl, rfl, hV, hVb⟩ := hrel
    have HV := Lib.hid hV
    clear hV
    by_cases hlt : k < m
    · have HMD := Lib.hid (mdays_any y k hy hk1 (by omega))
      have hml := mdays_le (y := y) (m := k)
      have HS := Lib.hid (befm_succ (y := y) hk1)
      obtain ⟨D, hD⟩ : ∃ D, D = mdays y k := ⟨_, rfl⟩
      rw [← hD] at HMD hml HS
      clear hD
      go_wp2_with fail
      refine (HMD.out _).mono ?_
      rintro e w'' ⟨rfl, rfl⟩
      go_wp2_with fail
      go_round
      case rel => exact ⟨k + 1, V + D, by omega, by omega, by go_num, by go_num, by rw [HS.out, HV.out], by omega⟩
      case measure => simp [intOf] <;> omega
    · obtain rfl : k = m := by omega
      obtain rfl : N = b + d + V := by rw [HN.out, HV.out]
      go_wp2
      go_ret
      exact ⟨rfl, rfl⟩
set_option maxRecDepth 100000 in
theorem cfault_any (code index : Int) (w : World) :
    Calls Try.prog 9 #[.int .i64 code, .int .i64 index] w fun e w' => e = .returned (.agg #[.int .i64 code, .int .i64 index]) ∧ Below w.heap.size w w' := by
  go_enter Try.func9, Try.ntmps9
  go_wp2
  refine bodyPost_ret (v := .agg #[.int .i64 code, .int .i64 index]) (by simp [results, Try.results9, go_sem]) rfl ⟨rfl, ?_⟩
  exact (Below.refl _ _).alloc (Nat.le_refl _) _
set_option maxRecDepth 100000 in
set_option maxHeartbeats 800000 in
theorem ccheck_bad (day : Int) (h : day < 1 ∨ 3652059 < day) (w : World) :
    Calls Try.prog 19 #[.int .i64 day] w fun e w' => e = .returned (.agg #[.int .i64 4, .int .i64 (-1)]) ∧ Below w.heap.size w w' := by
  have M0 := Two.new w 29 (.int .i64 0) (.int .i64 0)
  have Y0 := (Below.refl w.heap.size w).alloc (Nat.le_refl _) (.cells #[.int .i64 0, .int .i64 0] 29)
  have HH := Lib.hid h
  clear h
  go_enter Try.func19, Try.ntmps19
  by_cases h1 : day < 1
  · go_wp2_with fail
    refine (cfault_any _ _ _).mono ?_
    rintro e w3 ⟨rfl, y3⟩
    have M3 := M0.on y3
    have Y3 := Y0.trans (y3.mono Y0.size)
    have p0 := M3.c0
    have p1 := M3.c1
    have p2 := M3.f0
    have p3 := M3.f1
    clear M0 Y0 y3
    go_wp2
    have rr := ((M3.set0 (.int .i64 4)).set1 (.int .i64 (-1)))
    have r0 := rr.c0
    have r1 := rr.c1
    refine bodyPost_ret (v := .agg #[.int .i64 4, .int .i64 (-1)]) (by simp [results, Try.results19, go_sem, r0, r1]) rfl ⟨rfl, ?_⟩
    exact ((Y3.setCell (p := ⟨w.heap.size, 0, none⟩) (by simp) _).setCell (p := ⟨w.heap.size, 1, none⟩) (by simp) _)
  · have h2 : 3652059 < day := by have := HH.out; omega
    go_wp2_with fail
    refine (cfault_any _ _ _).mono ?_
    rintro e w3 ⟨rfl, y3⟩
    have M3 := M0.on y3
    have Y3 := Y0.trans (y3.mono Y0.size)
    have p0 := M3.c0
    have p1 := M3.c1
    have p2 := M3.f0
    have p3 := M3.f1
    clear M0 Y0 y3
    go_wp2
    have rr := ((M3.set0 (.int .i64 4)).set1 (.int .i64 (-1)))
    have r0 := rr.c0
    have r1 := rr.c1
    refine bodyPost_ret (v := .agg #[.int .i64 4, .int .i64 (-1)]) (by simp [results, Try.results19, go_sem, r0, r1]) rfl ⟨rfl, ?_⟩
    exact ((Y3.setCell (p := ⟨w.heap.size, 0, none⟩) (by simp) _).setCell (p := ⟨w.heap.size, 1, none⟩) (by simp) _)
set_option maxRecDepth 100000 in
set_option maxHeartbeats 800000 in
theorem ccheck_ok (day : Int) (h1 : 1 ≤ day) (h2 : day ≤ 3652059) (w : World) :
    Calls Try.prog 19 #[.int .i64 day] w fun e w' => e = .returned (.agg #[.int .i64 0, .int .i64 0]) ∧ Below w.heap.size w w' := by
  have M0 := Two.new w 29 (.int .i64 0) (.int .i64 0)
  have Y0 := (Below.refl w.heap.size w).alloc (Nat.le_refl _) (.cells #[.int .i64 0, .int .i64 0] 29)
  go_enter Try.func19, Try.ntmps19
  go_wp2
  have r0 := M0.c0
  have r1 := M0.c1
  refine bodyPost_ret (v := .agg #[.int .i64 0, .int .i64 0]) (by simp [results, Try.results19, go_sem, r0, r1]) rfl ⟨rfl, ?_⟩
  exact Y0
set_option maxRecDepth 100000 in
set_option maxHeartbeats 800000 in
theorem date_bad (day : Int) (h : day < 1 ∨ 3652059 < day) (w : World) :
    Calls Try.prog 13 #[.int .i64 day] w fun e w' => e = .returned (.tuple #[.int .i64 0, .int .i64 0, .int .i64 0, .agg #[.int .i64 4, .int .i64 (-1)]]) ∧ Below w.heap.size w w' := by
  have M0 := Two.new w 29 (.int .i64 0) (.int .i64 0)
  have Y0 := (Below.refl w.heap.size w).alloc (Nat.le_refl _) (.cells #[.int .i64 0, .int .i64 0] 29)
  have HH := Lib.hid h
  clear h
  go_enter Try.func13, Try.ntmps13
  go_wp2_with fail
  refine (ccheck_bad day HH.out _).mono ?_
  rintro e w1 ⟨rfl, y1⟩
  have M1 := (M0.on y1).alloc (.cells #[.int .i64 4, .int .i64 (-1)] 29)
  have F1 := Two.new w1 29 (.int .i64 4) (.int .i64 (-1))
  have Y1 := (Y0.trans (y1.mono Y0.size)).alloc (Y0.trans (y1.mono Y0.size)).size (.cells #[.int .i64 4, .int .i64 (-1)] 29)
  have m0 := M1.c0
  have m1 := M1.c1
  have m2 := M1.f0
  have m3 := M1.f1
  have f0 := F1.c0
  have f1 := F1.c1
  have hsz := (Y0.trans (y1.mono Y0.size)).size
  have hszm := (M0.on y1).lt
  clear M0 Y0 y1
  obtain ⟨W, hW⟩ : ∃ W, W = w1.alloc (.cells #[.int .i64 4, .int .i64 (-1)] 29) := ⟨_, rfl⟩
  rw [← hW] at M1 F1 Y1 m0 m1 m2 m3 f0 f1
  go_upto_region 3 with (fail)
  rw [← hW]
  clear hW
  go_region
  all_goals
    go_wp2
    have rr := ((M1.set0 (.int .i64 4)).set1 (.int .i64 (-1))).drew
    have r0 := rr.c0
    have r1 := rr.c1
    refine bodyPost_ret (v := .tuple #[.int .i64 0, .int .i64 0, .int .i64 0, .agg #[.int .i64 4, .int .i64 (-1)]]) (by simp [results, Try.results13, go_sem, r0, r1]) rfl ⟨rfl, ?_⟩
    exact belowD ((Y1.setCell (p := ⟨w.heap.size, 0, none⟩) (by simp) _).setCell (p := ⟨w.heap.size, 1, none⟩) (by simp) _)
set_option maxRecDepth 100000 in
set_option maxHeartbeats 800000 in
theorem date_ok (D : Nat) (h1 : 1 ≤ D) (h2 : D ≤ 3652059) (w : World) :
    Calls Try.prog 13 #[.int .i64 (D : Nat)] w fun e w' => ∃ y m d : Nat, ((1 ≤ y ∧ y ≤ 9999) ∧ (1 ≤ m ∧ m ≤ 12) ∧ (1 ≤ d ∧ d ≤ mdays y m) ∧ numb y m d = D) ∧ e = .returned (.tuple #[.int .i64 (y : Nat), .int .i64 (m : Nat), .int .i64 (d : Nat), .agg #[.int .i64 0, .int .i64 0]]) ∧ Below w.heap.size w w' := by
  have M0 := Two.new w 29 (.int .i64 0) (.int .i64 0)
  have Y0 := (Below.refl w.heap.size w).alloc (Nat.le_refl _) (.cells #[.int .i64 0, .int .i64 0] 29)
  have q366 : Int.tdiv (D : Int) 366 = ((D / 366 : Nat) : Int) := rfl
  obtain ⟨q, hq⟩ : ∃ q, q = D / 366 := ⟨_, rfl⟩
  have HF := Lib.hid (show befy (q + 1) < D by rw [hq]; exact befy_first h1)
  have hqb : q + 1 ≤ 9999 := by omega
  rw [← hq] at q366
  clear hq
  go_enter Try.func13, Try.ntmps13
  go_wp2_with fail
  refine (ccheck_ok D (by omega) (by omega) _).mono ?_
  rintro e w1 ⟨rfl, y1⟩
  have M1 := (M0.on y1).alloc (.cells #[.int .i64 0, .int .i64 0] 29)
  have F1 := Two.new w1 29 (.int .i64 0) (.int .i64 0)
  have Y1 := (Y0.trans (y1.mono Y0.size)).alloc (Y0.trans (y1.mono Y0.size)).size (.cells #[.int .i64 0, .int .i64 0] 29)
  have m0 := M1.c0
  have m1 := M1.c1
  have m2 := M1.f0
  have m3 := M1.f1
  have f0 := F1.c0
  have f1 := F1.c1
  have hsz := (Y0.trans (y1.mono Y0.size)).size
  have hszm := (M0.on y1).lt
  clear M0 Y0 y1
  obtain ⟨W, hW⟩ : ∃ W, W = w1.alloc (.cells #[.int .i64 0, .int .i64 0] 29) := ⟨_, rfl⟩
  rw [← hW] at M1 F1 Y1 m0 m1 m2 m3 f0 f1
  go_upto_region 4 with (fail)
  rw [← hW]
  clear hW
  have HM1 := Lib.hid M1
  have HY1 := Lib.hid Y1
  clear M1 Y1 m0 m1 m2 m3 f0 f1 F1 hsz hszm
  go_wp2_with fail
  go_loop [7] (fun yv => ∃ y : Nat, 1 ≤ y ∧ y ≤ 9999 ∧ yv = .int .i64 (y : Nat) ∧ befy y < D) (fun yv => 9999 - (intOf yv).toNat)
  case atStart => exact ⟨q + 1, by omega, hqb, by go_num, HF.out⟩
  case round =>
    obtain ⟨y, hy1, hy2, rfl, hb⟩ := hrel
    have HBY := Lib.hid (before_any y hy1 (by omega) W)
    have HBZ := Lib.hid (before_any (y + 1) (by omega) (by omega) W)
    have HS := Lib.hid (befy_succ hy1)
    obtain ⟨b, hbb⟩ : ∃ b, b = befy y := ⟨_, rfl⟩
    obtain ⟨z, hzz⟩ : ∃ z, z = befy (y + 1) := ⟨_, rfl⟩
    have hzl : z ≤ 3660000 := by rw [hzz]; exact befy_le (by omega)
    rw [← hbb] at HBY HS hb
    rw [← hzz] at HBZ HS
    have HBB := Lib.hid hbb
    have HZZ := Lib.hid hzz
    clear hbb hzz
    by_cases hx : y < 9999 ∧ z < D
    · obtain ⟨hx1, hx2⟩ := hx
      go_wp2_with fail
      refine (HBZ.out).mono ?_
      rintro e w' ⟨rfl, rfl⟩
      go_wp2_with fail
      go_round
      case rel => exact ⟨y + 1, by omega, by omega, by go_num, by rw [← HZZ.out]; exact hx2⟩
      case measure => simp [intOf] <;> omega
    · have hend : D ≤ b + befm y 13 := by
        have h3 := HS.out
        rcases (by omega : y = 9999 ∨ (y < 9999 ∧ D ≤ z)) with h4 | h4
        · subst h4
          have h5 : z = befy 10000 := HZZ.out
          rw [befy_last] at h5
          omega
        · omega
      have HEND := Lib.hid hend
      clear hend
      rcases (by omega : y = 9999 ∨ (y < 9999 ∧ ¬ z < D)) with h4 | ⟨h4, h5⟩
      · have hy9 : ¬ y < 9999 := by omega
        clear h4
        clear hx
        go_wp2_with fail
        refine (HBY.out).mono ?_
        rintro e w'' ⟨rfl, rfl⟩
        go_wp2_with fail
        go_loop [0, 8] (fun dv mv => ∃ m r : Nat, 1 ≤ m ∧ m ≤ 12 ∧ mv = .int .i64 (m : Nat) ∧ dv = .int .i64 (r : Nat) ∧ 1 ≤ r ∧ r + befm y m + b = D) (fun _ mv => 12 - (intOf mv).toNat)
        case atStart => exact ⟨1, D - b, Nat.le_refl _, by omega, rfl, by go_num, by omega, by rw [show befm y 1 = 0 from rfl]; omega⟩
        case round =>
          obtain ⟨m, r, hm1, hm2, rfl, rfl, hr1, hr⟩ := hrel
          have HMD := Lib.hid (mdays_any y m (by omega) hm1 hm2)
          have HMS := Lib.hid (befm_succ (y := y) hm1)
          have hml := mdays_le (y := y) (m := m)
          obtain ⟨E, hE⟩ : ∃ E, E = mdays y m := ⟨_, rfl⟩
          rw [← hE] at HMD HMS hml
          have HEE := Lib.hid hE
          have HR := Lib.hid hr
          have hrb : r ≤ 3652059 := by omega
          clear hE hr
          by_cases hlt : E < r
          · have hm12 : m < 12 := by
              rcases (by omega : m < 12 ∨ m = 12) with h | h
              · exact h
              · exfalso
                subst h
                have g1 := HEND.out
                have g2 : befm y 13 = befm y 12 + E := HMS.out
                have g3 := HR.out
                omega
            go_wp2_with fail
            refine (HMD.out _).mono ?_
            rintro e w3 ⟨rfl, rfl⟩
            go_wp2_with fail
            refine (HMD.out _).mono ?_
            rintro e w3 ⟨rfl, rfl⟩
            go_wp2_with fail
            go_round
            case rel => exact ⟨m + 1, r - E, by omega, by omega, by go_num, by go_num, by omega, by have g2 := HMS.out; have g3 := HR.out; omega⟩
            case measure => simp [intOf] <;> omega
          · have M2 := HM1.out
            have p0 := M2.c0
            have p1 := M2.c1
            have p2 := M2.f0
            have p3 := M2.f1
            go_wp2_with fail
            refine (HMD.out _).mono ?_
            rintro e w3 ⟨rfl, rfl⟩
            go_wp2
            have rr := ((HM1.out.set0 (.int .i64 0)).set1 (.int .i64 0))
            have r0 := rr.c0
            have r1 := rr.c1
            refine bodyPost_ret (v := .tuple #[.int .i64 (y : Nat), .int .i64 (m : Nat), .int .i64 (r : Nat), .agg #[.int .i64 0, .int .i64 0]]) (by simp [results, Try.results13, go_sem, r0, r1]) rfl ⟨y, m, r, ⟨⟨hy1, hy2⟩, ⟨hm1, hm2⟩, ⟨hr1, by rw [← HEE.out]; omega⟩, ?_⟩, rfl, ?_⟩
            · unfold numb
              have g3 := HR.out
              have g4 := HBB.out
              omega
            · exact ((HY1.out.setCell (p := ⟨w.heap.size, 0, none⟩) (by simp) _).setCell (p := ⟨w.heap.size, 1, none⟩) (by simp) _)
      · clear hx
        go_wp2_with fail
        refine (HBZ.out).mono ?_
        rintro e w' ⟨rfl, rfl⟩
        go_wp2_with fail
        refine (HBY.out).mono ?_
        rintro e w'' ⟨rfl, rfl⟩
        go_wp2_with fail
        go_loop [0, 8] (fun dv mv => ∃ m r : Nat, 1 ≤ m ∧ m ≤ 12 ∧ mv = .int .i64 (m : Nat) ∧ dv = .int .i64 (r : Nat) ∧ 1 ≤ r ∧ r + befm y m + b = D) (fun _ mv => 12 - (intOf mv).toNat)
        case atStart => exact ⟨1, D - b, Nat.le_refl _, by omega, rfl, by go_num, by omega, by rw [show befm y 1 = 0 from rfl]; omega⟩
        case round =>
          obtain ⟨m, r, hm1, hm2, rfl, rfl, hr1, hr⟩ := hrel
          have HMD := Lib.hid (mdays_any y m (by omega) hm1 hm2)
          have HMS := Lib.hid (befm_succ (y := y) hm1)
          have hml := mdays_le (y := y) (m := m)
          obtain ⟨E, hE⟩ : ∃ E, E = mdays y m := ⟨_, rfl⟩
          rw [← hE] at HMD HMS hml
          have HEE := Lib.hid hE
          have HR := Lib.hid hr
          have hrb : r ≤ 3652059 := by omega
          clear hE hr
          by_cases hlt : E < r
          · have hm12 : m < 12 := by
              rcases (by omega : m < 12 ∨ m = 12) with h | h
              · exact h
              · exfalso
                subst h
                have g1 := HEND.out
                have g2 : befm y 13 = befm y 12 + E := HMS.out
                have g3 := HR.out
                omega
            go_wp2_with fail
            refine (HMD.out _).mono ?_
            rintro e w3 ⟨rfl, rfl⟩
            go_wp2_with fail
            refine (HMD.out _).mono ?_
            rintro e w3 ⟨rfl, rfl⟩
            go_wp2_with fail
            go_round
            case rel => exact ⟨m + 1, r - E, by omega, by omega, by go_num, by go_num, by omega, by have g2 := HMS.out; have g3 := HR.out; omega⟩
            case measure => simp [intOf] <;> omega
          · have M2 := HM1.out
            have p0 := M2.c0
            have p1 := M2.c1
            have p2 := M2.f0
            have p3 := M2.f1
            go_wp2_with fail
            refine (HMD.out _).mono ?_
            rintro e w3 ⟨rfl, rfl⟩
            go_wp2
            have rr := ((HM1.out.set0 (.int .i64 0)).set1 (.int .i64 0))
            have r0 := rr.c0
            have r1 := rr.c1
            refine bodyPost_ret (v := .tuple #[.int .i64 (y : Nat), .int .i64 (m : Nat), .int .i64 (r : Nat), .agg #[.int .i64 0, .int .i64 0]]) (by simp [results, Try.results13, go_sem, r0, r1]) rfl ⟨y, m, r, ⟨⟨hy1, hy2⟩, ⟨hm1, hm2⟩, ⟨hr1, by rw [← HEE.out]; omega⟩, ?_⟩, rfl, ?_⟩
            · unfold numb
              have g3 := HR.out
              have g4 := HBB.out
              omega
            · exact ((HY1.out.setCell (p := ⟨w.heap.size, 0, none⟩) (by simp) _).setCell (p := ⟨w.heap.size, 1, none⟩) (by simp) _)
set_option maxRecDepth 100000 in
set_option maxHeartbeats 800000 in
theorem day_ex (w : World) :
    Calls Try.prog 4 #[.int .i64 2030, .int .i64 1, .int .i64 2] w fun e w' => e = .returned (.tuple #[.int .i64 741079, .agg #[.int .i64 0, .int .i64 0]]) ∧ Below w.heap.size w w' := by
  have M0 := Two.new w 29 (.int .i64 0) (.int .i64 0)
  have Y0 := (Below.refl w.heap.size w).alloc (Nat.le_refl _) (.cells #[.int .i64 0, .int .i64 0] 29)
  have HMD := Lib.hid (fun W => mdays_r 2030 1 (by decide) (by decide) (by decide) W 1 31 rfl (by decide))
  have HNB := Lib.hid (fun W => number_any 2030 1 2 (by decide) (by decide) (by decide) (by decide) (by decide) W)
  rw [show numb 2030 1 2 = 741079 by decide] at HNB
  go_enter Try.func4, Try.ntmps4
  go_wp2_with fail
  refine (HMD.out _).mono ?_
  rintro e w' ⟨rfl, rfl⟩
  go_wp2_with fail
  refine (HNB.out _).mono ?_
  rintro e w' ⟨rfl, rfl⟩
  go_wp2
  have r0 := M0.c0
  have r1 := M0.c1
  refine bodyPost_ret (v := .tuple #[.int .i64 741079, .agg #[.int .i64 0, .int .i64 0]]) (by simp [results, Try.results4, go_sem, r0, r1]) rfl ⟨rfl, ?_⟩
  exact Y0
set_option maxRecDepth 100000 in
set_option maxHeartbeats 800000 in
theorem add_any (ev mo : Int) (w : World) :
    Calls Try.prog 8 #[.int .i64 ev, .int .i64 mo] w fun e w' => ∃ r code idx : Int, (code = 0 → 0 ≤ mo → ev ≤ r) ∧ e = .returned (.tuple #[.int .i64 r, .agg #[.int .i64 code, .int .i64 idx]]) ∧ Below w.heap.size w w' := by
  have M0 := Two.new w 29 (.int .i64 0) (.int .i64 0)
  have Y0 := (Below.refl w.heap.size w).alloc (Nat.le_refl _) (.cells #[.int .i64 0, .int .i64 0] 29)
  by_cases hbad : ev < 1 ∨ 3652059 < ev
  · have HB := Lib.hid hbad
    clear hbad
    go_enter Try.func8, Try.ntmps8
    go_wp2_with fail
    refine (date_bad ev HB.out _).mono ?_
    rintro e w1 ⟨rfl, y1⟩
    have M1 := (M0.on y1).alloc (.cells #[.int .i64 4, .int .i64 (-1)] 29)
    have F1 := Two.new w1 29 (.int .i64 4) (.int .i64 (-1))
    have Y1 := (Y0.trans (y1.mono Y0.size)).alloc (Y0.trans (y1.mono Y0.size)).size (.cells #[.int .i64 4, .int .i64 (-1)] 29)
    have m0 := M1.c0
    have m1 := M1.c1
    have m2 := M1.f0
    have m3 := M1.f1
    have f0 := F1.c0
    have f1 := F1.c1
    have hsz := (Y0.trans (y1.mono Y0.size)).size
    have hszm := (M0.on y1).lt
    clear M0 Y0 y1
    obtain ⟨W, hW⟩ : ∃ W, W = w1.alloc (.cells #[.int .i64 4, .int .i64 (-1)] 29) := ⟨_, rfl⟩
    rw [← hW] at M1 F1 Y1 m0 m1 m2 m3 f0 f1
    go_upto_region 3 with (fail)
    rw [← hW]
    clear hW
    go_region
    all_goals
      go_wp2
      have rr := ((M1.set0 (.int .i64 4)).set1 (.int .i64 (-1))).drew
      have r0 := rr.c0
      have r1 := rr.c1
      refine bodyPost_ret (v := .tuple #[.int .i64 0, .agg #[.int .i64 4, .int .i64 (-1)]]) (by simp [results, Try.results8, go_sem, r0, r1]) rfl ⟨0, 4, (-1), (fun h => by cases h), rfl, ?_⟩
      exact belowD ((Y1.setCell (p := ⟨w.heap.size, 0, none⟩) (by simp) _).setCell (p := ⟨w.heap.size, 1, none⟩) (by simp) _)
  · obtain ⟨D, rfl⟩ := Int.eq_ofNat_of_zero_le (show 0 ≤ ev by omega)
    have hD1 : 1 ≤ D := by omega
    have hD2 : D ≤ 3652059 := by omega
    clear hbad
    go_enter Try.func8, Try.ntmps8
    go_wp2_with fail
    refine (date_ok D hD1 hD2 _).mono ?_
    rintro e w1 ⟨y, m, d, ⟨⟨hy1, hy2⟩, ⟨hm1, hm2⟩, ⟨hd1, hd2⟩, hnum⟩, rfl, y1⟩
    have M1 := (M0.on y1).alloc (.cells #[.int .i64 0, .int .i64 0] 29)
    have F1 := Two.new w1 29 (.int .i64 0) (.int .i64 0)
    have Y1 := (Y0.trans (y1.mono Y0.size)).alloc (Y0.trans (y1.mono Y0.size)).size (.cells #[.int .i64 0, .int .i64 0] 29)
    have m0 := M1.c0
    have m1 := M1.c1
    have m2 := M1.f0
    have m3 := M1.f1
    have f0 := F1.c0
    have f1 := F1.c1
    have hsz := (Y0.trans (y1.mono Y0.size)).size
    have hszm := (M0.on y1).lt
    clear M0 Y0 y1
    obtain ⟨W, hW⟩ : ∃ W, W = w1.alloc (.cells #[.int .i64 0, .int .i64 0] 29) := ⟨_, rfl⟩
    rw [← hW] at M1 F1 Y1 m0 m1 m2 m3 f0 f1
    have HNUM := Lib.hid hnum
    have HD2 := Lib.hid hd2
    have hd31 : d ≤ 31 := Nat.le_trans hd2 mdays_le
    clear hnum hd2
    go_upto_region 4 with (fail)
    rw [← hW]
    clear hW
    have HM1 := Lib.hid M1
    have HY1 := Lib.hid Y1
    clear M1 Y1 F1 f0 f1 hsz hszm
    by_cases hmo : mo < -120000 ∨ 120000 < mo
    · rcases hmo with hmo | hmo
      all_goals
        go_wp2_with fail
        refine (cfault_any _ _ _).mono ?_
        rintro e w3 ⟨rfl, y3⟩
        have M3 := HM1.out.on y3
        have Y3 := HY1.out.trans (y3.mono HY1.out.size)
        have p0 := M3.c0
        have p1 := M3.c1
        have p2 := M3.f0
        have p3 := M3.f1
        clear y3
        go_wp2
        have rr := ((M3.set0 (.int .i64 4)).set1 (.int .i64 (-2)))
        have r0 := rr.c0
        have r1 := rr.c1
        refine bodyPost_ret (v := .tuple #[.int .i64 0, .agg #[.int .i64 4, .int .i64 (-2)]]) (by simp [results, Try.results8, go_sem, r0, r1]) rfl ⟨0, 4, (-2), (fun h => by cases h), rfl, ?_⟩
        exact ((Y3.setCell (p := ⟨w.heap.size, 0, none⟩) (by simp) _).setCell (p := ⟨w.heap.size, 1, none⟩) (by simp) _)
    · obtain ⟨n, hn⟩ : ∃ n : Int, n = 12 * ((y : Int) - 1) + (m : Int) - 1 + mo := ⟨_, rfl⟩
      have hmo1 : -120000 ≤ mo := by omega
      have hmo2 : mo ≤ 120000 := by omega
      clear hmo
      by_cases hr : n < 0 ∨ 119988 ≤ n
      · rw [hn] at hr
        have HR := Lib.hid hr
        clear hr hn
        rcases (by have := HR.out; omega : 12 * ((y : Int) - 1) + (m : Int) - 1 + mo < 0 ∨ (¬ 12 * ((y : Int) - 1) + (m : Int) - 1 + mo < 0 ∧ 119988 ≤ 12 * ((y : Int) - 1) + (m : Int) - 1 + mo)) with hr | ⟨hr, hr2⟩
        all_goals
          go_wp2_with fail
          refine (cfault_any _ _ _).mono ?_
          rintro e w3 ⟨rfl, y3⟩
          have M3 := HM1.out.on y3
          have Y3 := HY1.out.trans (y3.mono HY1.out.size)
          have p0 := M3.c0
          have p1 := M3.c1
          have p2 := M3.f0
          have p3 := M3.f1
          clear y3
          go_wp2
          have rr := ((M3.set0 (.int .i64 4)).set1 (.int .i64 (-3)))
          have r0 := rr.c0
          have r1 := rr.c1
          refine bodyPost_ret (v := .tuple #[.int .i64 0, .agg #[.int .i64 4, .int .i64 (-3)]]) (by simp [results, Try.results8, go_sem, r0, r1]) rfl ⟨0, 4, (-3), (fun h => by cases h), rfl, ?_⟩
          exact ((Y3.setCell (p := ⟨w.heap.size, 0, none⟩) (by simp) _).setCell (p := ⟨w.heap.size, 1, none⟩) (by simp) _)
      · obtain ⟨k, hk⟩ := Int.eq_ofNat_of_zero_le (show 0 ≤ n by omega)
        have hkb : k < 119988 := by omega
        have hsum : 12 * ((y : Int) - 1) + (m : Int) - 1 + mo = (k : Int) := by omega
        have hk2 : 0 ≤ mo → 12 * (y - 1) + (m - 1) ≤ k := by intro h; omega
        have HLT := Lib.hid (fun h => later (k := k) hy1 hm1 hm2 hd1 HD2.out (hk2 h))
        have t1 : Int.tdiv (k : Int) 12 = ((k / 12 : Nat) : Int) := rfl
        have t2 : Int.tmod (k : Int) 12 = ((k % 12 : Nat) : Int) := rfl
        obtain ⟨q, hq⟩ : ∃ q, q = k / 12 := ⟨_, rfl⟩
        obtain ⟨r, hr2⟩ : ∃ r, r = k % 12 := ⟨_, rfl⟩
        have hqb : q ≤ 9998 := by omega
        have hrb : r ≤ 11 := by omega
        rw [← hq] at t1
        rw [← hr2] at t2
        rw [← hq, ← hr2] at HLT
        have hk0 : ¬ ((k : Int) < 0) := by omega
        have HSUM := Lib.hid hsum
        have HMD := Lib.hid (fun W => (show Calls Try.prog 10 #[.int .i64 ((q : Int) + 1), .int .i64 ((r : Int) + 1)] W _ from mdays_any (q + 1) (r + 1) (by omega) (by omega) (by omega) W))
        have hml := mdays_le (y := q + 1) (m := r + 1)
        obtain ⟨E, hE⟩ : ∃ E, E = mdays (q + 1) (r + 1) := ⟨_, rfl⟩
        rw [← hE] at HMD HLT hml
        obtain ⟨F, hF⟩ : ∃ F, F = min d E := ⟨_, rfl⟩
        rw [← hF] at HLT
        have hmin : min (d : Int) (E : Int) = (F : Int) := by omega
        have hFb : F ≤ 31 := by omega
        have HNB := Lib.hid (fun W => (show Calls Try.prog 11 #[.int .i64 ((q : Int) + 1), .int .i64 ((r : Int) + 1), .int .i64 (F : Nat)] W _ from number_any (q + 1) (r + 1) F (by omega) (by omega) (by omega) (by omega) hFb W))
        obtain ⟨V, hV⟩ : ∃ V, V = numb (q + 1) (r + 1) F := ⟨_, rfl⟩
        rw [← hV] at HNB HLT
        rw [HNUM.out] at HLT
        clear hk2 hq hr2 hE hF hV hk hn hr hsum
        have T1 := Lib.hid t1
        have T2 := Lib.hid t2
        have HMIN := Lib.hid hmin
        have HK9 := Lib.hid (show ¬ (119988 : Int) ≤ (k : Int) by omega)
        have HKB := Lib.hid hkb
        have HK0 := Lib.hid hk0
        clear t1 t2 hmin hkb hk0
        go_upto_region 7 with (fail)
        rw [HSUM.out]
        have hk9 := HK9.out
        have hk0 := HK0.out
        have t1 := T1.out
        have t2 := T2.out
        have hmin := HMIN.out
        have M2 := HM1.out
        have p0 := M2.c0
        have p1 := M2.c1
        have p2 := M2.f0
        have p3 := M2.f1
        go_wp2_with fail
        refine (HMD.out _).mono ?_
        rintro e w3 ⟨rfl, rfl⟩
        go_wp2_with fail
        refine (HNB.out _).mono ?_
        rintro e w4 ⟨rfl, rfl⟩
        go_wp2
        have rr := ((HM1.out.set0 (.int .i64 0)).set1 (.int .i64 0))
        have r0 := rr.c0
        have r1 := rr.c1
        refine bodyPost_ret (v := .tuple #[.int .i64 (V : Nat), .agg #[.int .i64 0, .int .i64 0]]) (by simp [results, Try.results8, go_sem, r0, r1]) rfl ⟨(V : Nat), 0, 0, fun _ h => (by have := HLT.out h; omega), rfl, ?_⟩
        exact ((HY1.out.setCell (p := ⟨w.heap.size, 0, none⟩) (by simp) _).setCell (p := ⟨w.heap.size, 1, none⟩) (by simp) _)
end PB
end Go.Proofs.Ytgbabhihmbeogaa
