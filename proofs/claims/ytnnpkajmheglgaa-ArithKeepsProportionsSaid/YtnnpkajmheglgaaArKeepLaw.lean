/-
  A bit keeps the proportions of a range: the walk of the statement ArithKeepsProportions.
-/
import Derived.Test.YtnnpkajmheglgaaRows
import Derived.Test.YtnnpkajmheglgaaArPutApi
import Derived.Test.YtnnpkajmheglgaaBitsRef
import Derived.Deep.RegionHeld3
import Derived.Deep.QuietTactic
import Derived.BigQuiet
import Derived.IntWalk
import Derived.Deep.Cut
import Derived.Deep.DrawnRows
namespace Go.Proofs.Ytnnpkajmheglgaa
open Go.RowKit
attribute [local go_sem ↓] Go.wp_at_zero Go.wp_at_succ
set_option linter.unusedVariables false
set_option linter.unusedSimpArgs false
namespace PB
theorem in_yes_q (n low high : Int) (w : World) (h1 : low ≤ n) (h2 : n ≤ high) :
    Calls Try.prog 20 #[.int .i64 n, .int .i64 low, .int .i64 high] w fun e w' => e = .returned (.bool true) ∧ w' = w :=
  (in_yes n low high w h1 h2).mono fun _ _ h => ⟨h.1, h.2.symm⟩
set_option maxRecDepth 100000 in
set_option maxHeartbeats 1600000 in
theorem ak_bad {lo hi q b p code idx : Int} (h : PutE lo hi q b p code idx) (w : World)  :
    Calls Try.prog 6 #[.agg #[.int .i64 lo, .int .i64 hi, .int .i64 q], .int .i64 b, .int .i64 p] w fun e w' => e = .returned (.bool true) ∧ Below w.heap.size w w' := by
  have hc2 := h.code
  have HPU := Lib.hid (fun (W : World) => putE_any h W)
  clear h
  have P_0 := (Three.new w 50 (.int .i64 lo) (.int .i64 hi) (.int .i64 q))
  have Z0 := (Below.refl w.heap.size w).alloc (by simp) (.cells #[.int .i64 lo, .int .i64 hi, .int .i64 q] 50)
  have P_0_c0 := P_0.c0
  have P_0_c1 := P_0.c1
  have P_0_c2 := P_0.c2
  go_enter Try.func6, Try.ntmps6
  go_wp2_with fail
  refine (HPU.out _).mono ?_
  rintro e w1 ⟨rfl, y1⟩
  have P_1 := (((P_0.on y1).alloc (.cells #[.int .i64 0, .int .i64 0, .int .i64 0] 50)).alloc (.cells #[.slice none 0 0, .int .i64 0] 25)).alloc (.cells #[.int .i64 code, .int .i64 idx] 27)
  have X_1 := (((Three.new w1 50 (.int .i64 0) (.int .i64 0) (.int .i64 0))).alloc (.cells #[.slice none 0 0, .int .i64 0] 25)).alloc (.cells #[.int .i64 code, .int .i64 idx] 27)
  have B_1 := ((Two.new1 w1 (.cells #[.int .i64 0, .int .i64 0, .int .i64 0] 50) 25 (.slice none 0 0) (.int .i64 0))).alloc (.cells #[.int .i64 code, .int .i64 idx] 27)
  have F_1 := (Two.new2 w1 (.cells #[.int .i64 0, .int .i64 0, .int .i64 0] 50) (.cells #[.slice none 0 0, .int .i64 0] 25) 27 (.int .i64 code) (.int .i64 idx))
  clear P_0 P_0_c0 P_0_c1 P_0_c2
  have z1 := Z0.trans (y1.mono Z0.size)
  have Z1 := (((z1).alloc (by have := z1.size; omega) (.cells #[.int .i64 0, .int .i64 0, .int .i64 0] 50)).alloc (by have := z1.size; simp; omega) (.cells #[.slice none 0 0, .int .i64 0] 25)).alloc (by have := z1.size; simp; omega) (.cells #[.int .i64 code, .int .i64 idx] 27)
  have P_1_c0 := P_1.c0
  have P_1_c1 := P_1.c1
  have P_1_c2 := P_1.c2
  have X_1_c0 := X_1.c0
  have X_1_c1 := X_1.c1
  have X_1_c2 := X_1.c2
  have B_1_c0 := B_1.c0
  have B_1_c1 := B_1.c1
  have F_1_c0 := F_1.c0
  have F_1_c1 := F_1.c1
  go_wp2_with fail
  refine (codes_true _).mono ?_
  rintro e w2 ⟨rfl, y2⟩
  have P_2 := P_1.on y2
  have X_2 := X_1.on y2
  have B_2 := B_1.on y2
  have F_2 := F_1.on y2
  clear P_1 P_1_c0 P_1_c1 P_1_c2 X_1 X_1_c0 X_1_c1 X_1_c2 B_1 B_1_c0 B_1_c1 F_1 F_1_c0 F_1_c1
  have z2 := Z1.trans (y2.mono Z1.size)
  have Z2 := z2
  have P_2_c0 := P_2.c0
  have P_2_c1 := P_2.c1
  have P_2_c2 := P_2.c2
  have X_2_c0 := X_2.c0
  have X_2_c1 := X_2.c1
  have X_2_c2 := X_2.c2
  have B_2_c0 := B_2.c0
  have B_2_c1 := B_2.c1
  have F_2_c0 := F_2.c0
  have F_2_c1 := F_2.c1
  go_wp2_with fail
  refine (codes_true _).mono ?_
  rintro e w3 ⟨rfl, y3⟩
  have P_3 := P_2.on y3
  have X_3 := X_2.on y3
  have B_3 := B_2.on y3
  have F_3 := F_2.on y3
  clear P_2 P_2_c0 P_2_c1 P_2_c2 X_2 X_2_c0 X_2_c1 X_2_c2 B_2 B_2_c0 B_2_c1 F_2 F_2_c0 F_2_c1
  have z3 := Z2.trans (y3.mono Z2.size)
  have Z3 := z3
  have P_3_c0 := P_3.c0
  have P_3_c1 := P_3.c1
  have P_3_c2 := P_3.c2
  have X_3_c0 := X_3.c0
  have X_3_c1 := X_3.c1
  have X_3_c2 := X_3.c2
  have B_3_c0 := B_3.c0
  have B_3_c1 := B_3.c1
  have F_3_c0 := F_3.c0
  have F_3_c1 := F_3.c1
  go_wp2
  go_ret
  exact ⟨rfl, Z3⟩
set_option maxRecDepth 100000 in
set_option maxHeartbeats 1600000 in
theorem ak_ok0 {lo hi p : Int} {q : Nat} (h1 : COk lo hi (q : Nat)) (hp1 : 1 ≤ p) (hp2 : p ≤ 4095) (hbig : (sentf (stp lo hi 0 p).2.2 q).2 ≤ 131056) (w : World)  :
    Calls Try.prog 6 #[.agg #[.int .i64 lo, .int .i64 hi, .int .i64 (q : Nat)], .int .i64 ((0 : Nat) : Int), .int .i64 p] w fun e w' => e = .returned (.bool true) ∧ Below w.heap.size w w' := by
  obtain ⟨LO, hLO⟩ : ∃ LO, LO = (stp lo hi 0 p).1 := ⟨_, rfl⟩
  obtain ⟨HI, hHI⟩ : ∃ HI, HI = (stp lo hi 0 p).2.1 := ⟨_, rfl⟩
  obtain ⟨S, hS⟩ : ∃ S, S = (sentf (stp lo hi 0 p).2.2 q).1 := ⟨_, rfl⟩
  obtain ⟨Q, hQ⟩ : ∃ Q, Q = (sentf (stp lo hi 0 p).2.2 q).2 := ⟨_, rfl⟩
  obtain ⟨f1, f2, f3, f4⟩ := stp_facts 0 h1.1 hp1 hp2
  have hcnt : S.length + Q = (stp lo hi 0 p).2.2.length + q := by rw [hS, hQ]; exact sentf_count _ _
  obtain ⟨t, ht⟩ : ∃ t, t = (stp lo hi 0 p).2.2.length := ⟨_, rfl⟩
  rw [← ht] at f2 hcnt
  rw [← hLO, ← hHI, ← ht, part_size] at f4
  rw [← hLO, ← hHI] at f1
  have HPU := Lib.hid (fun (W : World) => put_ok h1 hp1 hp2 (b := 0) (by decide) LO HI S Q hLO hHI hS hQ (by rw [hQ]; exact hbig) W)
  obtain ⟨a1, a2⟩ := wid_size h1.1
  obtain ⟨b1, b2⟩ := part_bounds a1 hp1 hp2
  obtain ⟨⟨c1, c2, c3, c4, c5⟩, c6, c7⟩ := h1
  obtain ⟨e1, e2, e3, e4, e5⟩ := f1
  have m1 : (hi - lo + 1) * p ≤ (hi - lo + 1) * 4095 := Int.mul_le_mul_of_nonneg_left hp2 (by omega)
  have m2 : (hi - lo + 1) * 1 ≤ (hi - lo + 1) * p := Int.mul_le_mul_of_nonneg_left hp1 (by omega)
  have q1 : IntKind.i64.wrap (hi - lo) = hi - lo := IntWalk.i64_in _ (by omega)
  have q2 : IntKind.i64.wrap (hi - lo + 1) = hi - lo + 1 := IntWalk.i64_in _ (by omega)
  have q3 : IntKind.i64.wrap ((hi - lo + 1) * p) = (hi - lo + 1) * p := IntWalk.i64_in _ (by omega)
  have q4 : ((hi - lo + 1) * p).tdiv 4096 = (hi - lo + 1) * p / 4096 := Int.tdiv_eq_ediv_of_nonneg (by omega)
  have q5 : IntKind.i64.wrap ((hi - lo + 1) * p / 4096) = (hi - lo + 1) * p / 4096 := IntWalk.i64_in _ (by omega)
  obtain ⟨s, hs⟩ : ∃ s, s = (hi - lo + 1) * p / 4096 := ⟨_, rfl⟩
  rw [← hs] at b1 b2 q4 q5 f4
  have HF4 := Lib.hid f4
  have HT2 : t ≤ 14 := f2
  have HCN := Lib.hid hcnt
  have HPW := Lib.hid (fun (ti : Int) (hti : ti = (t : Nat)) (W : World) => hti ▸ power_any t (by omega) W)
  have hQb : Q ≤ 131056 := by rw [hQ]; exact hbig
  have hSb : S.length ≤ 140000 := by omega
  have htt : ((S.length : Nat) : Int) + (Q : Int) - (q : Int) = (t : Int) := by omega
  have HTT := Lib.hid htt
  have hpw : (2 : Nat) ^ t ≤ 16384 := Nat.le_trans (Nat.pow_le_pow_right (by decide) f2) (by decide)
  obtain ⟨pt, hpt⟩ : ∃ pt, pt = hi - lo + 1 - s := ⟨_, rfl⟩
  have hp4 : 4 ≤ pt := by omega
  have hp5 : pt ≤ 65536 := by omega
  have f5 : HI - LO + 1 = pt * ((2 ^ t : Nat) : Int) := by rw [HF4.out, hpt, two_pow_cast]; rfl
  obtain ⟨pw, hpwd⟩ : ∃ pw : Nat, pw = 2 ^ t := ⟨_, rfl⟩
  rw [← hpwd] at f5 HPW
  have m3 : 0 ≤ pt * (pw : Int) := Int.mul_nonneg (by omega) (by omega)
  have q6 : IntKind.i64.wrap (HI - LO) = HI - LO := IntWalk.i64_in _ (by omega)
  have q7 : IntKind.i64.wrap (HI - LO + 1) = HI - LO + 1 := IntWalk.i64_in _ (by omega)
  have q8 : IntKind.i64.wrap (pt * (pw : Int)) = pt * (pw : Int) := IntWalk.i64_in _ (by omega)
  have k4 : decide ((4 : Int) ≤ pt) = true := by simpa using hp4
  have HKE := Lib.hid (show ((HI - LO + 1) == pt * (pw : Int)) = true by rw [f5]; simp)
  have HPT := Lib.hid hpt
  have kb : (((0 : Nat) : Int) == 0) = true := rfl
  have tb : (t : Int) ≤ 14 := by omega
  have t0 : (0 : Int) ≤ (t : Int) := by omega
  have HTB := Lib.hid tb
  have HT0 := Lib.hid t0
  clear f5 hpt hLO hHI hS hQ ht f3 f4 hcnt htt hpwd hpw m3 hs
  have P_0 := (Three.new w 50 (.int .i64 lo) (.int .i64 hi) (.int .i64 (q : Nat)))
  have Z0 := (Below.refl w.heap.size w).alloc (by simp) (.cells #[.int .i64 lo, .int .i64 hi, .int .i64 (q : Nat)] 50)
  have P_0_c0 := P_0.c0
  have P_0_c1 := P_0.c1
  have P_0_c2 := P_0.c2
  go_enter Try.func6, Try.ntmps6
  go_wp2_with fail
  refine (HPU.out _).mono ?_
  rintro e w1 ⟨A1, n1, c1, rfl, R1, y1⟩
  have P_1 := (((P_0.on y1).alloc (.cells #[.int .i64 LO, .int .i64 HI, .int .i64 (Q : Nat)] 50)).alloc (.cells #[.slice A1 n1 c1, .int .i64 S.length] 25)).alloc (.cells #[.int .i64 0, .int .i64 0] 27)
  have R_1 := (((R1).alloc (.cells #[.int .i64 LO, .int .i64 HI, .int .i64 (Q : Nat)] 50)).alloc (.cells #[.slice A1 n1 c1, .int .i64 S.length] 25)).alloc (.cells #[.int .i64 0, .int .i64 0] 27)
  have X_1 := (((Three.new w1 50 (.int .i64 LO) (.int .i64 HI) (.int .i64 (Q : Nat)))).alloc (.cells #[.slice A1 n1 c1, .int .i64 S.length] 25)).alloc (.cells #[.int .i64 0, .int .i64 0] 27)
  have B_1 := ((Two.new1 w1 (.cells #[.int .i64 LO, .int .i64 HI, .int .i64 (Q : Nat)] 50) 25 (.slice A1 n1 c1) (.int .i64 S.length))).alloc (.cells #[.int .i64 0, .int .i64 0] 27)
  have F_1 := (Two.new2 w1 (.cells #[.int .i64 LO, .int .i64 HI, .int .i64 (Q : Nat)] 50) (.cells #[.slice A1 n1 c1, .int .i64 S.length] 25) 27 (.int .i64 0) (.int .i64 0))
  clear P_0 P_0_c0 P_0_c1 P_0_c2
  have z1 := Z0.trans (y1.mono Z0.size)
  have Z1 := (((z1).alloc (by have := z1.size; omega) (.cells #[.int .i64 LO, .int .i64 HI, .int .i64 (Q : Nat)] 50)).alloc (by have := z1.size; simp; omega) (.cells #[.slice A1 n1 c1, .int .i64 S.length] 25)).alloc (by have := z1.size; simp; omega) (.cells #[.int .i64 0, .int .i64 0] 27)
  have P_1_c0 := P_1.c0
  have P_1_c1 := P_1.c1
  have P_1_c2 := P_1.c2
  have X_1_c0 := X_1.c0
  have X_1_c1 := X_1.c1
  have X_1_c2 := X_1.c2
  have B_1_c0 := B_1.c0
  have B_1_c1 := B_1.c1
  have F_1_c0 := F_1.c0
  have F_1_c1 := F_1.c1
  go_wp2_with fail
  refine (codes_true _).mono ?_
  rintro e w2 ⟨rfl, y2⟩
  have P_2 := P_1.on y2
  have R_2 := R_1.on y2
  have X_2 := X_1.on y2
  have B_2 := B_1.on y2
  have F_2 := F_1.on y2
  clear P_1 P_1_c0 P_1_c1 P_1_c2 R_1 X_1 X_1_c0 X_1_c1 X_1_c2 B_1 B_1_c0 B_1_c1 F_1 F_1_c0 F_1_c1
  have z2 := Z1.trans (y2.mono Z1.size)
  have Z2 := z2
  have P_2_c0 := P_2.c0
  have P_2_c1 := P_2.c1
  have P_2_c2 := P_2.c2
  have X_2_c0 := X_2.c0
  have X_2_c1 := X_2.c1
  have X_2_c2 := X_2.c2
  have B_2_c0 := B_2.c0
  have B_2_c1 := B_2.c1
  have F_2_c0 := F_2.c0
  have F_2_c1 := F_2.c1
  go_upto_region 8 with (fail)
  try rw [HTT.out]
  have HP2 := HPT.out
  try rw [← HP2]
  have ke := HKE.out
  clear HP2
  go_quiet ((first | (go_at_call 20; exact Calls.quiet_of_same (in_yes_q _ _ _ _ HT0.out HTB.out)) | (go_at_call 25; exact Calls.quiet_of_same (HPW.out _ rfl _))))
  go_wp2
  go_ret
  exact ⟨rfl, belowN Z2 _⟩
set_option maxRecDepth 100000 in
set_option maxHeartbeats 1600000 in
theorem ak_ok1 {lo hi p : Int} {q : Nat} (h1 : COk lo hi (q : Nat)) (hp1 : 1 ≤ p) (hp2 : p ≤ 4095) (hbig : (sentf (stp lo hi 1 p).2.2 q).2 ≤ 131056) (w : World)  :
    Calls Try.prog 6 #[.agg #[.int .i64 lo, .int .i64 hi, .int .i64 (q : Nat)], .int .i64 ((1 : Nat) : Int), .int .i64 p] w fun e w' => e = .returned (.bool true) ∧ Below w.heap.size w w' := by
  obtain ⟨LO, hLO⟩ : ∃ LO, LO = (stp lo hi 1 p).1 := ⟨_, rfl⟩
  obtain ⟨HI, hHI⟩ : ∃ HI, HI = (stp lo hi 1 p).2.1 := ⟨_, rfl⟩
  obtain ⟨S, hS⟩ : ∃ S, S = (sentf (stp lo hi 1 p).2.2 q).1 := ⟨_, rfl⟩
  obtain ⟨Q, hQ⟩ : ∃ Q, Q = (sentf (stp lo hi 1 p).2.2 q).2 := ⟨_, rfl⟩
  obtain ⟨f1, f2, f3, f4⟩ := stp_facts 1 h1.1 hp1 hp2
  have hcnt : S.length + Q = (stp lo hi 1 p).2.2.length + q := by rw [hS, hQ]; exact sentf_count _ _
  obtain ⟨t, ht⟩ : ∃ t, t = (stp lo hi 1 p).2.2.length := ⟨_, rfl⟩
  rw [← ht] at f2 hcnt
  rw [← hLO, ← hHI, ← ht, part_size] at f4
  rw [← hLO, ← hHI] at f1
  have HPU := Lib.hid (fun (W : World) => put_ok h1 hp1 hp2 (b := 1) (by decide) LO HI S Q hLO hHI hS hQ (by rw [hQ]; exact hbig) W)
  obtain ⟨a1, a2⟩ := wid_size h1.1
  obtain ⟨b1, b2⟩ := part_bounds a1 hp1 hp2
  obtain ⟨⟨c1, c2, c3, c4, c5⟩, c6, c7⟩ := h1
  obtain ⟨e1, e2, e3, e4, e5⟩ := f1
  have m1 : (hi - lo + 1) * p ≤ (hi - lo + 1) * 4095 := Int.mul_le_mul_of_nonneg_left hp2 (by omega)
  have m2 : (hi - lo + 1) * 1 ≤ (hi - lo + 1) * p := Int.mul_le_mul_of_nonneg_left hp1 (by omega)
  have q1 : IntKind.i64.wrap (hi - lo) = hi - lo := IntWalk.i64_in _ (by omega)
  have q2 : IntKind.i64.wrap (hi - lo + 1) = hi - lo + 1 := IntWalk.i64_in _ (by omega)
  have q3 : IntKind.i64.wrap ((hi - lo + 1) * p) = (hi - lo + 1) * p := IntWalk.i64_in _ (by omega)
  have q4 : ((hi - lo + 1) * p).tdiv 4096 = (hi - lo + 1) * p / 4096 := Int.tdiv_eq_ediv_of_nonneg (by omega)
  have q5 : IntKind.i64.wrap ((hi - lo + 1) * p / 4096) = (hi - lo + 1) * p / 4096 := IntWalk.i64_in _ (by omega)
  obtain ⟨s, hs⟩ : ∃ s, s = (hi - lo + 1) * p / 4096 := ⟨_, rfl⟩
  rw [← hs] at b1 b2 q4 q5 f4
  have HF4 := Lib.hid f4
  have HT2 : t ≤ 14 := f2
  have HCN := Lib.hid hcnt
  have HPW := Lib.hid (fun (ti : Int) (hti : ti = (t : Nat)) (W : World) => hti ▸ power_any t (by omega) W)
  have hQb : Q ≤ 131056 := by rw [hQ]; exact hbig
  have hSb : S.length ≤ 140000 := by omega
  have htt : ((S.length : Nat) : Int) + (Q : Int) - (q : Int) = (t : Int) := by omega
  have HTT := Lib.hid htt
  have hpw : (2 : Nat) ^ t ≤ 16384 := Nat.le_trans (Nat.pow_le_pow_right (by decide) f2) (by decide)
  obtain ⟨pt, hpt⟩ : ∃ pt, pt = s := ⟨_, rfl⟩
  have hp4 : 4 ≤ pt := by omega
  have hp5 : pt ≤ 65536 := by omega
  have f5 : HI - LO + 1 = pt * ((2 ^ t : Nat) : Int) := by rw [HF4.out, hpt, two_pow_cast]; rfl
  obtain ⟨pw, hpwd⟩ : ∃ pw : Nat, pw = 2 ^ t := ⟨_, rfl⟩
  rw [← hpwd] at f5 HPW
  have m3 : 0 ≤ pt * (pw : Int) := Int.mul_nonneg (by omega) (by omega)
  have q6 : IntKind.i64.wrap (HI - LO) = HI - LO := IntWalk.i64_in _ (by omega)
  have q7 : IntKind.i64.wrap (HI - LO + 1) = HI - LO + 1 := IntWalk.i64_in _ (by omega)
  have q8 : IntKind.i64.wrap (pt * (pw : Int)) = pt * (pw : Int) := IntWalk.i64_in _ (by omega)
  have k4 : decide ((4 : Int) ≤ pt) = true := by simpa using hp4
  have HKE := Lib.hid (show ((HI - LO + 1) == pt * (pw : Int)) = true by rw [f5]; simp)
  have HPT := Lib.hid hpt
  have kb : (((1 : Nat) : Int) == 0) = false := rfl
  have tb : (t : Int) ≤ 14 := by omega
  have t0 : (0 : Int) ≤ (t : Int) := by omega
  have HTB := Lib.hid tb
  have HT0 := Lib.hid t0
  clear f5 hpt hLO hHI hS hQ ht f3 f4 hcnt htt hpwd hpw m3 hs
  have P_0 := (Three.new w 50 (.int .i64 lo) (.int .i64 hi) (.int .i64 (q : Nat)))
  have Z0 := (Below.refl w.heap.size w).alloc (by simp) (.cells #[.int .i64 lo, .int .i64 hi, .int .i64 (q : Nat)] 50)
  have P_0_c0 := P_0.c0
  have P_0_c1 := P_0.c1
  have P_0_c2 := P_0.c2
  go_enter Try.func6, Try.ntmps6
  go_wp2_with fail
  refine (HPU.out _).mono ?_
  rintro e w1 ⟨A1, n1, c1, rfl, R1, y1⟩
  have P_1 := (((P_0.on y1).alloc (.cells #[.int .i64 LO, .int .i64 HI, .int .i64 (Q : Nat)] 50)).alloc (.cells #[.slice A1 n1 c1, .int .i64 S.length] 25)).alloc (.cells #[.int .i64 0, .int .i64 0] 27)
  have R_1 := (((R1).alloc (.cells #[.int .i64 LO, .int .i64 HI, .int .i64 (Q : Nat)] 50)).alloc (.cells #[.slice A1 n1 c1, .int .i64 S.length] 25)).alloc (.cells #[.int .i64 0, .int .i64 0] 27)
  have X_1 := (((Three.new w1 50 (.int .i64 LO) (.int .i64 HI) (.int .i64 (Q : Nat)))).alloc (.cells #[.slice A1 n1 c1, .int .i64 S.length] 25)).alloc (.cells #[.int .i64 0, .int .i64 0] 27)
  have B_1 := ((Two.new1 w1 (.cells #[.int .i64 LO, .int .i64 HI, .int .i64 (Q : Nat)] 50) 25 (.slice A1 n1 c1) (.int .i64 S.length))).alloc (.cells #[.int .i64 0, .int .i64 0] 27)
  have F_1 := (Two.new2 w1 (.cells #[.int .i64 LO, .int .i64 HI, .int .i64 (Q : Nat)] 50) (.cells #[.slice A1 n1 c1, .int .i64 S.length] 25) 27 (.int .i64 0) (.int .i64 0))
  clear P_0 P_0_c0 P_0_c1 P_0_c2
  have z1 := Z0.trans (y1.mono Z0.size)
  have Z1 := (((z1).alloc (by have := z1.size; omega) (.cells #[.int .i64 LO, .int .i64 HI, .int .i64 (Q : Nat)] 50)).alloc (by have := z1.size; simp; omega) (.cells #[.slice A1 n1 c1, .int .i64 S.length] 25)).alloc (by have := z1.size; simp; omega) (.cells #[.int .i64 0, .int .i64 0] 27)
  have P_1_c0 := P_1.c0
  have P_1_c1 := P_1.c1
  have P_1_c2 := P_1.c2
  have X_1_c0 := X_1.c0
  have X_1_c1 := X_1.c1
  have X_1_c2 := X_1.c2
  have B_1_c0 := B_1.c0
  have B_1_c1 := B_1.c1
  have F_1_c0 := F_1.c0
  have F_1_c1 := F_1.c1
  go_wp2_with fail
  refine (codes_true _).mono ?_
  rintro e w2 ⟨rfl, y2⟩
  have P_2 := P_1.on y2
  have R_2 := R_1.on y2
  have X_2 := X_1.on y2
  have B_2 := B_1.on y2
  have F_2 := F_1.on y2
  clear P_1 P_1_c0 P_1_c1 P_1_c2 R_1 X_1 X_1_c0 X_1_c1 X_1_c2 B_1 B_1_c0 B_1_c1 F_1 F_1_c0 F_1_c1
  have z2 := Z1.trans (y2.mono Z1.size)
  have Z2 := z2
  have P_2_c0 := P_2.c0
  have P_2_c1 := P_2.c1
  have P_2_c2 := P_2.c2
  have X_2_c0 := X_2.c0
  have X_2_c1 := X_2.c1
  have X_2_c2 := X_2.c2
  have B_2_c0 := B_2.c0
  have B_2_c1 := B_2.c1
  have F_2_c0 := F_2.c0
  have F_2_c1 := F_2.c1
  go_upto_region 8 with (fail)
  try rw [HTT.out]
  have HP2 := HPT.out
  try rw [← HP2]
  have ke := HKE.out
  clear HP2
  go_quiet ((first | (go_at_call 20; exact Calls.quiet_of_same (in_yes_q _ _ _ _ HT0.out HTB.out)) | (go_at_call 25; exact Calls.quiet_of_same (HPW.out _ rfl _))))
  go_wp2
  go_ret
  exact ⟨rfl, belowN Z2 _⟩
theorem ak_all {lo hi q b p : Int} (w : World) : Calls Try.prog 6 #[.agg #[.int .i64 lo, .int .i64 hi, .int .i64 q], .int .i64 b, .int .i64 p] w fun e w' => e = .returned (.bool true) ∧ Below w.heap.size w w' := by
  rcases put_ex lo hi q b p with ⟨code, idx, h⟩ | ⟨h1, h2, h3, h4⟩
  · exact ak_bad h w
  · obtain ⟨m, rfl⟩ : ∃ m : Nat, q = (m : Nat) := ⟨q.toNat, by have := h1.2.1; omega⟩
    rcases h2 with rfl | rfl
    · exact ak_ok0 h1 h3.1 h3.2 (by simpa using h4) w
    · exact ak_ok1 h1 h3.1 h3.2 (by simpa using h4) w
end PB
end Go.Proofs.Ytnnpkajmheglgaa
