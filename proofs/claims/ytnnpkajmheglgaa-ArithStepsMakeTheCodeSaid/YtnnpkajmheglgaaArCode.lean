/-
  Package arith: tests, parts, doublings, certain bits; the same of the reference.
-/
import Derived.Test.YtnnpkajmheglgaaArPlain
import Derived.Test.YtnnpkajmheglgaaArShelf
import Derived.Test.YtnnpkajmheglgaaBitsEx
import Derived.Test.YtnnpkajmheglgaaBitsMake
namespace Go.Proofs.Ytnnpkajmheglgaa
open Go.RowKit
attribute [local go_sem ↓] Go.wp_at_zero Go.wp_at_succ
set_option linter.unusedVariables false
set_option linter.unusedSimpArgs false
namespace PB
theorem validp_any (p : Int) (w : World) : Calls Try.prog 38 #[.int .i64 p] w fun e w' => e = .returned (.bool (decide (1 ≤ p ∧ p ≤ 4095))) ∧ w = w' := by
  by_cases h1 : 1 ≤ p
  · have k1 : decide ((1 : Int) ≤ p) = true := by simpa using h1
    by_cases h2 : p < 4096
    · have e : decide (1 ≤ p ∧ p ≤ 4095) = true := decide_eq_true ⟨h1, by omega⟩
      rw [e]
      have k2 : decide (p < 4096) = true := by simpa using h2
      go_enter Try.func38, Try.ntmps38
      go_wp2
      go_ret
      exact ⟨rfl, rfl⟩
    · have e : decide (1 ≤ p ∧ p ≤ 4095) = false := decide_eq_false (by omega)
      rw [e]
      have k2 : decide (p < 4096) = false := by simp; omega
      go_enter Try.func38, Try.ntmps38
      go_wp2
      go_ret
      exact ⟨rfl, rfl⟩
  · have e : decide (1 ≤ p ∧ p ≤ 4095) = false := decide_eq_false (by omega)
    rw [e]
    have k1 : decide ((1 : Int) ≤ p) = false := by simp; omega
    go_enter Try.func38, Try.ntmps38
    go_wp2
    go_ret
    exact ⟨rfl, rfl⟩
set_option maxRecDepth 100000 in
set_option maxHeartbeats 1600000 in
theorem wide_any (lo hi : Int) (r : Bool) (hr : r = decide (Wid lo hi)) (w : World) : Calls Try.prog 54 #[.int .i64 lo, .int .i64 hi] w fun e w' => e = .returned (.bool r) ∧ w = w' := by
  have HR := Lib.hid hr
  clear hr
  cases h1 : decide ((0 : Int) ≤ lo) <;> cases h2 : decide (lo < 32768) <;> cases h3 : decide ((32768 : Int) ≤ hi) <;> cases h4 : decide (hi ≤ 65535) <;> cases h5 : decide (lo < 16384) <;> cases h6 : decide ((49152 : Int) ≤ hi)
  all_goals
    go_enter Try.func54, Try.ntmps54
    go_wp2
    go_ret
    refine ⟨?_, rfl⟩
    have HR2 := HR.out
    simp only [decide_eq_true_iff, decide_eq_false_iff_not] at *
    first
      | (rw [HR2, decide_eq_true (by unfold Wid; omega)]; rfl)
      | (rw [HR2, decide_eq_false (by unfold Wid; omega)]; rfl)
/-- arith.part at a valid probability. -/
theorem part_any {lo hi p : Int} {b : Nat} (hb : b ≤ 1) (h : Wid lo hi) (h1 : 1 ≤ p) (h2 : p ≤ 4095) (l2 u2 : Int) (hl : l2 = (partOf lo hi b p).1) (hu : u2 = (partOf lo hi b p).2) (w : World) :
    Calls Try.prog 58 #[.int .i64 lo, .int .i64 hi, .int .i64 (b : Nat), .int .i64 p] w fun e w' => e = .returned (.tuple #[.int .i64 l2, .int .i64 u2]) ∧ w = w' := by
  obtain ⟨a1, a2⟩ := wid_size h
  obtain ⟨b1, b2⟩ := part_bounds a1 h1 h2
  obtain ⟨c1, c2, c3, c4, c5⟩ := h
  have m1 : (hi - lo + 1) * p ≤ (hi - lo + 1) * 4095 := Int.mul_le_mul_of_nonneg_left h2 (by omega)
  have m2 : (hi - lo + 1) * 1 ≤ (hi - lo + 1) * p := Int.mul_le_mul_of_nonneg_left h1 (by omega)
  have q1 : IntKind.i64.wrap (hi - lo) = hi - lo := IntWalk.i64_in _ (by omega)
  have q2 : IntKind.i64.wrap (hi - lo + 1) = hi - lo + 1 := IntWalk.i64_in _ (by omega)
  have q3 : IntKind.i64.wrap ((hi - lo + 1) * p) = (hi - lo + 1) * p := IntWalk.i64_in _ (by omega)
  have q4 : ((hi - lo + 1) * p).tdiv 4096 = (hi - lo + 1) * p / 4096 := Int.tdiv_eq_ediv_of_nonneg (by omega)
  have q5 : IntKind.i64.wrap ((hi - lo + 1) * p / 4096) = (hi - lo + 1) * p / 4096 := IntWalk.i64_in _ (by omega)
  obtain ⟨s, hs⟩ : ∃ s, s = (hi - lo + 1) * p / 4096 := ⟨_, rfl⟩
  rw [← hs] at b1 b2 q4 q5
  unfold partOf splitOf at hl hu
  rw [← hs] at hl hu
  clear hs m1 m2 a1 a2
  have HL := Lib.hid hl
  have HU := Lib.hid hu
  clear hl hu
  rcases (by omega : b = 1 ∨ b = 0) with rfl | rfl
  · go_enter Try.func58, Try.ntmps58
    go_wp2
    exact bodyPost_ret (v := .tuple #[.int .i64 lo, .int .i64 (lo + s - 1)]) (by simp [results, Try.results58, go_sem]) rfl ⟨by rw [HL.out, HU.out]; rfl, rfl⟩
  · go_enter Try.func58, Try.ntmps58
    go_wp2
    exact bodyPost_ret (v := .tuple #[.int .i64 (lo + s - 1 + 1), .int .i64 hi]) (by simp [results, Try.results58, go_sem]) rfl ⟨by rw [HL.out, HU.out]; rfl, rfl⟩
theorem split_any {lo hi p : Int} (h : Wid lo hi) (h1 : 1 ≤ p) (h2 : p ≤ 4095) (r : Int) (hr : r = splitOf lo hi p) (w : World) :
    Calls Try.prog 35 #[.int .i64 lo, .int .i64 hi, .int .i64 p] w fun e w' => e = .returned (.int .i64 r) ∧ w = w' := by
  obtain ⟨a1, a2⟩ := wid_size h
  obtain ⟨b1, b2⟩ := part_bounds a1 h1 h2
  obtain ⟨c1, c2, c3, c4, c5⟩ := h
  have m1 : (hi - lo + 1) * p ≤ (hi - lo + 1) * 4095 := Int.mul_le_mul_of_nonneg_left h2 (by omega)
  have m2 : (hi - lo + 1) * 1 ≤ (hi - lo + 1) * p := Int.mul_le_mul_of_nonneg_left h1 (by omega)
  have q1 : IntKind.i64.wrap (hi - lo) = hi - lo := IntWalk.i64_in _ (by omega)
  have q2 : IntKind.i64.wrap (hi - lo + 1) = hi - lo + 1 := IntWalk.i64_in _ (by omega)
  have q3 : IntKind.i64.wrap ((hi - lo + 1) * p) = (hi - lo + 1) * p := IntWalk.i64_in _ (by omega)
  have q4 : ((hi - lo + 1) * p).tdiv 4096 = (hi - lo + 1) * p / 4096 := Int.tdiv_eq_ediv_of_nonneg (by omega)
  have q5 : IntKind.i64.wrap ((hi - lo + 1) * p / 4096) = (hi - lo + 1) * p / 4096 := IntWalk.i64_in _ (by omega)
  obtain ⟨s, hs⟩ : ∃ s, s = (hi - lo + 1) * p / 4096 := ⟨_, rfl⟩
  rw [← hs] at b1 b2 q4 q5
  unfold splitOf at hr
  rw [← hs] at hr
  clear hs m1 m2 a1 a2
  have HR := Lib.hid hr
  clear hr
  go_enter Try.func35, Try.ntmps35
  go_wp2
  go_ret
  exact ⟨by rw [HR.out]; rfl, rfl⟩
theorem double_none {lo hi : Int} (h : Rng lo hi) (ht : twc lo hi = none) (w : World) :
    Calls Try.prog 59 #[.int .i64 lo, .int .i64 hi] w fun e w' => e = .returned (.tuple #[.int .i64 lo, .int .i64 hi, .int .i64 0, .bool false]) ∧ w = w' := by
  obtain ⟨r1, r2, r3⟩ := h
  obtain ⟨t1, t2, t3⟩ := twc_none ht
  clear ht
  have k1 : decide (hi < 32768) = false := by simp; omega
  have k2 : decide ((32768 : Int) ≤ lo) = false := by simp; omega
  by_cases h3 : 16384 ≤ lo
  · have k3 : decide ((16384 : Int) ≤ lo) = true := by simpa using h3
    have k4 : decide (hi < 49152) = false := by simp; omega
    clear t1 t2 t3 h3
    go_enter Try.func59, Try.ntmps59
    go_wp2
    exact bodyPost_ret (v := .tuple #[.int .i64 (lo), .int .i64 (hi), .int .i64 (0), .bool false]) (by simp [results, Try.results59, go_sem]) rfl ⟨rfl, rfl⟩
  · have k3 : decide ((16384 : Int) ≤ lo) = false := by simp; omega
    clear t1 t2 t3 h3
    go_enter Try.func59, Try.ntmps59
    go_wp2
    exact bodyPost_ret (v := .tuple #[.int .i64 (lo), .int .i64 (hi), .int .i64 (0), .bool false]) (by simp [results, Try.results59, go_sem]) rfl ⟨rfl, rfl⟩
theorem double_some {lo hi : Int} {k : Nat} (h : Rng lo hi) (ht : twc lo hi = some k) (w : World) :
    Calls Try.prog 59 #[.int .i64 lo, .int .i64 hi] w fun e w' => e = .returned (.tuple #[.int .i64 (2 * (lo - 16384 * k)), .int .i64 (2 * (hi - 16384 * k) + 1), .int .i64 (16384 * k), .bool true]) ∧ w = w' := by
  obtain ⟨r1, r2, r3⟩ := h
  rcases twc_some ht with ⟨rfl, h1⟩ | ⟨rfl, h1, h2⟩ | ⟨rfl, h1, h2, h3, h4⟩
  · have k1 : decide (hi < 32768) = true := by simpa using h1
    clear ht h1
    have q1 : IntKind.i64.wrap (2 * lo) = 2 * lo := IntWalk.i64_in _ (by omega)
    have q2 : IntKind.i64.wrap (2 * hi) = 2 * hi := IntWalk.i64_in _ (by omega)
    have q3 : IntKind.i64.wrap (2 * hi + 1) = 2 * hi + 1 := IntWalk.i64_in _ (by omega)
    have e0 : lo - 16384 * ((0 : Nat) : Int) = lo := by omega
    have e1 : hi - 16384 * ((0 : Nat) : Int) = hi := by omega
    rw [e0, e1]
    clear e0 e1
    go_enter Try.func59, Try.ntmps59
    go_wp2
    exact bodyPost_ret (v := .tuple #[.int .i64 (2 * lo), .int .i64 (2 * hi + 1), .int .i64 (0), .bool true]) (by simp [results, Try.results59, go_sem]) rfl ⟨rfl, rfl⟩
  · have k1 : decide (hi < 32768) = false := by simp; omega
    have k2 : decide ((32768 : Int) ≤ lo) = true := by simpa using h2
    clear ht h1 h2
    have q0 : IntKind.i64.wrap (lo - 32768) = lo - 32768 := IntWalk.i64_in _ (by omega)
    have q1 : IntKind.i64.wrap (2 * (lo - 32768)) = 2 * (lo - 32768) := IntWalk.i64_in _ (by omega)
    have q2 : IntKind.i64.wrap (hi - 32768) = hi - 32768 := IntWalk.i64_in _ (by omega)
    have q3 : IntKind.i64.wrap (2 * (hi - 32768)) = 2 * (hi - 32768) := IntWalk.i64_in _ (by omega)
    have q4 : IntKind.i64.wrap (2 * (hi - 32768) + 1) = 2 * (hi - 32768) + 1 := IntWalk.i64_in _ (by omega)
    go_enter Try.func59, Try.ntmps59
    go_wp2
    exact bodyPost_ret (v := .tuple #[.int .i64 (2 * (lo - 32768)), .int .i64 (2 * (hi - 32768) + 1), .int .i64 (32768), .bool true]) (by simp [results, Try.results59, go_sem]) rfl ⟨rfl, rfl⟩
  · have k1 : decide (hi < 32768) = false := by simp; omega
    have k2 : decide ((32768 : Int) ≤ lo) = false := by simp; omega
    have k3 : decide ((16384 : Int) ≤ lo) = true := by simpa using h3
    have k4 : decide (hi < 49152) = true := by simpa using h4
    clear ht h1 h2 h3 h4
    have q0 : IntKind.i64.wrap (lo - 16384) = lo - 16384 := IntWalk.i64_in _ (by omega)
    have q1 : IntKind.i64.wrap (2 * (lo - 16384)) = 2 * (lo - 16384) := IntWalk.i64_in _ (by omega)
    have q2 : IntKind.i64.wrap (hi - 16384) = hi - 16384 := IntWalk.i64_in _ (by omega)
    have q3 : IntKind.i64.wrap (2 * (hi - 16384)) = 2 * (hi - 16384) := IntWalk.i64_in _ (by omega)
    have q4 : IntKind.i64.wrap (2 * (hi - 16384) + 1) = 2 * (hi - 16384) + 1 := IntWalk.i64_in _ (by omega)
    go_enter Try.func59, Try.ntmps59
    go_wp2
    exact bodyPost_ret (v := .tuple #[.int .i64 (2 * (lo - 16384)), .int .i64 (2 * (hi - 16384) + 1), .int .i64 (16384), .bool true]) (by simp [results, Try.results59, go_sem]) rfl ⟨rfl, rfl⟩
/-- The reference's Twice: -1 if none follows. -/
theorem twice_any {lo hi : Int} (r : Int) (hr : r = match twc lo hi with | none => -1 | some k => (k : Int)) (w : World) :
    Calls Try.prog 52 #[.int .i64 lo, .int .i64 hi] w fun e w' => e = .returned (.int .i64 r) ∧ w = w' := by
  rcases ht : twc lo hi with _ | k
  · rw [ht] at hr
    dsimp only at hr
    subst hr
    obtain ⟨t1, t2, t3⟩ := twc_none ht
    clear ht
    have k1 : decide (hi < 32768) = false := by simp; omega
    have k2 : decide ((32768 : Int) ≤ lo) = false := by simp; omega
    by_cases h3 : 16384 ≤ lo
    · have k3 : decide ((16384 : Int) ≤ lo) = true := by simpa using h3
      have k4 : decide (hi < 49152) = false := by simp; omega
      clear t1 t2 t3 h3
      go_enter Try.func52, Try.ntmps52
      go_wp2
      go_ret
      exact ⟨rfl, rfl⟩
    · have k3 : decide ((16384 : Int) ≤ lo) = false := by simp; omega
      clear t1 t2 t3 h3
      go_enter Try.func52, Try.ntmps52
      go_wp2
      go_ret
      exact ⟨rfl, rfl⟩
  · rw [ht] at hr
    dsimp only at hr
    subst hr
    rcases twc_some ht with ⟨rfl, h1⟩ | ⟨rfl, h1, h2⟩ | ⟨rfl, h1, h2, h3, h4⟩
    · have k1 : decide (hi < 32768) = true := by simpa using h1
      clear ht h1
      go_enter Try.func52, Try.ntmps52
      go_wp2
      go_ret
      exact ⟨rfl, rfl⟩
    · have k1 : decide (hi < 32768) = false := by simp; omega
      have k2 : decide ((32768 : Int) ≤ lo) = true := by simpa using h2
      clear ht h1 h2
      go_enter Try.func52, Try.ntmps52
      go_wp2
      go_ret
      exact ⟨rfl, rfl⟩
    · have k1 : decide (hi < 32768) = false := by simp; omega
      have k2 : decide ((32768 : Int) ≤ lo) = false := by simp; omega
      have k3 : decide ((16384 : Int) ≤ lo) = true := by simpa using h3
      have k4 : decide (hi < 49152) = true := by simpa using h4
      clear ht h1 h2 h3 h4
      go_enter Try.func52, Try.ntmps52
      go_wp2
      go_ret
      exact ⟨rfl, rfl⟩
end PB
end Go.Proofs.Ytnnpkajmheglgaa
