/-
  arith.finish, arith.Start.
-/
import Derived.Test.YtnnpkajmheglgaaArEnc
namespace Go.Proofs.Ytnnpkajmheglgaa
open Go.RowKit
attribute [local go_sem ↓] Go.wp_at_zero Go.wp_at_succ
set_option linter.unusedVariables false
set_option linter.unusedSimpArgs false
namespace PB
theorem finish_any {lo hi : Int} {q : Nat} (hq : q ≤ 500000) (b : Nat) (hb : b = if lo < 16384 then 0 else 1) (w : World) :
    Calls Try.prog 41 #[.agg #[.int .i64 lo, .int .i64 hi, .int .i64 (q : Nat)]] w fun e w' => e = .returned (.string (bt (crt b (q + 1)))) ∧ Below w.heap.size w w' := by
  have C0 := Three.new w 50 (.int .i64 lo) (.int .i64 hi) (.int .i64 (q : Nat))
  have y0 : Below w.heap.size w (w.alloc (.cells #[.int .i64 lo, .int .i64 hi, .int .i64 (q : Nat)] 50)) := (Below.refl _ _).alloc (Nat.le_refl _) _
  have c0 := C0.c0
  have c1 := C0.c1
  have c2 := C0.c2
  by_cases h : lo < 16384
  · rw [if_pos h] at hb
    subst hb
    have k1 : decide (lo < 16384) = true := by simpa using h
    go_enter Try.func41, Try.ntmps41
    go_wp2_with fail
    refine (certain_int (b := 0) (q := q + 1) _ _ rfl (by omega) (by decide) (by omega) _).mono ?_
    rintro e w1 ⟨rfl, y1⟩
    have Y := y0.trans (y1.mono y0.size)
    go_wp2
    go_ret
    exact ⟨rfl, Y⟩
  · rw [if_neg h] at hb
    subst hb
    have k1 : decide (lo < 16384) = false := by simpa using h
    go_enter Try.func41, Try.ntmps41
    go_wp2_with fail
    refine (certain_int (b := 1) (q := q + 1) _ _ rfl (by omega) (by decide) (by omega) _).mono ?_
    rintro e w1 ⟨rfl, y1⟩
    have Y := y0.trans (y1.mono y0.size)
    go_wp2
    go_ret
    exact ⟨rfl, Y⟩
theorem start_any (w : World) : Calls Try.prog 27 #[] w fun e w' => e = .returned (.agg #[.int .i64 0, .int .i64 65535, .int .i64 0]) ∧ Below w.heap.size w w' := by
  have X1 := Three.new w 50 (.int .i64 0) (.int .i64 65535) (.int .i64 0)
  have r0 := X1.c0
  have r1 := X1.c1
  have r2 := X1.c2
  have R0 := Lib.hid r0
  have R1 := Lib.hid r1
  have R2 := Lib.hid r2
  clear r0 r1 r2
  go_enter Try.func27, Try.ntmps27
  go_wp2
  have r0 := R0.out
  have r1 := R1.out
  have r2 := R2.out
  exact bodyPost_ret (v := .agg #[.int .i64 0, .int .i64 65535, .int .i64 0]) (by simp [results, Try.results27, go_sem, r0, r1, r2]) rfl ⟨rfl, (Below.refl _ _).alloc (Nat.le_refl _) _⟩
end PB
end Go.Proofs.Ytnnpkajmheglgaa
