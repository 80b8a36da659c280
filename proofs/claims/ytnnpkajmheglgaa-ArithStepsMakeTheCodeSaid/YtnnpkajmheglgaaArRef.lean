/-
  The reference's Wide, CoderOk, DecoderOk, Steps, Sent.
-/
import Derived.Test.YtnnpkajmheglgaaArPut
import Derived.Test.YtnnpkajmheglgaaBitsRef3
namespace Go.Proofs.Ytnnpkajmheglgaa
open Go.RowKit
attribute [local go_sem ↓] Go.wp_at_zero Go.wp_at_succ
set_option linter.unusedVariables false
set_option linter.unusedSimpArgs false
namespace PB
set_option maxRecDepth 100000 in
set_option maxHeartbeats 600000 in
theorem wideref_any (lo hi : Int) (r : Bool) (hr : r = true ↔ Wid lo hi) (w : World) : Calls Try.prog 51 #[.int .i64 lo, .int .i64 hi] w fun e w' => e = .returned (.bool r) ∧ w = w' := by
  by_cases h1 : 0 ≤ lo ∧ lo ≤ 32767
  · obtain ⟨h1a, h1b⟩ := h1
    have H1A := Lib.hid h1a
    have H1B := Lib.hid h1b
    by_cases h2 : 32768 ≤ hi ∧ hi ≤ 65535
    · obtain ⟨h2a, h2b⟩ := h2
      have H2A := Lib.hid h2a
      have H2B := Lib.hid h2b
      by_cases h3 : lo < 16384
      · have k3 : decide (lo < 16384) = true := by simpa using h3
        obtain rfl : r = true := hr.2 (by unfold Wid; omega)
        clear hr h1a h1b h2a h2b h3
        go_enter Try.func51, Try.ntmps51
        go_wp2_with fail
        refine (in_yes _ _ _ _ H1A.out H1B.out).mono ?_
        rintro e w9 ⟨rfl, rfl⟩
        go_wp2_with fail
        refine (in_yes _ _ _ _ H2A.out H2B.out).mono ?_
        rintro e w9 ⟨rfl, rfl⟩
        go_wp2
        go_ret
        exact ⟨rfl, rfl⟩
      · have k3 : decide (lo < 16384) = false := by simpa using h3
        by_cases h4 : 49152 ≤ hi
        · have k4 : decide (49152 ≤ hi) = true := by simpa using h4
          obtain rfl : r = true := hr.2 (by unfold Wid; omega)
          clear hr h1a h1b h2a h2b h3 h4
          go_enter Try.func51, Try.ntmps51
          go_wp2_with fail
          refine (in_yes _ _ _ _ H1A.out H1B.out).mono ?_
          rintro e w9 ⟨rfl, rfl⟩
          go_wp2_with fail
          refine (in_yes _ _ _ _ H2A.out H2B.out).mono ?_
          rintro e w9 ⟨rfl, rfl⟩
          go_wp2
          go_ret
          exact ⟨rfl, rfl⟩
        · have k4 : decide (49152 ≤ hi) = false := by simpa using h4
          obtain rfl : r = false := by rw [Bool.eq_false_iff]; intro e; have := hr.1 e; unfold Wid at this; omega
          clear hr h1a h1b h2a h2b h3 h4
          go_enter Try.func51, Try.ntmps51
          go_wp2_with fail
          refine (in_yes _ _ _ _ H1A.out H1B.out).mono ?_
          rintro e w9 ⟨rfl, rfl⟩
          go_wp2_with fail
          refine (in_yes _ _ _ _ H2A.out H2B.out).mono ?_
          rintro e w9 ⟨rfl, rfl⟩
          go_wp2
          go_ret
          exact ⟨rfl, rfl⟩
    · obtain rfl : r = false := by rw [Bool.eq_false_iff]; intro e; have := hr.1 e; unfold Wid at this; omega
      have H2 := Lib.hid (show hi < 32768 ∨ 65535 < hi by omega)
      clear hr h1a h1b h2
      go_enter Try.func51, Try.ntmps51
      go_wp2_with fail
      refine (in_yes _ _ _ _ H1A.out H1B.out).mono ?_
      rintro e w9 ⟨rfl, rfl⟩
      go_wp2_with fail
      refine (in_no _ _ _ _ H2.out).mono ?_
      rintro e w9 ⟨rfl, rfl⟩
      go_wp2
      go_ret
      exact ⟨rfl, rfl⟩
  · obtain rfl : r = false := by rw [Bool.eq_false_iff]; intro e; have := hr.1 e; unfold Wid at this; omega
    have H1 := Lib.hid (show lo < 0 ∨ 32767 < lo by omega)
    clear hr h1
    go_enter Try.func51, Try.ntmps51
    go_wp2_with fail
    refine (in_no _ _ _ _ H1.out).mono ?_
    rintro e w9 ⟨rfl, rfl⟩
    go_wp2
    go_ret
    exact ⟨rfl, rfl⟩
set_option maxRecDepth 100000 in
set_option maxHeartbeats 600000 in
theorem coderok_any (lo hi q : Int) (r : Bool) (hr : r = true ↔ COk lo hi q) (w : World) : Calls Try.prog 28 #[.agg #[.int .i64 lo, .int .i64 hi, .int .i64 q]] w fun e w' => e = .returned (.bool r) ∧ Below w.heap.size w w' := by
  have X0 := Three.new w 50 (.int .i64 lo) (.int .i64 hi) (.int .i64 q)
  have y0 : Below w.heap.size w (w.alloc (.cells #[.int .i64 lo, .int .i64 hi, .int .i64 q] 50)) := (Below.refl _ _).alloc (Nat.le_refl _) _
  have c0 := X0.c0
  have c1 := X0.c1
  have c2 := X0.c2
  by_cases hw : Wid lo hi
  · have HW := Lib.hid (fun (W : World) => wideref_any lo hi true ⟨fun _ => hw, fun _ => rfl⟩ W)
    by_cases h1 : 0 ≤ q ∧ q ≤ 131056
    · obtain ⟨h1a, h1b⟩ := h1
      have HA := Lib.hid h1a
      have HB := Lib.hid h1b
      obtain rfl : r = true := hr.2 ⟨hw, h1a, h1b⟩
      clear hr h1a h1b hw
      go_enter Try.func28, Try.ntmps28
      go_wp2_with fail
      refine (HW.out _).mono ?_
      rintro e w9 ⟨rfl, rfl⟩
      go_wp2_with fail
      refine (in_yes _ _ _ _ HA.out HB.out).mono ?_
      rintro e w9 ⟨rfl, rfl⟩
      go_wp2
      go_ret
      exact ⟨rfl, y0⟩
    · obtain rfl : r = false := by rw [Bool.eq_false_iff]; exact fun e => h1 (hr.1 e).2
      have H1 := Lib.hid (show q < 0 ∨ 131056 < q by omega)
      clear hr h1 hw
      go_enter Try.func28, Try.ntmps28
      go_wp2_with fail
      refine (HW.out _).mono ?_
      rintro e w9 ⟨rfl, rfl⟩
      go_wp2_with fail
      refine (in_no _ _ _ _ H1.out).mono ?_
      rintro e w9 ⟨rfl, rfl⟩
      go_wp2
      go_ret
      exact ⟨rfl, y0⟩
  · have HW := Lib.hid (fun (W : World) => wideref_any lo hi false ⟨(fun h => by cases h), fun h => absurd h hw⟩ W)
    obtain rfl : r = false := by rw [Bool.eq_false_iff]; exact fun e => hw (hr.1 e).1
    clear hr hw
    go_enter Try.func28, Try.ntmps28
    go_wp2_with fail
    refine (HW.out _).mono ?_
    rintro e w9 ⟨rfl, rfl⟩
    go_wp2
    go_ret
    exact ⟨rfl, y0⟩
/-- A valid state of a decoder. -/
def DecOk (lo hi V t : Int) : Prop := Wid lo hi ∧ (lo ≤ V ∧ V ≤ hi) ∧ 16 ≤ t ∧ t ≤ 131086
instance (lo hi V t : Int) : Decidable (DecOk lo hi V t) := by unfold DecOk; exact inferInstance
set_option maxRecDepth 100000 in
set_option maxHeartbeats 600000 in
theorem decoderok_any (lo hi V t : Int) (r : Bool) (hr : r = true ↔ DecOk lo hi V t) (w : World) : Calls Try.prog 34 #[.agg #[.int .i64 lo, .int .i64 hi, .int .i64 V, .int .i64 t]] w fun e w' => e = .returned (.bool r) ∧ Below w.heap.size w w' := by
  have X0 := Four.new w 62 (.int .i64 lo) (.int .i64 hi) (.int .i64 V) (.int .i64 t)
  have y0 : Below w.heap.size w (w.alloc (.cells #[.int .i64 lo, .int .i64 hi, .int .i64 V, .int .i64 t] 62)) := (Below.refl _ _).alloc (Nat.le_refl _) _
  have c0 := X0.c0
  have c1 := X0.c1
  have c2 := X0.c2
  have c3 := X0.c3
  by_cases hw : Wid lo hi
  · have HW := Lib.hid (fun (W : World) => wideref_any lo hi true ⟨fun _ => hw, fun _ => rfl⟩ W)
    by_cases h1 : lo ≤ V ∧ V ≤ hi
    · obtain ⟨h1a, h1b⟩ := h1
      have HA := Lib.hid h1a
      have HB := Lib.hid h1b
      by_cases h2 : 16 ≤ t ∧ t ≤ 131086
      · obtain ⟨h2a, h2b⟩ := h2
        have H2A := Lib.hid h2a
        have H2B := Lib.hid h2b
        obtain rfl : r = true := hr.2 ⟨hw, ⟨h1a, h1b⟩, h2a, h2b⟩
        clear hr h1a h1b hw h2a h2b
        go_enter Try.func34, Try.ntmps34
        go_wp2_with fail
        refine (HW.out _).mono ?_
        rintro e w9 ⟨rfl, rfl⟩
        go_wp2_with fail
        refine (in_yes _ _ _ _ HA.out HB.out).mono ?_
        rintro e w9 ⟨rfl, rfl⟩
        go_wp2_with fail
        refine (in_yes _ _ _ _ H2A.out H2B.out).mono ?_
        rintro e w9 ⟨rfl, rfl⟩
        go_wp2
        go_ret
        exact ⟨rfl, y0⟩
      · obtain rfl : r = false := by rw [Bool.eq_false_iff]; exact fun e => h2 (hr.1 e).2.2
        have H2 := Lib.hid (show t < 16 ∨ 131086 < t by omega)
        clear hr h1a h1b hw h2
        go_enter Try.func34, Try.ntmps34
        go_wp2_with fail
        refine (HW.out _).mono ?_
        rintro e w9 ⟨rfl, rfl⟩
        go_wp2_with fail
        refine (in_yes _ _ _ _ HA.out HB.out).mono ?_
        rintro e w9 ⟨rfl, rfl⟩
        go_wp2_with fail
        refine (in_no _ _ _ _ H2.out).mono ?_
        rintro e w9 ⟨rfl, rfl⟩
        go_wp2
        go_ret
        exact ⟨rfl, y0⟩
    · obtain rfl : r = false := by rw [Bool.eq_false_iff]; exact fun e => h1 (hr.1 e).2.1
      have H1 := Lib.hid (show V < lo ∨ hi < V by omega)
      clear hr h1 hw
      go_enter Try.func34, Try.ntmps34
      go_wp2_with fail
      refine (HW.out _).mono ?_
      rintro e w9 ⟨rfl, rfl⟩
      go_wp2_with fail
      refine (in_no _ _ _ _ H1.out).mono ?_
      rintro e w9 ⟨rfl, rfl⟩
      go_wp2
      go_ret
      exact ⟨rfl, y0⟩
  · have HW := Lib.hid (fun (W : World) => wideref_any lo hi false ⟨(fun h => by cases h), fun h => absurd h hw⟩ W)
    obtain rfl : r = false := by rw [Bool.eq_false_iff]; exact fun e => hw (hr.1 e).1
    clear hr hw
    go_enter Try.func34, Try.ntmps34
    go_wp2_with fail
    refine (HW.out _).mono ?_
    rintro e w9 ⟨rfl, rfl⟩
    go_wp2
    go_ret
    exact ⟨rfl, y0⟩
end PB
end Go.Proofs.Ytnnpkajmheglgaa
