/-
  arith.validCoder, arith.Put, arith.Finish; the reference's Wide, CoderOk.
-/
import Derived.Test.YtnnpkajmheglgaaArFin
import Derived.Test.YtnnpkajmheglgaaArPlain3
import Derived.Test.YtnnpkajmheglgaaBoxes
import Derived.Test.YtnnpkajmheglgaaBitsEx
namespace Go.Proofs.Ytnnpkajmheglgaa
open Go.RowKit
attribute [local go_sem ↓] Go.wp_at_zero Go.wp_at_succ
set_option linter.unusedVariables false
set_option linter.unusedSimpArgs false
namespace PB
/-- A valid state of an encoder. -/
def COk (lo hi q : Int) : Prop := Wid lo hi ∧ 0 ≤ q ∧ q ≤ 131056
instance (lo hi q : Int) : Decidable (COk lo hi q) := by unfold COk; exact inferInstance
theorem arfault_any (code index : Int) (w : World) :
    Calls Try.prog 37 #[.int .i64 code, .int .i64 index] w fun e w' => e = .returned (.agg #[.int .i64 code, .int .i64 index]) ∧ Below w.heap.size w w' := by
  go_enter Try.func37, Try.ntmps37
  go_wp2
  refine bodyPost_ret (v := .agg #[.int .i64 code, .int .i64 index]) (by simp [results, Try.results37, go_sem]) rfl ⟨rfl, ?_⟩
  exact (Below.refl _ _).alloc (Nat.le_refl _) _
theorem own_low {w : World} {base : Nat} {e : TypeId} {size : Nat} {v : Value} {n : Nat} {xs : List Value} (h : w.ownsRow base e size v n xs) {p : Addr} (hp : p.block < base) (u : Value) : (w.setCell p u).ownsRow base e size v n xs :=
  own_far_any h (by intro e; have := (h.lt _ e).1; omega) u
theorem bt_byte (l : List Nat) (h01 : Is01 l) (i : Nat) (h : i < (bt l).size) : (bt l)[i].toNat = 48 + l.getD i 0 := by
  have hi : i < l.length := by rwa [bt_size] at h
  have e : (bt l)[i] = UInt8.ofNat (48 + l[i]) := by
    show (bt l).data[i] = _
    have e2 := bt_data l
    simp only [e2]
    simp
  have := h01 i
  rw [e, getD_lt hi]
  rw [getD_lt hi] at this
  simp
  omega
theorem validp_no (p : Int) (h : decide (1 ≤ p ∧ p ≤ 4095) = false) (w : World) : Calls Try.prog 38 #[.int .i64 p] w fun e w' => e = .returned (.bool false) ∧ w = w' := by
  have := validp_any p w
  rw [h] at this
  exact this
theorem validp_yes (p : Int) (h : decide (1 ≤ p ∧ p ≤ 4095) = true) (w : World) : Calls Try.prog 38 #[.int .i64 p] w fun e w' => e = .returned (.bool true) ∧ w = w' := by
  have := validp_any p w
  rw [h] at this
  exact this
/-- bits.Make at the text of bits. -/
theorem make_bt (l : List Nat) (h01 : Is01 l) (hl : l.length ≤ 131072) (w : World) :
    Calls Try.prog 42 #[.string (bt l)] w fun e w' => ∃ A n c, e = .returned (.tuple #[.agg #[.slice A n c, .int .i64 l.length], .agg #[.int .i64 0, .int .i64 0]]) ∧ w'.ownsRow w.heap.size 5 1 (.slice A n c) n (bcells (pack l)) ∧ Below w.heap.size w w' := by
  have e : tbits (bt l) (bt l).size = l := by
    unfold tbits
    rw [List.take_of_length_le (by rw [Array.length_toList]; exact Nat.le_refl _), bt_data]
    apply List.ext_getElem
    · simp
    · intro i h1 h2
      have := h01 i
      rw [getD_lt h2] at this
      simp
      omega
  refine (make_upto (bt l) (bt l).size w (by rw [bt_size]; exact hl) (fun i h _ => ?_) (Nat.le_refl _) (fun h => absurd h (Nat.lt_irrefl _))).mono ?_
  · have := h01 i
    rw [bt_byte l h01 i h]
    omega
  · rintro e2 w' (⟨h, _⟩ | ⟨_, A, n, c, rfl, ho, hb⟩)
    · exact absurd h (Nat.lt_irrefl _)
    · rw [e] at ho ⊢
      exact ⟨A, n, c, rfl, ho, hb⟩
set_option maxHeartbeats 800000 in
theorem validcoder_any (lo hi q : Int) (r : Bool) (hr : r = true ↔ COk lo hi q) (w : World) :
    Calls Try.prog 50 #[.agg #[.int .i64 lo, .int .i64 hi, .int .i64 q]] w fun e w' => e = .returned (.bool r) ∧ Below w.heap.size w w' := by
  have X0 := Three.new w 50 (.int .i64 lo) (.int .i64 hi) (.int .i64 q)
  have y0 : Below w.heap.size w (w.alloc (.cells #[.int .i64 lo, .int .i64 hi, .int .i64 q] 50)) := (Below.refl _ _).alloc (Nat.le_refl _) _
  have c0 := X0.c0
  have c1 := X0.c1
  have c2 := X0.c2
  by_cases hw : Wid lo hi
  · have HD := Lib.hid (show true = decide (Wid lo hi) by simp [hw])
    by_cases h1 : 0 ≤ q
    · have k1 : decide ((0 : Int) ≤ q) = true := by simpa using h1
      by_cases h2 : q ≤ 131056
      · have k2 : decide (q ≤ 131056) = true := by simpa using h2
        obtain rfl : r = true := hr.2 ⟨hw, h1, h2⟩
        clear hr hw h1 h2
        go_enter Try.func50, Try.ntmps50
        go_wp2_with fail
        refine (wide_any _ _ true HD.out _).mono ?_
        rintro e w9 ⟨rfl, rfl⟩
        go_wp2
        go_ret
        exact ⟨rfl, y0⟩
      · have k2 : decide (q ≤ 131056) = false := by simpa using h2
        obtain rfl : r = false := by rw [Bool.eq_false_iff]; exact fun e => h2 (hr.1 e).2.2
        clear hr hw h1 h2
        go_enter Try.func50, Try.ntmps50
        go_wp2_with fail
        refine (wide_any _ _ true HD.out _).mono ?_
        rintro e w9 ⟨rfl, rfl⟩
        go_wp2
        go_ret
        exact ⟨rfl, y0⟩
    · have k1 : decide ((0 : Int) ≤ q) = false := by simpa using h1
      obtain rfl : r = false := by rw [Bool.eq_false_iff]; exact fun e => h1 (hr.1 e).2.1
      clear hr hw h1
      go_enter Try.func50, Try.ntmps50
      go_wp2_with fail
      refine (wide_any _ _ true HD.out _).mono ?_
      rintro e w9 ⟨rfl, rfl⟩
      go_wp2
      go_ret
      exact ⟨rfl, y0⟩
  · have HD := Lib.hid (show false = decide (Wid lo hi) by simp [hw])
    obtain rfl : r = false := by rw [Bool.eq_false_iff]; exact fun e => hw (hr.1 e).1
    clear hr hw
    go_enter Try.func50, Try.ntmps50
    go_wp2_with fail
    refine (wide_any _ _ false HD.out _).mono ?_
    rintro e w9 ⟨rfl, rfl⟩
    go_wp2
    go_ret
    exact ⟨rfl, y0⟩
set_option maxRecDepth 100000 in
set_option maxHeartbeats 600000 in
theorem put_form {lo hi q : Int} (hno : ¬ COk lo hi q) (b p : Int) (w : World) :
    Calls Try.prog 24 #[.agg #[.int .i64 lo, .int .i64 hi, .int .i64 q], .int .i64 b, .int .i64 p] w fun e w' => e = .returned (.tuple #[.agg #[.int .i64 0, .int .i64 0, .int .i64 0], .agg #[.slice none 0 0, .int .i64 0], .agg #[.int .i64 6, .int .i64 (-1)]]) ∧ Below w.heap.size w w' := by
  have HOK := Lib.hid (fun (W : World) => validcoder_any lo hi q false ⟨(fun h => by cases h), fun h => absurd h hno⟩ W)
  clear hno
  have P_0 := ((((Three.new w 50 (.int .i64 lo) (.int .i64 hi) (.int .i64 q))).alloc (.cells #[.int .i64 0, .int .i64 0, .int .i64 0] 50)).alloc (.cells #[.slice none 0 0, .int .i64 0] 25)).alloc (.cells #[.int .i64 0, .int .i64 0] 27)
  have X_0 := (((Three.new1 w (.cells #[.int .i64 lo, .int .i64 hi, .int .i64 q] 50) 50 (.int .i64 0) (.int .i64 0) (.int .i64 0))).alloc (.cells #[.slice none 0 0, .int .i64 0] 25)).alloc (.cells #[.int .i64 0, .int .i64 0] 27)
  have Y_0 := ((Two.new2 w (.cells #[.int .i64 lo, .int .i64 hi, .int .i64 q] 50) (.cells #[.int .i64 0, .int .i64 0, .int .i64 0] 50) 25 (.slice none 0 0) (.int .i64 0))).alloc (.cells #[.int .i64 0, .int .i64 0] 27)
  have F_0 := (Two.new3 w (.cells #[.int .i64 lo, .int .i64 hi, .int .i64 q] 50) (.cells #[.int .i64 0, .int .i64 0, .int .i64 0] 50) (.cells #[.slice none 0 0, .int .i64 0] 25) 27 (.int .i64 0) (.int .i64 0))
  have Z0 := ((((Below.refl w.heap.size w).alloc (by simp) (.cells #[.int .i64 lo, .int .i64 hi, .int .i64 q] 50)).alloc (by simp) (.cells #[.int .i64 0, .int .i64 0, .int .i64 0] 50)).alloc (by simp; omega) (.cells #[.slice none 0 0, .int .i64 0] 25)).alloc (by simp; omega) (.cells #[.int .i64 0, .int .i64 0] 27)
  have P_0_c0 := P_0.c0
  have P_0_c1 := P_0.c1
  have P_0_c2 := P_0.c2
  have X_0_c0 := X_0.c0
  have X_0_c1 := X_0.c1
  have X_0_c2 := X_0.c2
  have X_0_f0 := X_0.f0
  have X_0_f1 := X_0.f1
  have X_0_f2 := X_0.f2
  have Y_0_c0 := Y_0.c0
  have Y_0_c1 := Y_0.c1
  have Y_0_f0 := Y_0.f0
  have Y_0_f1 := Y_0.f1
  have F_0_c0 := F_0.c0
  have F_0_c1 := F_0.c1
  have F_0_f0 := F_0.f0
  have F_0_f1 := F_0.f1
  go_enter Try.func24, Try.ntmps24
  go_wp2_with fail
  refine (HOK.out _).mono ?_
  rintro e w1 ⟨rfl, y1⟩
  have P_1 := P_0.on y1
  have X_1 := X_0.on y1
  have Y_1 := Y_0.on y1
  have F_1 := F_0.on y1
  clear P_0 P_0_c0 P_0_c1 P_0_c2 X_0 X_0_c0 X_0_c1 X_0_c2 X_0_f0 X_0_f1 X_0_f2 Y_0 Y_0_c0 Y_0_c1 Y_0_f0 Y_0_f1 F_0 F_0_c0 F_0_c1 F_0_f0 F_0_f1
  have z1 := Z0.trans (y1.mono Z0.size)
  have Z1 := z1
  have P_1_c0 := P_1.c0
  have P_1_c1 := P_1.c1
  have P_1_c2 := P_1.c2
  have X_1_c0 := X_1.c0
  have X_1_c1 := X_1.c1
  have X_1_c2 := X_1.c2
  have X_1_f0 := X_1.f0
  have X_1_f1 := X_1.f1
  have X_1_f2 := X_1.f2
  have Y_1_c0 := Y_1.c0
  have Y_1_c1 := Y_1.c1
  have Y_1_f0 := Y_1.f0
  have Y_1_f1 := Y_1.f1
  have F_1_c0 := F_1.c0
  have F_1_c1 := F_1.c1
  have F_1_f0 := F_1.f0
  have F_1_f1 := F_1.f1
  go_wp2_with fail
  refine (arfault_any _ _ _).mono ?_
  rintro e w2 ⟨rfl, y2⟩
  have P_2 := P_1.on y2
  have X_2 := X_1.on y2
  have Y_2 := Y_1.on y2
  have F_2 := F_1.on y2
  clear P_1 P_1_c0 P_1_c1 P_1_c2 X_1 X_1_c0 X_1_c1 X_1_c2 X_1_f0 X_1_f1 X_1_f2 Y_1 Y_1_c0 Y_1_c1 Y_1_f0 Y_1_f1 F_1 F_1_c0 F_1_c1 F_1_f0 F_1_f1
  have z2 := Z1.trans (y2.mono Z1.size)
  have Z2 := z2
  have P_2_c0 := P_2.c0
  have P_2_c1 := P_2.c1
  have P_2_c2 := P_2.c2
  have X_2_c0 := X_2.c0
  have X_2_c1 := X_2.c1
  have X_2_c2 := X_2.c2
  have X_2_f0 := X_2.f0
  have X_2_f1 := X_2.f1
  have X_2_f2 := X_2.f2
  have Y_2_c0 := Y_2.c0
  have Y_2_c1 := Y_2.c1
  have Y_2_f0 := Y_2.f0
  have Y_2_f1 := Y_2.f1
  have F_2_c0 := F_2.c0
  have F_2_c1 := F_2.c1
  have F_2_f0 := F_2.f0
  have F_2_f1 := F_2.f1
  go_wp2
  have rX := ((((((((X_2.set0 (.int .i64 0)).set1 (.int .i64 0)).set2 (.int .i64 0)).far (p := ⟨w.heap.size + 2, 0, none⟩) (by simp) (.slice none 0 0)).far (p := ⟨w.heap.size + 2, 1, none⟩) (by simp) (.int .i64 0)).far (p := ⟨w.heap.size + 3, 0, none⟩) (by simp) (.int .i64 6)).far (p := ⟨w.heap.size + 3, 1, none⟩) (by simp) (.int .i64 (-1))))
  have rX_0 := rX.c0
  have rX_1 := rX.c1
  have rX_2 := rX.c2
  have rY := ((((((((Y_2.far (p := ⟨w.heap.size + 1, 0, none⟩) (by simp) (.int .i64 0)).far (p := ⟨w.heap.size + 1, 1, none⟩) (by simp) (.int .i64 0)).far (p := ⟨w.heap.size + 1, 2, none⟩) (by simp) (.int .i64 0)).set0 (.slice none 0 0)).set1 (.int .i64 0)).far (p := ⟨w.heap.size + 3, 0, none⟩) (by simp) (.int .i64 6)).far (p := ⟨w.heap.size + 3, 1, none⟩) (by simp) (.int .i64 (-1))))
  have rY_0 := rY.c0
  have rY_1 := rY.c1
  have rF := ((((((((F_2.far (p := ⟨w.heap.size + 1, 0, none⟩) (by simp) (.int .i64 0)).far (p := ⟨w.heap.size + 1, 1, none⟩) (by simp) (.int .i64 0)).far (p := ⟨w.heap.size + 1, 2, none⟩) (by simp) (.int .i64 0)).far (p := ⟨w.heap.size + 2, 0, none⟩) (by simp) (.slice none 0 0)).far (p := ⟨w.heap.size + 2, 1, none⟩) (by simp) (.int .i64 0)).set0 (.int .i64 6)).set1 (.int .i64 (-1))))
  have rF_0 := rF.c0
  have rF_1 := rF.c1
  exact bodyPost_ret (v := .tuple #[.agg #[.int .i64 0, .int .i64 0, .int .i64 0], .agg #[.slice none 0 0, .int .i64 0], .agg #[.int .i64 6, .int .i64 (-1)]]) (by simp [results, Try.results24, go_sem, rX_0, rX_1, rX_2, rY_0, rY_1, rF_0, rF_1]) rfl ⟨rfl, (((((((Z2.setCell (p := ⟨w.heap.size + 1, 0, none⟩) (by simp) (.int .i64 0)).setCell (p := ⟨w.heap.size + 1, 1, none⟩) (by simp) (.int .i64 0)).setCell (p := ⟨w.heap.size + 1, 2, none⟩) (by simp) (.int .i64 0)).setCell (p := ⟨w.heap.size + 2, 0, none⟩) (by simp) (.slice none 0 0)).setCell (p := ⟨w.heap.size + 2, 1, none⟩) (by simp) (.int .i64 0)).setCell (p := ⟨w.heap.size + 3, 0, none⟩) (by simp) (.int .i64 6)).setCell (p := ⟨w.heap.size + 3, 1, none⟩) (by simp) (.int .i64 (-1)))⟩
set_option maxRecDepth 100000 in
set_option maxHeartbeats 600000 in
theorem put_bit {lo hi q : Int} (hok : COk lo hi q) {b : Int} (hb : b ≠ 0 ∧ b ≠ 1) (p : Int) (w : World) :
    Calls Try.prog 24 #[.agg #[.int .i64 lo, .int .i64 hi, .int .i64 q], .int .i64 b, .int .i64 p] w fun e w' => e = .returned (.tuple #[.agg #[.int .i64 0, .int .i64 0, .int .i64 0], .agg #[.slice none 0 0, .int .i64 0], .agg #[.int .i64 4, .int .i64 (-2)]]) ∧ Below w.heap.size w w' := by
  have HOK := Lib.hid (fun (W : World) => validcoder_any lo hi q true ⟨fun _ => hok, fun _ => rfl⟩ W)
  clear hok
  obtain ⟨hb0, hb1⟩ := hb
  have k0 : (b != 0) = true := by simpa using hb0
  have k1 : (b != 1) = true := by simpa using hb1
  clear hb0 hb1
  have P_0 := ((((Three.new w 50 (.int .i64 lo) (.int .i64 hi) (.int .i64 q))).alloc (.cells #[.int .i64 0, .int .i64 0, .int .i64 0] 50)).alloc (.cells #[.slice none 0 0, .int .i64 0] 25)).alloc (.cells #[.int .i64 0, .int .i64 0] 27)
  have X_0 := (((Three.new1 w (.cells #[.int .i64 lo, .int .i64 hi, .int .i64 q] 50) 50 (.int .i64 0) (.int .i64 0) (.int .i64 0))).alloc (.cells #[.slice none 0 0, .int .i64 0] 25)).alloc (.cells #[.int .i64 0, .int .i64 0] 27)
  have Y_0 := ((Two.new2 w (.cells #[.int .i64 lo, .int .i64 hi, .int .i64 q] 50) (.cells #[.int .i64 0, .int .i64 0, .int .i64 0] 50) 25 (.slice none 0 0) (.int .i64 0))).alloc (.cells #[.int .i64 0, .int .i64 0] 27)
  have F_0 := (Two.new3 w (.cells #[.int .i64 lo, .int .i64 hi, .int .i64 q] 50) (.cells #[.int .i64 0, .int .i64 0, .int .i64 0] 50) (.cells #[.slice none 0 0, .int .i64 0] 25) 27 (.int .i64 0) (.int .i64 0))
  have Z0 := ((((Below.refl w.heap.size w).alloc (by simp) (.cells #[.int .i64 lo, .int .i64 hi, .int .i64 q] 50)).alloc (by simp) (.cells #[.int .i64 0, .int .i64 0, .int .i64 0] 50)).alloc (by simp; omega) (.cells #[.slice none 0 0, .int .i64 0] 25)).alloc (by simp; omega) (.cells #[.int .i64 0, .int .i64 0] 27)
  have P_0_c0 := P_0.c0
  have P_0_c1 := P_0.c1
  have P_0_c2 := P_0.c2
  have X_0_c0 := X_0.c0
  have X_0_c1 := X_0.c1
  have X_0_c2 := X_0.c2
  have X_0_f0 := X_0.f0
  have X_0_f1 := X_0.f1
  have X_0_f2 := X_0.f2
  have Y_0_c0 := Y_0.c0
  have Y_0_c1 := Y_0.c1
  have Y_0_f0 := Y_0.f0
  have Y_0_f1 := Y_0.f1
  have F_0_c0 := F_0.c0
  have F_0_c1 := F_0.c1
  have F_0_f0 := F_0.f0
  have F_0_f1 := F_0.f1
  go_enter Try.func24, Try.ntmps24
  go_wp2_with fail
  refine (HOK.out _).mono ?_
  rintro e w1 ⟨rfl, y1⟩
  have P_1 := P_0.on y1
  have X_1 := X_0.on y1
  have Y_1 := Y_0.on y1
  have F_1 := F_0.on y1
  clear P_0 P_0_c0 P_0_c1 P_0_c2 X_0 X_0_c0 X_0_c1 X_0_c2 X_0_f0 X_0_f1 X_0_f2 Y_0 Y_0_c0 Y_0_c1 Y_0_f0 Y_0_f1 F_0 F_0_c0 F_0_c1 F_0_f0 F_0_f1
  have z1 := Z0.trans (y1.mono Z0.size)
  have Z1 := z1
  have P_1_c0 := P_1.c0
  have P_1_c1 := P_1.c1
  have P_1_c2 := P_1.c2
  have X_1_c0 := X_1.c0
  have X_1_c1 := X_1.c1
  have X_1_c2 := X_1.c2
  have X_1_f0 := X_1.f0
  have X_1_f1 := X_1.f1
  have X_1_f2 := X_1.f2
  have Y_1_c0 := Y_1.c0
  have Y_1_c1 := Y_1.c1
  have Y_1_f0 := Y_1.f0
  have Y_1_f1 := Y_1.f1
  have F_1_c0 := F_1.c0
  have F_1_c1 := F_1.c1
  have F_1_f0 := F_1.f0
  have F_1_f1 := F_1.f1
  go_wp2_with fail
  refine (arfault_any _ _ _).mono ?_
  rintro e w2 ⟨rfl, y2⟩
  have P_2 := P_1.on y2
  have X_2 := X_1.on y2
  have Y_2 := Y_1.on y2
  have F_2 := F_1.on y2
  clear P_1 P_1_c0 P_1_c1 P_1_c2 X_1 X_1_c0 X_1_c1 X_1_c2 X_1_f0 X_1_f1 X_1_f2 Y_1 Y_1_c0 Y_1_c1 Y_1_f0 Y_1_f1 F_1 F_1_c0 F_1_c1 F_1_f0 F_1_f1
  have z2 := Z1.trans (y2.mono Z1.size)
  have Z2 := z2
  have P_2_c0 := P_2.c0
  have P_2_c1 := P_2.c1
  have P_2_c2 := P_2.c2
  have X_2_c0 := X_2.c0
  have X_2_c1 := X_2.c1
  have X_2_c2 := X_2.c2
  have X_2_f0 := X_2.f0
  have X_2_f1 := X_2.f1
  have X_2_f2 := X_2.f2
  have Y_2_c0 := Y_2.c0
  have Y_2_c1 := Y_2.c1
  have Y_2_f0 := Y_2.f0
  have Y_2_f1 := Y_2.f1
  have F_2_c0 := F_2.c0
  have F_2_c1 := F_2.c1
  have F_2_f0 := F_2.f0
  have F_2_f1 := F_2.f1
  go_wp2
  have rX := ((((((((X_2.set0 (.int .i64 0)).set1 (.int .i64 0)).set2 (.int .i64 0)).far (p := ⟨w.heap.size + 2, 0, none⟩) (by simp) (.slice none 0 0)).far (p := ⟨w.heap.size + 2, 1, none⟩) (by simp) (.int .i64 0)).far (p := ⟨w.heap.size + 3, 0, none⟩) (by simp) (.int .i64 4)).far (p := ⟨w.heap.size + 3, 1, none⟩) (by simp) (.int .i64 (-2))))
  have rX_0 := rX.c0
  have rX_1 := rX.c1
  have rX_2 := rX.c2
  have rY := ((((((((Y_2.far (p := ⟨w.heap.size + 1, 0, none⟩) (by simp) (.int .i64 0)).far (p := ⟨w.heap.size + 1, 1, none⟩) (by simp) (.int .i64 0)).far (p := ⟨w.heap.size + 1, 2, none⟩) (by simp) (.int .i64 0)).set0 (.slice none 0 0)).set1 (.int .i64 0)).far (p := ⟨w.heap.size + 3, 0, none⟩) (by simp) (.int .i64 4)).far (p := ⟨w.heap.size + 3, 1, none⟩) (by simp) (.int .i64 (-2))))
  have rY_0 := rY.c0
  have rY_1 := rY.c1
  have rF := ((((((((F_2.far (p := ⟨w.heap.size + 1, 0, none⟩) (by simp) (.int .i64 0)).far (p := ⟨w.heap.size + 1, 1, none⟩) (by simp) (.int .i64 0)).far (p := ⟨w.heap.size + 1, 2, none⟩) (by simp) (.int .i64 0)).far (p := ⟨w.heap.size + 2, 0, none⟩) (by simp) (.slice none 0 0)).far (p := ⟨w.heap.size + 2, 1, none⟩) (by simp) (.int .i64 0)).set0 (.int .i64 4)).set1 (.int .i64 (-2))))
  have rF_0 := rF.c0
  have rF_1 := rF.c1
  exact bodyPost_ret (v := .tuple #[.agg #[.int .i64 0, .int .i64 0, .int .i64 0], .agg #[.slice none 0 0, .int .i64 0], .agg #[.int .i64 4, .int .i64 (-2)]]) (by simp [results, Try.results24, go_sem, rX_0, rX_1, rX_2, rY_0, rY_1, rF_0, rF_1]) rfl ⟨rfl, (((((((Z2.setCell (p := ⟨w.heap.size + 1, 0, none⟩) (by simp) (.int .i64 0)).setCell (p := ⟨w.heap.size + 1, 1, none⟩) (by simp) (.int .i64 0)).setCell (p := ⟨w.heap.size + 1, 2, none⟩) (by simp) (.int .i64 0)).setCell (p := ⟨w.heap.size + 2, 0, none⟩) (by simp) (.slice none 0 0)).setCell (p := ⟨w.heap.size + 2, 1, none⟩) (by simp) (.int .i64 0)).setCell (p := ⟨w.heap.size + 3, 0, none⟩) (by simp) (.int .i64 4)).setCell (p := ⟨w.heap.size + 3, 1, none⟩) (by simp) (.int .i64 (-2)))⟩
set_option maxRecDepth 100000 in
set_option maxHeartbeats 600000 in
theorem put_prob {lo hi q : Int} (hok : COk lo hi q) {b : Int} (k0 : (b != 0) = true) (k1 : (b != 1) = false) {p : Int} (hp : ¬ (1 ≤ p ∧ p ≤ 4095)) (w : World) :
    Calls Try.prog 24 #[.agg #[.int .i64 lo, .int .i64 hi, .int .i64 q], .int .i64 b, .int .i64 p] w fun e w' => e = .returned (.tuple #[.agg #[.int .i64 0, .int .i64 0, .int .i64 0], .agg #[.slice none 0 0, .int .i64 0], .agg #[.int .i64 4, .int .i64 (-3)]]) ∧ Below w.heap.size w w' := by
  have HOK := Lib.hid (fun (W : World) => validcoder_any lo hi q true ⟨fun _ => hok, fun _ => rfl⟩ W)
  clear hok
  have HP := Lib.hid (show decide (1 ≤ p ∧ p ≤ 4095) = false from decide_eq_false hp)
  clear hp
  have P_0 := ((((Three.new w 50 (.int .i64 lo) (.int .i64 hi) (.int .i64 q))).alloc (.cells #[.int .i64 0, .int .i64 0, .int .i64 0] 50)).alloc (.cells #[.slice none 0 0, .int .i64 0] 25)).alloc (.cells #[.int .i64 0, .int .i64 0] 27)
  have X_0 := (((Three.new1 w (.cells #[.int .i64 lo, .int .i64 hi, .int .i64 q] 50) 50 (.int .i64 0) (.int .i64 0) (.int .i64 0))).alloc (.cells #[.slice none 0 0, .int .i64 0] 25)).alloc (.cells #[.int .i64 0, .int .i64 0] 27)
  have Y_0 := ((Two.new2 w (.cells #[.int .i64 lo, .int .i64 hi, .int .i64 q] 50) (.cells #[.int .i64 0, .int .i64 0, .int .i64 0] 50) 25 (.slice none 0 0) (.int .i64 0))).alloc (.cells #[.int .i64 0, .int .i64 0] 27)
  have F_0 := (Two.new3 w (.cells #[.int .i64 lo, .int .i64 hi, .int .i64 q] 50) (.cells #[.int .i64 0, .int .i64 0, .int .i64 0] 50) (.cells #[.slice none 0 0, .int .i64 0] 25) 27 (.int .i64 0) (.int .i64 0))
  have Z0 := ((((Below.refl w.heap.size w).alloc (by simp) (.cells #[.int .i64 lo, .int .i64 hi, .int .i64 q] 50)).alloc (by simp) (.cells #[.int .i64 0, .int .i64 0, .int .i64 0] 50)).alloc (by simp; omega) (.cells #[.slice none 0 0, .int .i64 0] 25)).alloc (by simp; omega) (.cells #[.int .i64 0, .int .i64 0] 27)
  have P_0_c0 := P_0.c0
  have P_0_c1 := P_0.c1
  have P_0_c2 := P_0.c2
  have X_0_c0 := X_0.c0
  have X_0_c1 := X_0.c1
  have X_0_c2 := X_0.c2
  have X_0_f0 := X_0.f0
  have X_0_f1 := X_0.f1
  have X_0_f2 := X_0.f2
  have Y_0_c0 := Y_0.c0
  have Y_0_c1 := Y_0.c1
  have Y_0_f0 := Y_0.f0
  have Y_0_f1 := Y_0.f1
  have F_0_c0 := F_0.c0
  have F_0_c1 := F_0.c1
  have F_0_f0 := F_0.f0
  have F_0_f1 := F_0.f1
  go_enter Try.func24, Try.ntmps24
  go_wp2_with fail
  refine (HOK.out _).mono ?_
  rintro e w1 ⟨rfl, y1⟩
  have P_1 := P_0.on y1
  have X_1 := X_0.on y1
  have Y_1 := Y_0.on y1
  have F_1 := F_0.on y1
  clear P_0 P_0_c0 P_0_c1 P_0_c2 X_0 X_0_c0 X_0_c1 X_0_c2 X_0_f0 X_0_f1 X_0_f2 Y_0 Y_0_c0 Y_0_c1 Y_0_f0 Y_0_f1 F_0 F_0_c0 F_0_c1 F_0_f0 F_0_f1
  have z1 := Z0.trans (y1.mono Z0.size)
  have Z1 := z1
  have P_1_c0 := P_1.c0
  have P_1_c1 := P_1.c1
  have P_1_c2 := P_1.c2
  have X_1_c0 := X_1.c0
  have X_1_c1 := X_1.c1
  have X_1_c2 := X_1.c2
  have X_1_f0 := X_1.f0
  have X_1_f1 := X_1.f1
  have X_1_f2 := X_1.f2
  have Y_1_c0 := Y_1.c0
  have Y_1_c1 := Y_1.c1
  have Y_1_f0 := Y_1.f0
  have Y_1_f1 := Y_1.f1
  have F_1_c0 := F_1.c0
  have F_1_c1 := F_1.c1
  have F_1_f0 := F_1.f0
  have F_1_f1 := F_1.f1
  go_wp2_with fail
  refine (validp_no _ HP.out _).mono ?_
  rintro e w9_1 ⟨rfl, rfl⟩
  go_wp2_with fail
  refine (arfault_any _ _ _).mono ?_
  rintro e w2 ⟨rfl, y2⟩
  have P_2 := P_1.on y2
  have X_2 := X_1.on y2
  have Y_2 := Y_1.on y2
  have F_2 := F_1.on y2
  clear P_1 P_1_c0 P_1_c1 P_1_c2 X_1 X_1_c0 X_1_c1 X_1_c2 X_1_f0 X_1_f1 X_1_f2 Y_1 Y_1_c0 Y_1_c1 Y_1_f0 Y_1_f1 F_1 F_1_c0 F_1_c1 F_1_f0 F_1_f1
  have z2 := Z1.trans (y2.mono Z1.size)
  have Z2 := z2
  have P_2_c0 := P_2.c0
  have P_2_c1 := P_2.c1
  have P_2_c2 := P_2.c2
  have X_2_c0 := X_2.c0
  have X_2_c1 := X_2.c1
  have X_2_c2 := X_2.c2
  have X_2_f0 := X_2.f0
  have X_2_f1 := X_2.f1
  have X_2_f2 := X_2.f2
  have Y_2_c0 := Y_2.c0
  have Y_2_c1 := Y_2.c1
  have Y_2_f0 := Y_2.f0
  have Y_2_f1 := Y_2.f1
  have F_2_c0 := F_2.c0
  have F_2_c1 := F_2.c1
  have F_2_f0 := F_2.f0
  have F_2_f1 := F_2.f1
  go_wp2
  have rX := ((((((((X_2.set0 (.int .i64 0)).set1 (.int .i64 0)).set2 (.int .i64 0)).far (p := ⟨w.heap.size + 2, 0, none⟩) (by simp) (.slice none 0 0)).far (p := ⟨w.heap.size + 2, 1, none⟩) (by simp) (.int .i64 0)).far (p := ⟨w.heap.size + 3, 0, none⟩) (by simp) (.int .i64 4)).far (p := ⟨w.heap.size + 3, 1, none⟩) (by simp) (.int .i64 (-3))))
  have rX_0 := rX.c0
  have rX_1 := rX.c1
  have rX_2 := rX.c2
  have rY := ((((((((Y_2.far (p := ⟨w.heap.size + 1, 0, none⟩) (by simp) (.int .i64 0)).far (p := ⟨w.heap.size + 1, 1, none⟩) (by simp) (.int .i64 0)).far (p := ⟨w.heap.size + 1, 2, none⟩) (by simp) (.int .i64 0)).set0 (.slice none 0 0)).set1 (.int .i64 0)).far (p := ⟨w.heap.size + 3, 0, none⟩) (by simp) (.int .i64 4)).far (p := ⟨w.heap.size + 3, 1, none⟩) (by simp) (.int .i64 (-3))))
  have rY_0 := rY.c0
  have rY_1 := rY.c1
  have rF := ((((((((F_2.far (p := ⟨w.heap.size + 1, 0, none⟩) (by simp) (.int .i64 0)).far (p := ⟨w.heap.size + 1, 1, none⟩) (by simp) (.int .i64 0)).far (p := ⟨w.heap.size + 1, 2, none⟩) (by simp) (.int .i64 0)).far (p := ⟨w.heap.size + 2, 0, none⟩) (by simp) (.slice none 0 0)).far (p := ⟨w.heap.size + 2, 1, none⟩) (by simp) (.int .i64 0)).set0 (.int .i64 4)).set1 (.int .i64 (-3))))
  have rF_0 := rF.c0
  have rF_1 := rF.c1
  exact bodyPost_ret (v := .tuple #[.agg #[.int .i64 0, .int .i64 0, .int .i64 0], .agg #[.slice none 0 0, .int .i64 0], .agg #[.int .i64 4, .int .i64 (-3)]]) (by simp [results, Try.results24, go_sem, rX_0, rX_1, rX_2, rY_0, rY_1, rF_0, rF_1]) rfl ⟨rfl, (((((((Z2.setCell (p := ⟨w.heap.size + 1, 0, none⟩) (by simp) (.int .i64 0)).setCell (p := ⟨w.heap.size + 1, 1, none⟩) (by simp) (.int .i64 0)).setCell (p := ⟨w.heap.size + 1, 2, none⟩) (by simp) (.int .i64 0)).setCell (p := ⟨w.heap.size + 2, 0, none⟩) (by simp) (.slice none 0 0)).setCell (p := ⟨w.heap.size + 2, 1, none⟩) (by simp) (.int .i64 0)).setCell (p := ⟨w.heap.size + 3, 0, none⟩) (by simp) (.int .i64 4)).setCell (p := ⟨w.heap.size + 3, 1, none⟩) (by simp) (.int .i64 (-3)))⟩
set_option maxRecDepth 100000 in
set_option maxHeartbeats 600000 in
theorem put_prob0 {lo hi q : Int} (hok : COk lo hi q) {b : Int} (k0 : (b != 0) = false) {p : Int} (hp : ¬ (1 ≤ p ∧ p ≤ 4095)) (w : World) :
    Calls Try.prog 24 #[.agg #[.int .i64 lo, .int .i64 hi, .int .i64 q], .int .i64 b, .int .i64 p] w fun e w' => e = .returned (.tuple #[.agg #[.int .i64 0, .int .i64 0, .int .i64 0], .agg #[.slice none 0 0, .int .i64 0], .agg #[.int .i64 4, .int .i64 (-3)]]) ∧ Below w.heap.size w w' := by
  have HOK := Lib.hid (fun (W : World) => validcoder_any lo hi q true ⟨fun _ => hok, fun _ => rfl⟩ W)
  clear hok
  have HP := Lib.hid (show decide (1 ≤ p ∧ p ≤ 4095) = false from decide_eq_false hp)
  clear hp
  have P_0 := ((((Three.new w 50 (.int .i64 lo) (.int .i64 hi) (.int .i64 q))).alloc (.cells #[.int .i64 0, .int .i64 0, .int .i64 0] 50)).alloc (.cells #[.slice none 0 0, .int .i64 0] 25)).alloc (.cells #[.int .i64 0, .int .i64 0] 27)
  have X_0 := (((Three.new1 w (.cells #[.int .i64 lo, .int .i64 hi, .int .i64 q] 50) 50 (.int .i64 0) (.int .i64 0) (.int .i64 0))).alloc (.cells #[.slice none 0 0, .int .i64 0] 25)).alloc (.cells #[.int .i64 0, .int .i64 0] 27)
  have Y_0 := ((Two.new2 w (.cells #[.int .i64 lo, .int .i64 hi, .int .i64 q] 50) (.cells #[.int .i64 0, .int .i64 0, .int .i64 0] 50) 25 (.slice none 0 0) (.int .i64 0))).alloc (.cells #[.int .i64 0, .int .i64 0] 27)
  have F_0 := (Two.new3 w (.cells #[.int .i64 lo, .int .i64 hi, .int .i64 q] 50) (.cells #[.int .i64 0, .int .i64 0, .int .i64 0] 50) (.cells #[.slice none 0 0, .int .i64 0] 25) 27 (.int .i64 0) (.int .i64 0))
  have Z0 := ((((Below.refl w.heap.size w).alloc (by simp) (.cells #[.int .i64 lo, .int .i64 hi, .int .i64 q] 50)).alloc (by simp) (.cells #[.int .i64 0, .int .i64 0, .int .i64 0] 50)).alloc (by simp; omega) (.cells #[.slice none 0 0, .int .i64 0] 25)).alloc (by simp; omega) (.cells #[.int .i64 0, .int .i64 0] 27)
  have P_0_c0 := P_0.c0
  have P_0_c1 := P_0.c1
  have P_0_c2 := P_0.c2
  have X_0_c0 := X_0.c0
  have X_0_c1 := X_0.c1
  have X_0_c2 := X_0.c2
  have X_0_f0 := X_0.f0
  have X_0_f1 := X_0.f1
  have X_0_f2 := X_0.f2
  have Y_0_c0 := Y_0.c0
  have Y_0_c1 := Y_0.c1
  have Y_0_f0 := Y_0.f0
  have Y_0_f1 := Y_0.f1
  have F_0_c0 := F_0.c0
  have F_0_c1 := F_0.c1
  have F_0_f0 := F_0.f0
  have F_0_f1 := F_0.f1
  go_enter Try.func24, Try.ntmps24
  go_wp2_with fail
  refine (HOK.out _).mono ?_
  rintro e w1 ⟨rfl, y1⟩
  have P_1 := P_0.on y1
  have X_1 := X_0.on y1
  have Y_1 := Y_0.on y1
  have F_1 := F_0.on y1
  clear P_0 P_0_c0 P_0_c1 P_0_c2 X_0 X_0_c0 X_0_c1 X_0_c2 X_0_f0 X_0_f1 X_0_f2 Y_0 Y_0_c0 Y_0_c1 Y_0_f0 Y_0_f1 F_0 F_0_c0 F_0_c1 F_0_f0 F_0_f1
  have z1 := Z0.trans (y1.mono Z0.size)
  have Z1 := z1
  have P_1_c0 := P_1.c0
  have P_1_c1 := P_1.c1
  have P_1_c2 := P_1.c2
  have X_1_c0 := X_1.c0
  have X_1_c1 := X_1.c1
  have X_1_c2 := X_1.c2
  have X_1_f0 := X_1.f0
  have X_1_f1 := X_1.f1
  have X_1_f2 := X_1.f2
  have Y_1_c0 := Y_1.c0
  have Y_1_c1 := Y_1.c1
  have Y_1_f0 := Y_1.f0
  have Y_1_f1 := Y_1.f1
  have F_1_c0 := F_1.c0
  have F_1_c1 := F_1.c1
  have F_1_f0 := F_1.f0
  have F_1_f1 := F_1.f1
  go_wp2_with fail
  refine (validp_no _ HP.out _).mono ?_
  rintro e w9_1 ⟨rfl, rfl⟩
  go_wp2_with fail
  refine (arfault_any _ _ _).mono ?_
  rintro e w2 ⟨rfl, y2⟩
  have P_2 := P_1.on y2
  have X_2 := X_1.on y2
  have Y_2 := Y_1.on y2
  have F_2 := F_1.on y2
  clear P_1 P_1_c0 P_1_c1 P_1_c2 X_1 X_1_c0 X_1_c1 X_1_c2 X_1_f0 X_1_f1 X_1_f2 Y_1 Y_1_c0 Y_1_c1 Y_1_f0 Y_1_f1 F_1 F_1_c0 F_1_c1 F_1_f0 F_1_f1
  have z2 := Z1.trans (y2.mono Z1.size)
  have Z2 := z2
  have P_2_c0 := P_2.c0
  have P_2_c1 := P_2.c1
  have P_2_c2 := P_2.c2
  have X_2_c0 := X_2.c0
  have X_2_c1 := X_2.c1
  have X_2_c2 := X_2.c2
  have X_2_f0 := X_2.f0
  have X_2_f1 := X_2.f1
  have X_2_f2 := X_2.f2
  have Y_2_c0 := Y_2.c0
  have Y_2_c1 := Y_2.c1
  have Y_2_f0 := Y_2.f0
  have Y_2_f1 := Y_2.f1
  have F_2_c0 := F_2.c0
  have F_2_c1 := F_2.c1
  have F_2_f0 := F_2.f0
  have F_2_f1 := F_2.f1
  go_wp2
  have rX := ((((((((X_2.set0 (.int .i64 0)).set1 (.int .i64 0)).set2 (.int .i64 0)).far (p := ⟨w.heap.size + 2, 0, none⟩) (by simp) (.slice none 0 0)).far (p := ⟨w.heap.size + 2, 1, none⟩) (by simp) (.int .i64 0)).far (p := ⟨w.heap.size + 3, 0, none⟩) (by simp) (.int .i64 4)).far (p := ⟨w.heap.size + 3, 1, none⟩) (by simp) (.int .i64 (-3))))
  have rX_0 := rX.c0
  have rX_1 := rX.c1
  have rX_2 := rX.c2
  have rY := ((((((((Y_2.far (p := ⟨w.heap.size + 1, 0, none⟩) (by simp) (.int .i64 0)).far (p := ⟨w.heap.size + 1, 1, none⟩) (by simp) (.int .i64 0)).far (p := ⟨w.heap.size + 1, 2, none⟩) (by simp) (.int .i64 0)).set0 (.slice none 0 0)).set1 (.int .i64 0)).far (p := ⟨w.heap.size + 3, 0, none⟩) (by simp) (.int .i64 4)).far (p := ⟨w.heap.size + 3, 1, none⟩) (by simp) (.int .i64 (-3))))
  have rY_0 := rY.c0
  have rY_1 := rY.c1
  have rF := ((((((((F_2.far (p := ⟨w.heap.size + 1, 0, none⟩) (by simp) (.int .i64 0)).far (p := ⟨w.heap.size + 1, 1, none⟩) (by simp) (.int .i64 0)).far (p := ⟨w.heap.size + 1, 2, none⟩) (by simp) (.int .i64 0)).far (p := ⟨w.heap.size + 2, 0, none⟩) (by simp) (.slice none 0 0)).far (p := ⟨w.heap.size + 2, 1, none⟩) (by simp) (.int .i64 0)).set0 (.int .i64 4)).set1 (.int .i64 (-3))))
  have rF_0 := rF.c0
  have rF_1 := rF.c1
  exact bodyPost_ret (v := .tuple #[.agg #[.int .i64 0, .int .i64 0, .int .i64 0], .agg #[.slice none 0 0, .int .i64 0], .agg #[.int .i64 4, .int .i64 (-3)]]) (by simp [results, Try.results24, go_sem, rX_0, rX_1, rX_2, rY_0, rY_1, rF_0, rF_1]) rfl ⟨rfl, (((((((Z2.setCell (p := ⟨w.heap.size + 1, 0, none⟩) (by simp) (.int .i64 0)).setCell (p := ⟨w.heap.size + 1, 1, none⟩) (by simp) (.int .i64 0)).setCell (p := ⟨w.heap.size + 1, 2, none⟩) (by simp) (.int .i64 0)).setCell (p := ⟨w.heap.size + 2, 0, none⟩) (by simp) (.slice none 0 0)).setCell (p := ⟨w.heap.size + 2, 1, none⟩) (by simp) (.int .i64 0)).setCell (p := ⟨w.heap.size + 3, 0, none⟩) (by simp) (.int .i64 4)).setCell (p := ⟨w.heap.size + 3, 1, none⟩) (by simp) (.int .i64 (-3)))⟩
set_option maxRecDepth 100000 in
set_option maxHeartbeats 600000 in
theorem put_big0 {lo hi p : Int} {b q : Nat} (hok : COk lo hi (q : Nat)) (h1 : 1 ≤ p) (h2 : p ≤ 4095) (hb : b = 0) (LO HI : Int) (S : List Nat) (Q : Nat) (hLO : LO = (stp lo hi b p).1) (hHI : HI = (stp lo hi b p).2.1) (hS : S = (sentf (stp lo hi b p).2.2 q).1) (hQ : Q = (sentf (stp lo hi b p).2.2 q).2) (hbig : 131056 < Q) (w : World) :
    Calls Try.prog 24 #[.agg #[.int .i64 lo, .int .i64 hi, .int .i64 (q : Nat)], .int .i64 (b : Nat), .int .i64 p] w fun e w' => e = .returned (.tuple #[.agg #[.int .i64 0, .int .i64 0, .int .i64 0], .agg #[.slice none 0 0, .int .i64 0], .agg #[.int .i64 14, .int .i64 (-1)]]) ∧ Below w.heap.size w w' := by
  have HOK := Lib.hid (fun (W : World) => validcoder_any lo hi (q : Nat) true ⟨fun _ => hok, fun _ => rfl⟩ W)
  have HP := Lib.hid (show decide (1 ≤ p ∧ p ≤ 4095) = true from decide_eq_true ⟨h1, h2⟩)
  have hqq := hok.2.2
  have HEN := Lib.hid (fun (W : World) => encode_any hok.1 h1 h2 (b := b) (by omega) (q := q) (by omega) LO HI S Q hLO hHI hS hQ W)
  have h01 : Is01 S := Is01.of_mem fun x hx => by have := sentf_le _ (stp_facts b hok.1 h1 h2).2.2.1 q x (by rw [← hS]; exact hx); omega
  have hlen : S.length + Q = (stp lo hi b p).2.2.length + q := by rw [hS, hQ]; exact sentf_count _ _
  have h14 := (stp_facts b hok.1 h1 h2).2.1
  have hSl : S.length ≤ 131072 := by omega
  have HMK := Lib.hid (fun (W : World) => make_bt S h01 hSl W)
  clear hok h1 h2 hLO hHI hS hQ h01 hlen h14 hqq hSl
  subst hb
  have k0 : (((0 : Nat) : Int) != 0) = false := rfl
  have P_0 := ((((Three.new w 50 (.int .i64 lo) (.int .i64 hi) (.int .i64 (q : Nat)))).alloc (.cells #[.int .i64 0, .int .i64 0, .int .i64 0] 50)).alloc (.cells #[.slice none 0 0, .int .i64 0] 25)).alloc (.cells #[.int .i64 0, .int .i64 0] 27)
  have X_0 := (((Three.new1 w (.cells #[.int .i64 lo, .int .i64 hi, .int .i64 (q : Nat)] 50) 50 (.int .i64 0) (.int .i64 0) (.int .i64 0))).alloc (.cells #[.slice none 0 0, .int .i64 0] 25)).alloc (.cells #[.int .i64 0, .int .i64 0] 27)
  have Y_0 := ((Two.new2 w (.cells #[.int .i64 lo, .int .i64 hi, .int .i64 (q : Nat)] 50) (.cells #[.int .i64 0, .int .i64 0, .int .i64 0] 50) 25 (.slice none 0 0) (.int .i64 0))).alloc (.cells #[.int .i64 0, .int .i64 0] 27)
  have F_0 := (Two.new3 w (.cells #[.int .i64 lo, .int .i64 hi, .int .i64 (q : Nat)] 50) (.cells #[.int .i64 0, .int .i64 0, .int .i64 0] 50) (.cells #[.slice none 0 0, .int .i64 0] 25) 27 (.int .i64 0) (.int .i64 0))
  have Z0 := ((((Below.refl w.heap.size w).alloc (by simp) (.cells #[.int .i64 lo, .int .i64 hi, .int .i64 (q : Nat)] 50)).alloc (by simp) (.cells #[.int .i64 0, .int .i64 0, .int .i64 0] 50)).alloc (by simp; omega) (.cells #[.slice none 0 0, .int .i64 0] 25)).alloc (by simp; omega) (.cells #[.int .i64 0, .int .i64 0] 27)
  have P_0_c0 := P_0.c0
  have P_0_c1 := P_0.c1
  have P_0_c2 := P_0.c2
  have X_0_c0 := X_0.c0
  have X_0_c1 := X_0.c1
  have X_0_c2 := X_0.c2
  have X_0_f0 := X_0.f0
  have X_0_f1 := X_0.f1
  have X_0_f2 := X_0.f2
  have Y_0_c0 := Y_0.c0
  have Y_0_c1 := Y_0.c1
  have Y_0_f0 := Y_0.f0
  have Y_0_f1 := Y_0.f1
  have F_0_c0 := F_0.c0
  have F_0_c1 := F_0.c1
  have F_0_f0 := F_0.f0
  have F_0_f1 := F_0.f1
  go_enter Try.func24, Try.ntmps24
  go_wp2_with fail
  refine (HOK.out _).mono ?_
  rintro e w1 ⟨rfl, y1⟩
  have P_1 := P_0.on y1
  have X_1 := X_0.on y1
  have Y_1 := Y_0.on y1
  have F_1 := F_0.on y1
  clear P_0 P_0_c0 P_0_c1 P_0_c2 X_0 X_0_c0 X_0_c1 X_0_c2 X_0_f0 X_0_f1 X_0_f2 Y_0 Y_0_c0 Y_0_c1 Y_0_f0 Y_0_f1 F_0 F_0_c0 F_0_c1 F_0_f0 F_0_f1
  have z1 := Z0.trans (y1.mono Z0.size)
  have Z1 := z1
  have P_1_c0 := P_1.c0
  have P_1_c1 := P_1.c1
  have P_1_c2 := P_1.c2
  have X_1_c0 := X_1.c0
  have X_1_c1 := X_1.c1
  have X_1_c2 := X_1.c2
  have X_1_f0 := X_1.f0
  have X_1_f1 := X_1.f1
  have X_1_f2 := X_1.f2
  have Y_1_c0 := Y_1.c0
  have Y_1_c1 := Y_1.c1
  have Y_1_f0 := Y_1.f0
  have Y_1_f1 := Y_1.f1
  have F_1_c0 := F_1.c0
  have F_1_c1 := F_1.c1
  have F_1_f0 := F_1.f0
  have F_1_f1 := F_1.f1
  go_wp2_with fail
  refine (validp_yes _ HP.out _).mono ?_
  rintro e w9_1 ⟨rfl, rfl⟩
  have LT0 := F_1.lt
  go_wp2_with fail
  refine (HEN.out _).mono ?_
  rintro e w2 ⟨rfl, y2⟩
  have P_2 := (P_1.on y2).alloc (.cells #[.int .i64 LO, .int .i64 HI, .int .i64 (Q : Nat)] 50)
  have X_2 := (X_1.on y2).alloc (.cells #[.int .i64 LO, .int .i64 HI, .int .i64 (Q : Nat)] 50)
  have Y_2 := (Y_1.on y2).alloc (.cells #[.int .i64 LO, .int .i64 HI, .int .i64 (Q : Nat)] 50)
  have F_2 := (F_1.on y2).alloc (.cells #[.int .i64 LO, .int .i64 HI, .int .i64 (Q : Nat)] 50)
  have N_2 := (Three.new w2 50 (.int .i64 LO) (.int .i64 HI) (.int .i64 (Q : Nat)))
  clear P_1 P_1_c0 P_1_c1 P_1_c2 X_1 X_1_c0 X_1_c1 X_1_c2 X_1_f0 X_1_f1 X_1_f2 Y_1 Y_1_c0 Y_1_c1 Y_1_f0 Y_1_f1 F_1 F_1_c0 F_1_c1 F_1_f0 F_1_f1
  have z2 := Z1.trans (y2.mono Z1.size)
  have Z2 := (z2).alloc (by have := z2.size; omega) (.cells #[.int .i64 LO, .int .i64 HI, .int .i64 (Q : Nat)] 50)
  have P_2_c0 := P_2.c0
  have P_2_c1 := P_2.c1
  have P_2_c2 := P_2.c2
  have X_2_c0 := X_2.c0
  have X_2_c1 := X_2.c1
  have X_2_c2 := X_2.c2
  have X_2_f0 := X_2.f0
  have X_2_f1 := X_2.f1
  have X_2_f2 := X_2.f2
  have Y_2_c0 := Y_2.c0
  have Y_2_c1 := Y_2.c1
  have Y_2_f0 := Y_2.f0
  have Y_2_f1 := Y_2.f1
  have F_2_c0 := F_2.c0
  have F_2_c1 := F_2.c1
  have F_2_f0 := F_2.f0
  have F_2_f1 := F_2.f1
  have N_2_c0 := N_2.c0
  have N_2_c1 := N_2.c1
  have N_2_c2 := N_2.c2
  go_wp2_with fail
  refine (arfault_any _ _ _).mono ?_
  rintro e w3 ⟨rfl, y3⟩
  have P_3 := P_2.on y3
  have X_3 := X_2.on y3
  have Y_3 := Y_2.on y3
  have F_3 := F_2.on y3
  have N_3 := N_2.on y3
  clear P_2 P_2_c0 P_2_c1 P_2_c2 X_2 X_2_c0 X_2_c1 X_2_c2 X_2_f0 X_2_f1 X_2_f2 Y_2 Y_2_c0 Y_2_c1 Y_2_f0 Y_2_f1 F_2 F_2_c0 F_2_c1 F_2_f0 F_2_f1 N_2 N_2_c0 N_2_c1 N_2_c2
  have z3 := Z2.trans (y3.mono Z2.size)
  have Z3 := z3
  have P_3_c0 := P_3.c0
  have P_3_c1 := P_3.c1
  have P_3_c2 := P_3.c2
  have X_3_c0 := X_3.c0
  have X_3_c1 := X_3.c1
  have X_3_c2 := X_3.c2
  have X_3_f0 := X_3.f0
  have X_3_f1 := X_3.f1
  have X_3_f2 := X_3.f2
  have Y_3_c0 := Y_3.c0
  have Y_3_c1 := Y_3.c1
  have Y_3_f0 := Y_3.f0
  have Y_3_f1 := Y_3.f1
  have F_3_c0 := F_3.c0
  have F_3_c1 := F_3.c1
  have F_3_f0 := F_3.f0
  have F_3_f1 := F_3.f1
  have N_3_c0 := N_3.c0
  have N_3_c1 := N_3.c1
  have N_3_c2 := N_3.c2
  go_wp2
  have rX := ((((((((X_3.set0 (.int .i64 0)).set1 (.int .i64 0)).set2 (.int .i64 0)).far (p := ⟨w.heap.size + 2, 0, none⟩) (by simp) (.slice none 0 0)).far (p := ⟨w.heap.size + 2, 1, none⟩) (by simp) (.int .i64 0)).far (p := ⟨w.heap.size + 3, 0, none⟩) (by simp) (.int .i64 14)).far (p := ⟨w.heap.size + 3, 1, none⟩) (by simp) (.int .i64 (-1))))
  have rX_0 := rX.c0
  have rX_1 := rX.c1
  have rX_2 := rX.c2
  have rY := ((((((((Y_3.far (p := ⟨w.heap.size + 1, 0, none⟩) (by simp) (.int .i64 0)).far (p := ⟨w.heap.size + 1, 1, none⟩) (by simp) (.int .i64 0)).far (p := ⟨w.heap.size + 1, 2, none⟩) (by simp) (.int .i64 0)).set0 (.slice none 0 0)).set1 (.int .i64 0)).far (p := ⟨w.heap.size + 3, 0, none⟩) (by simp) (.int .i64 14)).far (p := ⟨w.heap.size + 3, 1, none⟩) (by simp) (.int .i64 (-1))))
  have rY_0 := rY.c0
  have rY_1 := rY.c1
  have rF := ((((((((F_3.far (p := ⟨w.heap.size + 1, 0, none⟩) (by simp) (.int .i64 0)).far (p := ⟨w.heap.size + 1, 1, none⟩) (by simp) (.int .i64 0)).far (p := ⟨w.heap.size + 1, 2, none⟩) (by simp) (.int .i64 0)).far (p := ⟨w.heap.size + 2, 0, none⟩) (by simp) (.slice none 0 0)).far (p := ⟨w.heap.size + 2, 1, none⟩) (by simp) (.int .i64 0)).set0 (.int .i64 14)).set1 (.int .i64 (-1))))
  have rF_0 := rF.c0
  have rF_1 := rF.c1
  exact bodyPost_ret (v := .tuple #[.agg #[.int .i64 0, .int .i64 0, .int .i64 0], .agg #[.slice none 0 0, .int .i64 0], .agg #[.int .i64 14, .int .i64 (-1)]]) (by simp [results, Try.results24, go_sem, rX_0, rX_1, rX_2, rY_0, rY_1, rF_0, rF_1]) rfl ⟨rfl, (((((((Z3.setCell (p := ⟨w.heap.size + 1, 0, none⟩) (by simp) (.int .i64 0)).setCell (p := ⟨w.heap.size + 1, 1, none⟩) (by simp) (.int .i64 0)).setCell (p := ⟨w.heap.size + 1, 2, none⟩) (by simp) (.int .i64 0)).setCell (p := ⟨w.heap.size + 2, 0, none⟩) (by simp) (.slice none 0 0)).setCell (p := ⟨w.heap.size + 2, 1, none⟩) (by simp) (.int .i64 0)).setCell (p := ⟨w.heap.size + 3, 0, none⟩) (by simp) (.int .i64 14)).setCell (p := ⟨w.heap.size + 3, 1, none⟩) (by simp) (.int .i64 (-1)))⟩
set_option maxRecDepth 100000 in
set_option maxHeartbeats 600000 in
theorem put_ok0 {lo hi p : Int} {b q : Nat} (hok : COk lo hi (q : Nat)) (h1 : 1 ≤ p) (h2 : p ≤ 4095) (hb : b = 0) (LO HI : Int) (S : List Nat) (Q : Nat) (hLO : LO = (stp lo hi b p).1) (hHI : HI = (stp lo hi b p).2.1) (hS : S = (sentf (stp lo hi b p).2.2 q).1) (hQ : Q = (sentf (stp lo hi b p).2.2 q).2) (hbig : Q ≤ 131056) (w : World) :
    Calls Try.prog 24 #[.agg #[.int .i64 lo, .int .i64 hi, .int .i64 (q : Nat)], .int .i64 (b : Nat), .int .i64 p] w fun e w' => ∃ A n c, e = .returned (.tuple #[.agg #[.int .i64 LO, .int .i64 HI, .int .i64 (Q : Nat)], .agg #[.slice A n c, .int .i64 S.length], .agg #[.int .i64 0, .int .i64 0]]) ∧ Rd w' A n c (bcells (pack S)) ∧ Below w.heap.size w w' := by
  have HOK := Lib.hid (fun (W : World) => validcoder_any lo hi (q : Nat) true ⟨fun _ => hok, fun _ => rfl⟩ W)
  have HP := Lib.hid (show decide (1 ≤ p ∧ p ≤ 4095) = true from decide_eq_true ⟨h1, h2⟩)
  have hqq := hok.2.2
  have HEN := Lib.hid (fun (W : World) => encode_any hok.1 h1 h2 (b := b) (by omega) (q := q) (by omega) LO HI S Q hLO hHI hS hQ W)
  have h01 : Is01 S := Is01.of_mem fun x hx => by have := sentf_le _ (stp_facts b hok.1 h1 h2).2.2.1 q x (by rw [← hS]; exact hx); omega
  have hlen : S.length + Q = (stp lo hi b p).2.2.length + q := by rw [hS, hQ]; exact sentf_count _ _
  have h14 := (stp_facts b hok.1 h1 h2).2.1
  have hSl : S.length ≤ 131072 := by omega
  have HMK := Lib.hid (fun (W : World) => make_bt S h01 hSl W)
  clear hok h1 h2 hLO hHI hS hQ h01 hlen h14 hqq hSl
  subst hb
  have k0 : (((0 : Nat) : Int) != 0) = false := rfl
  have P_0 := ((((Three.new w 50 (.int .i64 lo) (.int .i64 hi) (.int .i64 (q : Nat)))).alloc (.cells #[.int .i64 0, .int .i64 0, .int .i64 0] 50)).alloc (.cells #[.slice none 0 0, .int .i64 0] 25)).alloc (.cells #[.int .i64 0, .int .i64 0] 27)
  have X_0 := (((Three.new1 w (.cells #[.int .i64 lo, .int .i64 hi, .int .i64 (q : Nat)] 50) 50 (.int .i64 0) (.int .i64 0) (.int .i64 0))).alloc (.cells #[.slice none 0 0, .int .i64 0] 25)).alloc (.cells #[.int .i64 0, .int .i64 0] 27)
  have Y_0 := ((Two.new2 w (.cells #[.int .i64 lo, .int .i64 hi, .int .i64 (q : Nat)] 50) (.cells #[.int .i64 0, .int .i64 0, .int .i64 0] 50) 25 (.slice none 0 0) (.int .i64 0))).alloc (.cells #[.int .i64 0, .int .i64 0] 27)
  have F_0 := (Two.new3 w (.cells #[.int .i64 lo, .int .i64 hi, .int .i64 (q : Nat)] 50) (.cells #[.int .i64 0, .int .i64 0, .int .i64 0] 50) (.cells #[.slice none 0 0, .int .i64 0] 25) 27 (.int .i64 0) (.int .i64 0))
  have Z0 := ((((Below.refl w.heap.size w).alloc (by simp) (.cells #[.int .i64 lo, .int .i64 hi, .int .i64 (q : Nat)] 50)).alloc (by simp) (.cells #[.int .i64 0, .int .i64 0, .int .i64 0] 50)).alloc (by simp; omega) (.cells #[.slice none 0 0, .int .i64 0] 25)).alloc (by simp; omega) (.cells #[.int .i64 0, .int .i64 0] 27)
  have P_0_c0 := P_0.c0
  have P_0_c1 := P_0.c1
  have P_0_c2 := P_0.c2
  have X_0_c0 := X_0.c0
  have X_0_c1 := X_0.c1
  have X_0_c2 := X_0.c2
  have X_0_f0 := X_0.f0
  have X_0_f1 := X_0.f1
  have X_0_f2 := X_0.f2
  have Y_0_c0 := Y_0.c0
  have Y_0_c1 := Y_0.c1
  have Y_0_f0 := Y_0.f0
  have Y_0_f1 := Y_0.f1
  have F_0_c0 := F_0.c0
  have F_0_c1 := F_0.c1
  have F_0_f0 := F_0.f0
  have F_0_f1 := F_0.f1
  go_enter Try.func24, Try.ntmps24
  go_wp2_with fail
  refine (HOK.out _).mono ?_
  rintro e w1 ⟨rfl, y1⟩
  have P_1 := P_0.on y1
  have X_1 := X_0.on y1
  have Y_1 := Y_0.on y1
  have F_1 := F_0.on y1
  clear P_0 P_0_c0 P_0_c1 P_0_c2 X_0 X_0_c0 X_0_c1 X_0_c2 X_0_f0 X_0_f1 X_0_f2 Y_0 Y_0_c0 Y_0_c1 Y_0_f0 Y_0_f1 F_0 F_0_c0 F_0_c1 F_0_f0 F_0_f1
  have z1 := Z0.trans (y1.mono Z0.size)
  have Z1 := z1
  have P_1_c0 := P_1.c0
  have P_1_c1 := P_1.c1
  have P_1_c2 := P_1.c2
  have X_1_c0 := X_1.c0
  have X_1_c1 := X_1.c1
  have X_1_c2 := X_1.c2
  have X_1_f0 := X_1.f0
  have X_1_f1 := X_1.f1
  have X_1_f2 := X_1.f2
  have Y_1_c0 := Y_1.c0
  have Y_1_c1 := Y_1.c1
  have Y_1_f0 := Y_1.f0
  have Y_1_f1 := Y_1.f1
  have F_1_c0 := F_1.c0
  have F_1_c1 := F_1.c1
  have F_1_f0 := F_1.f0
  have F_1_f1 := F_1.f1
  go_wp2_with fail
  refine (validp_yes _ HP.out _).mono ?_
  rintro e w9_1 ⟨rfl, rfl⟩
  have LT0 := F_1.lt
  go_wp2_with fail
  refine (HEN.out _).mono ?_
  rintro e w2 ⟨rfl, y2⟩
  have P_2 := (P_1.on y2).alloc (.cells #[.int .i64 LO, .int .i64 HI, .int .i64 (Q : Nat)] 50)
  have X_2 := (X_1.on y2).alloc (.cells #[.int .i64 LO, .int .i64 HI, .int .i64 (Q : Nat)] 50)
  have Y_2 := (Y_1.on y2).alloc (.cells #[.int .i64 LO, .int .i64 HI, .int .i64 (Q : Nat)] 50)
  have F_2 := (F_1.on y2).alloc (.cells #[.int .i64 LO, .int .i64 HI, .int .i64 (Q : Nat)] 50)
  have N_2 := (Three.new w2 50 (.int .i64 LO) (.int .i64 HI) (.int .i64 (Q : Nat)))
  clear P_1 P_1_c0 P_1_c1 P_1_c2 X_1 X_1_c0 X_1_c1 X_1_c2 X_1_f0 X_1_f1 X_1_f2 Y_1 Y_1_c0 Y_1_c1 Y_1_f0 Y_1_f1 F_1 F_1_c0 F_1_c1 F_1_f0 F_1_f1
  have z2 := Z1.trans (y2.mono Z1.size)
  have Z2 := (z2).alloc (by have := z2.size; omega) (.cells #[.int .i64 LO, .int .i64 HI, .int .i64 (Q : Nat)] 50)
  have P_2_c0 := P_2.c0
  have P_2_c1 := P_2.c1
  have P_2_c2 := P_2.c2
  have X_2_c0 := X_2.c0
  have X_2_c1 := X_2.c1
  have X_2_c2 := X_2.c2
  have X_2_f0 := X_2.f0
  have X_2_f1 := X_2.f1
  have X_2_f2 := X_2.f2
  have Y_2_c0 := Y_2.c0
  have Y_2_c1 := Y_2.c1
  have Y_2_f0 := Y_2.f0
  have Y_2_f1 := Y_2.f1
  have F_2_c0 := F_2.c0
  have F_2_c1 := F_2.c1
  have F_2_f0 := F_2.f0
  have F_2_f1 := F_2.f1
  have N_2_c0 := N_2.c0
  have N_2_c1 := N_2.c1
  have N_2_c2 := N_2.c2
  have LT := F_2.lt
  go_wp2_with fail
  refine (HMK.out _).mono ?_
  rintro e w3 ⟨A1, n1, c1, rfl, R1, y3⟩
  have P_3 := ((P_2.on y3).alloc (.cells #[.slice A1 n1 c1, .int .i64 S.length] 25)).alloc (.cells #[.int .i64 0, .int .i64 0] 27)
  have X_3 := ((X_2.on y3).alloc (.cells #[.slice A1 n1 c1, .int .i64 S.length] 25)).alloc (.cells #[.int .i64 0, .int .i64 0] 27)
  have Y_3 := ((Y_2.on y3).alloc (.cells #[.slice A1 n1 c1, .int .i64 S.length] 25)).alloc (.cells #[.int .i64 0, .int .i64 0] 27)
  have F_3 := ((F_2.on y3).alloc (.cells #[.slice A1 n1 c1, .int .i64 S.length] 25)).alloc (.cells #[.int .i64 0, .int .i64 0] 27)
  have N_3 := ((N_2.on y3).alloc (.cells #[.slice A1 n1 c1, .int .i64 S.length] 25)).alloc (.cells #[.int .i64 0, .int .i64 0] 27)
  have R_3 := ((R1).alloc (.cells #[.slice A1 n1 c1, .int .i64 S.length] 25)).alloc (.cells #[.int .i64 0, .int .i64 0] 27)
  have G_3 := ((Two.new w3 25 (.slice A1 n1 c1) (.int .i64 S.length))).alloc (.cells #[.int .i64 0, .int .i64 0] 27)
  have H_3 := (Two.new1 w3 (.cells #[.slice A1 n1 c1, .int .i64 S.length] 25) 27 (.int .i64 0) (.int .i64 0))
  clear P_2 P_2_c0 P_2_c1 P_2_c2 X_2 X_2_c0 X_2_c1 X_2_c2 X_2_f0 X_2_f1 X_2_f2 Y_2 Y_2_c0 Y_2_c1 Y_2_f0 Y_2_f1 F_2 F_2_c0 F_2_c1 F_2_f0 F_2_f1 N_2 N_2_c0 N_2_c1 N_2_c2
  have z3 := Z2.trans (y3.mono Z2.size)
  have Z3 := ((z3).alloc (by have := z3.size; omega) (.cells #[.slice A1 n1 c1, .int .i64 S.length] 25)).alloc (by have := z3.size; simp; omega) (.cells #[.int .i64 0, .int .i64 0] 27)
  have P_3_c0 := P_3.c0
  have P_3_c1 := P_3.c1
  have P_3_c2 := P_3.c2
  have X_3_c0 := X_3.c0
  have X_3_c1 := X_3.c1
  have X_3_c2 := X_3.c2
  have X_3_f0 := X_3.f0
  have X_3_f1 := X_3.f1
  have X_3_f2 := X_3.f2
  have Y_3_c0 := Y_3.c0
  have Y_3_c1 := Y_3.c1
  have Y_3_f0 := Y_3.f0
  have Y_3_f1 := Y_3.f1
  have F_3_c0 := F_3.c0
  have F_3_c1 := F_3.c1
  have F_3_f0 := F_3.f0
  have F_3_f1 := F_3.f1
  have N_3_c0 := N_3.c0
  have N_3_c1 := N_3.c1
  have N_3_c2 := N_3.c2
  have G_3_c0 := G_3.c0
  have G_3_c1 := G_3.c1
  have H_3_c0 := H_3.c0
  have H_3_c1 := H_3.c1
  have ap0 : w.heap.size + 3 < w2.heap.size := by have := LT0; have := y2.size; have := y3.size; (try simp at *); omega
  have ap0_0 : w2.heap.size ≠ w.heap.size := by omega
  have ap0_0r : w.heap.size ≠ w2.heap.size := by omega
  have ap0_1 : w2.heap.size ≠ w.heap.size + 1 := by omega
  have ap0_1r : w.heap.size + 1 ≠ w2.heap.size := by omega
  have ap0_2 : w2.heap.size ≠ w.heap.size + 1 + 1 := by omega
  have ap0_2r : w.heap.size + 1 + 1 ≠ w2.heap.size := by omega
  have ap0_3 : w2.heap.size ≠ w.heap.size + 1 + 1 + 1 := by omega
  have ap0_3r : w.heap.size + 1 + 1 + 1 ≠ w2.heap.size := by omega
  have ap1 : w.heap.size + 3 < w3.heap.size := by have := LT0; have := y2.size; have := y3.size; (try simp at *); omega
  have ap1_0 : w3.heap.size ≠ w.heap.size := by omega
  have ap1_0r : w.heap.size ≠ w3.heap.size := by omega
  have ap1_1 : w3.heap.size ≠ w.heap.size + 1 := by omega
  have ap1_1r : w.heap.size + 1 ≠ w3.heap.size := by omega
  have ap1_2 : w3.heap.size ≠ w.heap.size + 1 + 1 := by omega
  have ap1_2r : w.heap.size + 1 + 1 ≠ w3.heap.size := by omega
  have ap1_3 : w3.heap.size ≠ w.heap.size + 1 + 1 + 1 := by omega
  have ap1_3r : w.heap.size + 1 + 1 + 1 ≠ w3.heap.size := by omega
  have ap2 : w.heap.size + 3 < w3.heap.size + 1 := by have := LT0; have := y2.size; have := y3.size; (try simp at *); omega
  have ap2_0 : w3.heap.size + 1 ≠ w.heap.size := by omega
  have ap2_0r : w.heap.size ≠ w3.heap.size + 1 := by omega
  have ap2_1 : w3.heap.size + 1 ≠ w.heap.size + 1 := by omega
  have ap2_1r : w.heap.size + 1 ≠ w3.heap.size + 1 := by omega
  have ap2_2 : w3.heap.size + 1 ≠ w.heap.size + 1 + 1 := by omega
  have ap2_2r : w.heap.size + 1 + 1 ≠ w3.heap.size + 1 := by omega
  have ap2_3 : w3.heap.size + 1 ≠ w.heap.size + 1 + 1 + 1 := by omega
  have ap2_3r : w.heap.size + 1 + 1 + 1 ≠ w3.heap.size + 1 := by omega
  go_wp2_with fail
  go_region
  go_wp2
  have rX := ((((((((X_3.set0 (.int .i64 LO)).set1 (.int .i64 HI)).set2 (.int .i64 (Q : Nat))).far (p := ⟨w.heap.size + 2, 0, none⟩) (by simp) (.slice A1 n1 c1)).far (p := ⟨w.heap.size + 2, 1, none⟩) (by simp) (.int .i64 S.length)).far (p := ⟨w.heap.size + 3, 0, none⟩) (by simp) (.int .i64 0)).far (p := ⟨w.heap.size + 3, 1, none⟩) (by simp) (.int .i64 0))).drew
  have rX_0 := rX.c0
  have rX_1 := rX.c1
  have rX_2 := rX.c2
  have rY := ((((((((Y_3.far (p := ⟨w.heap.size + 1, 0, none⟩) (by simp) (.int .i64 LO)).far (p := ⟨w.heap.size + 1, 1, none⟩) (by simp) (.int .i64 HI)).far (p := ⟨w.heap.size + 1, 2, none⟩) (by simp) (.int .i64 (Q : Nat))).set0 (.slice A1 n1 c1)).set1 (.int .i64 S.length)).far (p := ⟨w.heap.size + 3, 0, none⟩) (by simp) (.int .i64 0)).far (p := ⟨w.heap.size + 3, 1, none⟩) (by simp) (.int .i64 0))).drew
  have rY_0 := rY.c0
  have rY_1 := rY.c1
  have rF := ((((((((F_3.far (p := ⟨w.heap.size + 1, 0, none⟩) (by simp) (.int .i64 LO)).far (p := ⟨w.heap.size + 1, 1, none⟩) (by simp) (.int .i64 HI)).far (p := ⟨w.heap.size + 1, 2, none⟩) (by simp) (.int .i64 (Q : Nat))).far (p := ⟨w.heap.size + 2, 0, none⟩) (by simp) (.slice A1 n1 c1)).far (p := ⟨w.heap.size + 2, 1, none⟩) (by simp) (.int .i64 S.length)).set0 (.int .i64 0)).set1 (.int .i64 0))).drew
  have rF_0 := rF.c0
  have rF_1 := rF.c1
  exact bodyPost_ret (v := .tuple #[.agg #[.int .i64 LO, .int .i64 HI, .int .i64 (Q : Nat)], .agg #[.slice A1 n1 c1, .int .i64 S.length], .agg #[.int .i64 0, .int .i64 0]]) (by simp [results, Try.results24, go_sem, rX_0, rX_1, rX_2, rY_0, rY_1, rF_0, rF_1]) rfl ⟨A1, n1, c1, rfl, Rd.own (own_drew (own_low (own_low (own_low (own_low (own_low (own_low (own_low R_3 (p := ⟨w.heap.size + 1, 0, none⟩) (Nat.lt_of_le_of_lt (by simp) LT) (.int .i64 LO)) (p := ⟨w.heap.size + 1, 1, none⟩) (Nat.lt_of_le_of_lt (by simp) LT) (.int .i64 HI)) (p := ⟨w.heap.size + 1, 2, none⟩) (Nat.lt_of_le_of_lt (by simp) LT) (.int .i64 (Q : Nat))) (p := ⟨w.heap.size + 2, 0, none⟩) (Nat.lt_of_le_of_lt (by simp) LT) (.slice A1 n1 c1)) (p := ⟨w.heap.size + 2, 1, none⟩) (Nat.lt_of_le_of_lt (by simp) LT) (.int .i64 S.length)) (p := ⟨w.heap.size + 3, 0, none⟩) (Nat.lt_of_le_of_lt (by simp) LT) (.int .i64 0)) (p := ⟨w.heap.size + 3, 1, none⟩) (Nat.lt_of_le_of_lt (by simp) LT) (.int .i64 0))), (belowD (((((((Z3.setCell (p := ⟨w.heap.size + 1, 0, none⟩) (by simp) (.int .i64 LO)).setCell (p := ⟨w.heap.size + 1, 1, none⟩) (by simp) (.int .i64 HI)).setCell (p := ⟨w.heap.size + 1, 2, none⟩) (by simp) (.int .i64 (Q : Nat))).setCell (p := ⟨w.heap.size + 2, 0, none⟩) (by simp) (.slice A1 n1 c1)).setCell (p := ⟨w.heap.size + 2, 1, none⟩) (by simp) (.int .i64 S.length)).setCell (p := ⟨w.heap.size + 3, 0, none⟩) (by simp) (.int .i64 0)).setCell (p := ⟨w.heap.size + 3, 1, none⟩) (by simp) (.int .i64 0)))⟩
set_option maxRecDepth 100000 in
set_option maxHeartbeats 600000 in
theorem put_big1 {lo hi p : Int} {b q : Nat} (hok : COk lo hi (q : Nat)) (h1 : 1 ≤ p) (h2 : p ≤ 4095) (hb : b = 1) (LO HI : Int) (S : List Nat) (Q : Nat) (hLO : LO = (stp lo hi b p).1) (hHI : HI = (stp lo hi b p).2.1) (hS : S = (sentf (stp lo hi b p).2.2 q).1) (hQ : Q = (sentf (stp lo hi b p).2.2 q).2) (hbig : 131056 < Q) (w : World) :
    Calls Try.prog 24 #[.agg #[.int .i64 lo, .int .i64 hi, .int .i64 (q : Nat)], .int .i64 (b : Nat), .int .i64 p] w fun e w' => e = .returned (.tuple #[.agg #[.int .i64 0, .int .i64 0, .int .i64 0], .agg #[.slice none 0 0, .int .i64 0], .agg #[.int .i64 14, .int .i64 (-1)]]) ∧ Below w.heap.size w w' := by
  have HOK := Lib.hid (fun (W : World) => validcoder_any lo hi (q : Nat) true ⟨fun _ => hok, fun _ => rfl⟩ W)
  have HP := Lib.hid (show decide (1 ≤ p ∧ p ≤ 4095) = true from decide_eq_true ⟨h1, h2⟩)
  have hqq := hok.2.2
  have HEN := Lib.hid (fun (W : World) => encode_any hok.1 h1 h2 (b := b) (by omega) (q := q) (by omega) LO HI S Q hLO hHI hS hQ W)
  have h01 : Is01 S := Is01.of_mem fun x hx => by have := sentf_le _ (stp_facts b hok.1 h1 h2).2.2.1 q x (by rw [← hS]; exact hx); omega
  have hlen : S.length + Q = (stp lo hi b p).2.2.length + q := by rw [hS, hQ]; exact sentf_count _ _
  have h14 := (stp_facts b hok.1 h1 h2).2.1
  have hSl : S.length ≤ 131072 := by omega
  have HMK := Lib.hid (fun (W : World) => make_bt S h01 hSl W)
  clear hok h1 h2 hLO hHI hS hQ h01 hlen h14 hqq hSl
  subst hb
  have k0 : (((1 : Nat) : Int) != 0) = true := rfl
  have k1 : (((1 : Nat) : Int) != 1) = false := rfl
  have P_0 := ((((Three.new w 50 (.int .i64 lo) (.int .i64 hi) (.int .i64 (q : Nat)))).alloc (.cells #[.int .i64 0, .int .i64 0, .int .i64 0] 50)).alloc (.cells #[.slice none 0 0, .int .i64 0] 25)).alloc (.cells #[.int .i64 0, .int .i64 0] 27)
  have X_0 := (((Three.new1 w (.cells #[.int .i64 lo, .int .i64 hi, .int .i64 (q : Nat)] 50) 50 (.int .i64 0) (.int .i64 0) (.int .i64 0))).alloc (.cells #[.slice none 0 0, .int .i64 0] 25)).alloc (.cells #[.int .i64 0, .int .i64 0] 27)
  have Y_0 := ((Two.new2 w (.cells #[.int .i64 lo, .int .i64 hi, .int .i64 (q : Nat)] 50) (.cells #[.int .i64 0, .int .i64 0, .int .i64 0] 50) 25 (.slice none 0 0) (.int .i64 0))).alloc (.cells #[.int .i64 0, .int .i64 0] 27)
  have F_0 := (Two.new3 w (.cells #[.int .i64 lo, .int .i64 hi, .int .i64 (q : Nat)] 50) (.cells #[.int .i64 0, .int .i64 0, .int .i64 0] 50) (.cells #[.slice none 0 0, .int .i64 0] 25) 27 (.int .i64 0) (.int .i64 0))
  have Z0 := ((((Below.refl w.heap.size w).alloc (by simp) (.cells #[.int .i64 lo, .int .i64 hi, .int .i64 (q : Nat)] 50)).alloc (by simp) (.cells #[.int .i64 0, .int .i64 0, .int .i64 0] 50)).alloc (by simp; omega) (.cells #[.slice none 0 0, .int .i64 0] 25)).alloc (by simp; omega) (.cells #[.int .i64 0, .int .i64 0] 27)
  have P_0_c0 := P_0.c0
  have P_0_c1 := P_0.c1
  have P_0_c2 := P_0.c2
  have X_0_c0 := X_0.c0
  have X_0_c1 := X_0.c1
  have X_0_c2 := X_0.c2
  have X_0_f0 := X_0.f0
  have X_0_f1 := X_0.f1
  have X_0_f2 := X_0.f2
  have Y_0_c0 := Y_0.c0
  have Y_0_c1 := Y_0.c1
  have Y_0_f0 := Y_0.f0
  have Y_0_f1 := Y_0.f1
  have F_0_c0 := F_0.c0
  have F_0_c1 := F_0.c1
  have F_0_f0 := F_0.f0
  have F_0_f1 := F_0.f1
  go_enter Try.func24, Try.ntmps24
  go_wp2_with fail
  refine (HOK.out _).mono ?_
  rintro e w1 ⟨rfl, y1⟩
  have P_1 := P_0.on y1
  have X_1 := X_0.on y1
  have Y_1 := Y_0.on y1
  have F_1 := F_0.on y1
  clear P_0 P_0_c0 P_0_c1 P_0_c2 X_0 X_0_c0 X_0_c1 X_0_c2 X_0_f0 X_0_f1 X_0_f2 Y_0 Y_0_c0 Y_0_c1 Y_0_f0 Y_0_f1 F_0 F_0_c0 F_0_c1 F_0_f0 F_0_f1
  have z1 := Z0.trans (y1.mono Z0.size)
  have Z1 := z1
  have P_1_c0 := P_1.c0
  have P_1_c1 := P_1.c1
  have P_1_c2 := P_1.c2
  have X_1_c0 := X_1.c0
  have X_1_c1 := X_1.c1
  have X_1_c2 := X_1.c2
  have X_1_f0 := X_1.f0
  have X_1_f1 := X_1.f1
  have X_1_f2 := X_1.f2
  have Y_1_c0 := Y_1.c0
  have Y_1_c1 := Y_1.c1
  have Y_1_f0 := Y_1.f0
  have Y_1_f1 := Y_1.f1
  have F_1_c0 := F_1.c0
  have F_1_c1 := F_1.c1
  have F_1_f0 := F_1.f0
  have F_1_f1 := F_1.f1
  go_wp2_with fail
  refine (validp_yes _ HP.out _).mono ?_
  rintro e w9_1 ⟨rfl, rfl⟩
  have LT0 := F_1.lt
  go_wp2_with fail
  refine (HEN.out _).mono ?_
  rintro e w2 ⟨rfl, y2⟩
  have P_2 := (P_1.on y2).alloc (.cells #[.int .i64 LO, .int .i64 HI, .int .i64 (Q : Nat)] 50)
  have X_2 := (X_1.on y2).alloc (.cells #[.int .i64 LO, .int .i64 HI, .int .i64 (Q : Nat)] 50)
  have Y_2 := (Y_1.on y2).alloc (.cells #[.int .i64 LO, .int .i64 HI, .int .i64 (Q : Nat)] 50)
  have F_2 := (F_1.on y2).alloc (.cells #[.int .i64 LO, .int .i64 HI, .int .i64 (Q : Nat)] 50)
  have N_2 := (Three.new w2 50 (.int .i64 LO) (.int .i64 HI) (.int .i64 (Q : Nat)))
  clear P_1 P_1_c0 P_1_c1 P_1_c2 X_1 X_1_c0 X_1_c1 X_1_c2 X_1_f0 X_1_f1 X_1_f2 Y_1 Y_1_c0 Y_1_c1 Y_1_f0 Y_1_f1 F_1 F_1_c0 F_1_c1 F_1_f0 F_1_f1
  have z2 := Z1.trans (y2.mono Z1.size)
  have Z2 := (z2).alloc (by have := z2.size; omega) (.cells #[.int .i64 LO, .int .i64 HI, .int .i64 (Q : Nat)] 50)
  have P_2_c0 := P_2.c0
  have P_2_c1 := P_2.c1
  have P_2_c2 := P_2.c2
  have X_2_c0 := X_2.c0
  have X_2_c1 := X_2.c1
  have X_2_c2 := X_2.c2
  have X_2_f0 := X_2.f0
  have X_2_f1 := X_2.f1
  have X_2_f2 := X_2.f2
  have Y_2_c0 := Y_2.c0
  have Y_2_c1 := Y_2.c1
  have Y_2_f0 := Y_2.f0
  have Y_2_f1 := Y_2.f1
  have F_2_c0 := F_2.c0
  have F_2_c1 := F_2.c1
  have F_2_f0 := F_2.f0
  have F_2_f1 := F_2.f1
  have N_2_c0 := N_2.c0
  have N_2_c1 := N_2.c1
  have N_2_c2 := N_2.c2
  go_wp2_with fail
  refine (arfault_any _ _ _).mono ?_
  rintro e w3 ⟨rfl, y3⟩
  have P_3 := P_2.on y3
  have X_3 := X_2.on y3
  have Y_3 := Y_2.on y3
  have F_3 := F_2.on y3
  have N_3 := N_2.on y3
  clear P_2 P_2_c0 P_2_c1 P_2_c2 X_2 X_2_c0 X_2_c1 X_2_c2 X_2_f0 X_2_f1 X_2_f2 Y_2 Y_2_c0 Y_2_c1 Y_2_f0 Y_2_f1 F_2 F_2_c0 F_2_c1 F_2_f0 F_2_f1 N_2 N_2_c0 N_2_c1 N_2_c2
  have z3 := Z2.trans (y3.mono Z2.size)
  have Z3 := z3
  have P_3_c0 := P_3.c0
  have P_3_c1 := P_3.c1
  have P_3_c2 := P_3.c2
  have X_3_c0 := X_3.c0
  have X_3_c1 := X_3.c1
  have X_3_c2 := X_3.c2
  have X_3_f0 := X_3.f0
  have X_3_f1 := X_3.f1
  have X_3_f2 := X_3.f2
  have Y_3_c0 := Y_3.c0
  have Y_3_c1 := Y_3.c1
  have Y_3_f0 := Y_3.f0
  have Y_3_f1 := Y_3.f1
  have F_3_c0 := F_3.c0
  have F_3_c1 := F_3.c1
  have F_3_f0 := F_3.f0
  have F_3_f1 := F_3.f1
  have N_3_c0 := N_3.c0
  have N_3_c1 := N_3.c1
  have N_3_c2 := N_3.c2
  go_wp2
  have rX := ((((((((X_3.set0 (.int .i64 0)).set1 (.int .i64 0)).set2 (.int .i64 0)).far (p := ⟨w.heap.size + 2, 0, none⟩) (by simp) (.slice none 0 0)).far (p := ⟨w.heap.size + 2, 1, none⟩) (by simp) (.int .i64 0)).far (p := ⟨w.heap.size + 3, 0, none⟩) (by simp) (.int .i64 14)).far (p := ⟨w.heap.size + 3, 1, none⟩) (by simp) (.int .i64 (-1))))
  have rX_0 := rX.c0
  have rX_1 := rX.c1
  have rX_2 := rX.c2
  have rY := ((((((((Y_3.far (p := ⟨w.heap.size + 1, 0, none⟩) (by simp) (.int .i64 0)).far (p := ⟨w.heap.size + 1, 1, none⟩) (by simp) (.int .i64 0)).far (p := ⟨w.heap.size + 1, 2, none⟩) (by simp) (.int .i64 0)).set0 (.slice none 0 0)).set1 (.int .i64 0)).far (p := ⟨w.heap.size + 3, 0, none⟩) (by simp) (.int .i64 14)).far (p := ⟨w.heap.size + 3, 1, none⟩) (by simp) (.int .i64 (-1))))
  have rY_0 := rY.c0
  have rY_1 := rY.c1
  have rF := ((((((((F_3.far (p := ⟨w.heap.size + 1, 0, none⟩) (by simp) (.int .i64 0)).far (p := ⟨w.heap.size + 1, 1, none⟩) (by simp) (.int .i64 0)).far (p := ⟨w.heap.size + 1, 2, none⟩) (by simp) (.int .i64 0)).far (p := ⟨w.heap.size + 2, 0, none⟩) (by simp) (.slice none 0 0)).far (p := ⟨w.heap.size + 2, 1, none⟩) (by simp) (.int .i64 0)).set0 (.int .i64 14)).set1 (.int .i64 (-1))))
  have rF_0 := rF.c0
  have rF_1 := rF.c1
  exact bodyPost_ret (v := .tuple #[.agg #[.int .i64 0, .int .i64 0, .int .i64 0], .agg #[.slice none 0 0, .int .i64 0], .agg #[.int .i64 14, .int .i64 (-1)]]) (by simp [results, Try.results24, go_sem, rX_0, rX_1, rX_2, rY_0, rY_1, rF_0, rF_1]) rfl ⟨rfl, (((((((Z3.setCell (p := ⟨w.heap.size + 1, 0, none⟩) (by simp) (.int .i64 0)).setCell (p := ⟨w.heap.size + 1, 1, none⟩) (by simp) (.int .i64 0)).setCell (p := ⟨w.heap.size + 1, 2, none⟩) (by simp) (.int .i64 0)).setCell (p := ⟨w.heap.size + 2, 0, none⟩) (by simp) (.slice none 0 0)).setCell (p := ⟨w.heap.size + 2, 1, none⟩) (by simp) (.int .i64 0)).setCell (p := ⟨w.heap.size + 3, 0, none⟩) (by simp) (.int .i64 14)).setCell (p := ⟨w.heap.size + 3, 1, none⟩) (by simp) (.int .i64 (-1)))⟩
set_option maxRecDepth 100000 in
set_option maxHeartbeats 600000 in
theorem put_ok1 {lo hi p : Int} {b q : Nat} (hok : COk lo hi (q : Nat)) (h1 : 1 ≤ p) (h2 : p ≤ 4095) (hb : b = 1) (LO HI : Int) (S : List Nat) (Q : Nat) (hLO : LO = (stp lo hi b p).1) (hHI : HI = (stp lo hi b p).2.1) (hS : S = (sentf (stp lo hi b p).2.2 q).1) (hQ : Q = (sentf (stp lo hi b p).2.2 q).2) (hbig : Q ≤ 131056) (w : World) :
    Calls Try.prog 24 #[.agg #[.int .i64 lo, .int .i64 hi, .int .i64 (q : Nat)], .int .i64 (b : Nat), .int .i64 p] w fun e w' => ∃ A n c, e = .returned (.tuple #[.agg #[.int .i64 LO, .int .i64 HI, .int .i64 (Q : Nat)], .agg #[.slice A n c, .int .i64 S.length], .agg #[.int .i64 0, .int .i64 0]]) ∧ Rd w' A n c (bcells (pack S)) ∧ Below w.heap.size w w' := by
  have HOK := Lib.hid (fun (W : World) => validcoder_any lo hi (q : Nat) true ⟨fun _ => hok, fun _ => rfl⟩ W)
  have HP := Lib.hid (show decide (1 ≤ p ∧ p ≤ 4095) = true from decide_eq_true ⟨h1, h2⟩)
  have hqq := hok.2.2
  have HEN := Lib.hid (fun (W : World) => encode_any hok.1 h1 h2 (b := b) (by omega) (q := q) (by omega) LO HI S Q hLO hHI hS hQ W)
  have h01 : Is01 S := Is01.of_mem fun x hx => by have := sentf_le _ (stp_facts b hok.1 h1 h2).2.2.1 q x (by rw [← hS]; exact hx); omega
  have hlen : S.length + Q = (stp lo hi b p).2.2.length + q := by rw [hS, hQ]; exact sentf_count _ _
  have h14 := (stp_facts b hok.1 h1 h2).2.1
  have hSl : S.length ≤ 131072 := by omega
  have HMK := Lib.hid (fun (W : World) => make_bt S h01 hSl W)
  clear hok h1 h2 hLO hHI hS hQ h01 hlen h14 hqq hSl
  subst hb
  have k0 : (((1 : Nat) : Int) != 0) = true := rfl
  have k1 : (((1 : Nat) : Int) != 1) = false := rfl
  have P_0 := ((((Three.new w 50 (.int .i64 lo) (.int .i64 hi) (.int .i64 (q : Nat)))).alloc (.cells #[.int .i64 0, .int .i64 0, .int .i64 0] 50)).alloc (.cells #[.slice none 0 0, .int .i64 0] 25)).alloc (.cells #[.int .i64 0, .int .i64 0] 27)
  have X_0 := (((Three.new1 w (.cells #[.int .i64 lo, .int .i64 hi, .int .i64 (q : Nat)] 50) 50 (.int .i64 0) (.int .i64 0) (.int .i64 0))).alloc (.cells #[.slice none 0 0, .int .i64 0] 25)).alloc (.cells #[.int .i64 0, .int .i64 0] 27)
  have Y_0 := ((Two.new2 w (.cells #[.int .i64 lo, .int .i64 hi, .int .i64 (q : Nat)] 50) (.cells #[.int .i64 0, .int .i64 0, .int .i64 0] 50) 25 (.slice none 0 0) (.int .i64 0))).alloc (.cells #[.int .i64 0, .int .i64 0] 27)
  have F_0 := (Two.new3 w (.cells #[.int .i64 lo, .int .i64 hi, .int .i64 (q : Nat)] 50) (.cells #[.int .i64 0, .int .i64 0, .int .i64 0] 50) (.cells #[.slice none 0 0, .int .i64 0] 25) 27 (.int .i64 0) (.int .i64 0))
  have Z0 := ((((Below.refl w.heap.size w).alloc (by simp) (.cells #[.int .i64 lo, .int .i64 hi, .int .i64 (q : Nat)] 50)).alloc (by simp) (.cells #[.int .i64 0, .int .i64 0, .int .i64 0] 50)).alloc (by simp; omega) (.cells #[.slice none 0 0, .int .i64 0] 25)).alloc (by simp; omega) (.cells #[.int .i64 0, .int .i64 0] 27)
  have P_0_c0 := P_0.c0
  have P_0_c1 := P_0.c1
  have P_0_c2 := P_0.c2
  have X_0_c0 := X_0.c0
  have X_0_c1 := X_0.c1
  have X_0_c2 := X_0.c2
  have X_0_f0 := X_0.f0
  have X_0_f1 := X_0.f1
  have X_0_f2 := X_0.f2
  have Y_0_c0 := Y_0.c0
  have Y_0_c1 := Y_0.c1
  have Y_0_f0 := Y_0.f0
  have Y_0_f1 := Y_0.f1
  have F_0_c0 := F_0.c0
  have F_0_c1 := F_0.c1
  have F_0_f0 := F_0.f0
  have F_0_f1 := F_0.f1
  go_enter Try.func24, Try.ntmps24
  go_wp2_with fail
  refine (HOK.out _).mono ?_
  rintro e w1 ⟨rfl, y1⟩
  have P_1 := P_0.on y1
  have X_1 := X_0.on y1
  have Y_1 := Y_0.on y1
  have F_1 := F_0.on y1
  clear P_0 P_0_c0 P_0_c1 P_0_c2 X_0 X_0_c0 X_0_c1 X_0_c2 X_0_f0 X_0_f1 X_0_f2 Y_0 Y_0_c0 Y_0_c1 Y_0_f0 Y_0_f1 F_0 F_0_c0 F_0_c1 F_0_f0 F_0_f1
  have z1 := Z0.trans (y1.mono Z0.size)
  have Z1 := z1
  have P_1_c0 := P_1.c0
  have P_1_c1 := P_1.c1
  have P_1_c2 := P_1.c2
  have X_1_c0 := X_1.c0
  have X_1_c1 := X_1.c1
  have X_1_c2 := X_1.c2
  have X_1_f0 := X_1.f0
  have X_1_f1 := X_1.f1
  have X_1_f2 := X_1.f2
  have Y_1_c0 := Y_1.c0
  have Y_1_c1 := Y_1.c1
  have Y_1_f0 := Y_1.f0
  have Y_1_f1 := Y_1.f1
  have F_1_c0 := F_1.c0
  have F_1_c1 := F_1.c1
  have F_1_f0 := F_1.f0
  have F_1_f1 := F_1.f1
  go_wp2_with fail
  refine (validp_yes _ HP.out _).mono ?_
  rintro e w9_1 ⟨rfl, rfl⟩
  have LT0 := F_1.lt
  go_wp2_with fail
  refine (HEN.out _).mono ?_
  rintro e w2 ⟨rfl, y2⟩
  have P_2 := (P_1.on y2).alloc (.cells #[.int .i64 LO, .int .i64 HI, .int .i64 (Q : Nat)] 50)
  have X_2 := (X_1.on y2).alloc (.cells #[.int .i64 LO, .int .i64 HI, .int .i64 (Q : Nat)] 50)
  have Y_2 := (Y_1.on y2).alloc (.cells #[.int .i64 LO, .int .i64 HI, .int .i64 (Q : Nat)] 50)
  have F_2 := (F_1.on y2).alloc (.cells #[.int .i64 LO, .int .i64 HI, .int .i64 (Q : Nat)] 50)
  have N_2 := (Three.new w2 50 (.int .i64 LO) (.int .i64 HI) (.int .i64 (Q : Nat)))
  clear P_1 P_1_c0 P_1_c1 P_1_c2 X_1 X_1_c0 X_1_c1 X_1_c2 X_1_f0 X_1_f1 X_1_f2 Y_1 Y_1_c0 Y_1_c1 Y_1_f0 Y_1_f1 F_1 F_1_c0 F_1_c1 F_1_f0 F_1_f1
  have z2 := Z1.trans (y2.mono Z1.size)
  have Z2 := (z2).alloc (by have := z2.size; omega) (.cells #[.int .i64 LO, .int .i64 HI, .int .i64 (Q : Nat)] 50)
  have P_2_c0 := P_2.c0
  have P_2_c1 := P_2.c1
  have P_2_c2 := P_2.c2
  have X_2_c0 := X_2.c0
  have X_2_c1 := X_2.c1
  have X_2_c2 := X_2.c2
  have X_2_f0 := X_2.f0
  have X_2_f1 := X_2.f1
  have X_2_f2 := X_2.f2
  have Y_2_c0 := Y_2.c0
  have Y_2_c1 := Y_2.c1
  have Y_2_f0 := Y_2.f0
  have Y_2_f1 := Y_2.f1
  have F_2_c0 := F_2.c0
  have F_2_c1 := F_2.c1
  have F_2_f0 := F_2.f0
  have F_2_f1 := F_2.f1
  have N_2_c0 := N_2.c0
  have N_2_c1 := N_2.c1
  have N_2_c2 := N_2.c2
  have LT := F_2.lt
  go_wp2_with fail
  refine (HMK.out _).mono ?_
  rintro e w3 ⟨A1, n1, c1, rfl, R1, y3⟩
  have P_3 := ((P_2.on y3).alloc (.cells #[.slice A1 n1 c1, .int .i64 S.length] 25)).alloc (.cells #[.int .i64 0, .int .i64 0] 27)
  have X_3 := ((X_2.on y3).alloc (.cells #[.slice A1 n1 c1, .int .i64 S.length] 25)).alloc (.cells #[.int .i64 0, .int .i64 0] 27)
  have Y_3 := ((Y_2.on y3).alloc (.cells #[.slice A1 n1 c1, .int .i64 S.length] 25)).alloc (.cells #[.int .i64 0, .int .i64 0] 27)
  have F_3 := ((F_2.on y3).alloc (.cells #[.slice A1 n1 c1, .int .i64 S.length] 25)).alloc (.cells #[.int .i64 0, .int .i64 0] 27)
  have N_3 := ((N_2.on y3).alloc (.cells #[.slice A1 n1 c1, .int .i64 S.length] 25)).alloc (.cells #[.int .i64 0, .int .i64 0] 27)
  have R_3 := ((R1).alloc (.cells #[.slice A1 n1 c1, .int .i64 S.length] 25)).alloc (.cells #[.int .i64 0, .int .i64 0] 27)
  have G_3 := ((Two.new w3 25 (.slice A1 n1 c1) (.int .i64 S.length))).alloc (.cells #[.int .i64 0, .int .i64 0] 27)
  have H_3 := (Two.new1 w3 (.cells #[.slice A1 n1 c1, .int .i64 S.length] 25) 27 (.int .i64 0) (.int .i64 0))
  clear P_2 P_2_c0 P_2_c1 P_2_c2 X_2 X_2_c0 X_2_c1 X_2_c2 X_2_f0 X_2_f1 X_2_f2 Y_2 Y_2_c0 Y_2_c1 Y_2_f0 Y_2_f1 F_2 F_2_c0 F_2_c1 F_2_f0 F_2_f1 N_2 N_2_c0 N_2_c1 N_2_c2
  have z3 := Z2.trans (y3.mono Z2.size)
  have Z3 := ((z3).alloc (by have := z3.size; omega) (.cells #[.slice A1 n1 c1, .int .i64 S.length] 25)).alloc (by have := z3.size; simp; omega) (.cells #[.int .i64 0, .int .i64 0] 27)
  have P_3_c0 := P_3.c0
  have P_3_c1 := P_3.c1
  have P_3_c2 := P_3.c2
  have X_3_c0 := X_3.c0
  have X_3_c1 := X_3.c1
  have X_3_c2 := X_3.c2
  have X_3_f0 := X_3.f0
  have X_3_f1 := X_3.f1
  have X_3_f2 := X_3.f2
  have Y_3_c0 := Y_3.c0
  have Y_3_c1 := Y_3.c1
  have Y_3_f0 := Y_3.f0
  have Y_3_f1 := Y_3.f1
  have F_3_c0 := F_3.c0
  have F_3_c1 := F_3.c1
  have F_3_f0 := F_3.f0
  have F_3_f1 := F_3.f1
  have N_3_c0 := N_3.c0
  have N_3_c1 := N_3.c1
  have N_3_c2 := N_3.c2
  have G_3_c0 := G_3.c0
  have G_3_c1 := G_3.c1
  have H_3_c0 := H_3.c0
  have H_3_c1 := H_3.c1
  have ap0 : w.heap.size + 3 < w2.heap.size := by have := LT0; have := y2.size; have := y3.size; (try simp at *); omega
  have ap0_0 : w2.heap.size ≠ w.heap.size := by omega
  have ap0_0r : w.heap.size ≠ w2.heap.size := by omega
  have ap0_1 : w2.heap.size ≠ w.heap.size + 1 := by omega
  have ap0_1r : w.heap.size + 1 ≠ w2.heap.size := by omega
  have ap0_2 : w2.heap.size ≠ w.heap.size + 1 + 1 := by omega
  have ap0_2r : w.heap.size + 1 + 1 ≠ w2.heap.size := by omega
  have ap0_3 : w2.heap.size ≠ w.heap.size + 1 + 1 + 1 := by omega
  have ap0_3r : w.heap.size + 1 + 1 + 1 ≠ w2.heap.size := by omega
  have ap1 : w.heap.size + 3 < w3.heap.size := by have := LT0; have := y2.size; have := y3.size; (try simp at *); omega
  have ap1_0 : w3.heap.size ≠ w.heap.size := by omega
  have ap1_0r : w.heap.size ≠ w3.heap.size := by omega
  have ap1_1 : w3.heap.size ≠ w.heap.size + 1 := by omega
  have ap1_1r : w.heap.size + 1 ≠ w3.heap.size := by omega
  have ap1_2 : w3.heap.size ≠ w.heap.size + 1 + 1 := by omega
  have ap1_2r : w.heap.size + 1 + 1 ≠ w3.heap.size := by omega
  have ap1_3 : w3.heap.size ≠ w.heap.size + 1 + 1 + 1 := by omega
  have ap1_3r : w.heap.size + 1 + 1 + 1 ≠ w3.heap.size := by omega
  have ap2 : w.heap.size + 3 < w3.heap.size + 1 := by have := LT0; have := y2.size; have := y3.size; (try simp at *); omega
  have ap2_0 : w3.heap.size + 1 ≠ w.heap.size := by omega
  have ap2_0r : w.heap.size ≠ w3.heap.size + 1 := by omega
  have ap2_1 : w3.heap.size + 1 ≠ w.heap.size + 1 := by omega
  have ap2_1r : w.heap.size + 1 ≠ w3.heap.size + 1 := by omega
  have ap2_2 : w3.heap.size + 1 ≠ w.heap.size + 1 + 1 := by omega
  have ap2_2r : w.heap.size + 1 + 1 ≠ w3.heap.size + 1 := by omega
  have ap2_3 : w3.heap.size + 1 ≠ w.heap.size + 1 + 1 + 1 := by omega
  have ap2_3r : w.heap.size + 1 + 1 + 1 ≠ w3.heap.size + 1 := by omega
  go_wp2_with fail
  go_region
  go_wp2
  have rX := ((((((((X_3.set0 (.int .i64 LO)).set1 (.int .i64 HI)).set2 (.int .i64 (Q : Nat))).far (p := ⟨w.heap.size + 2, 0, none⟩) (by simp) (.slice A1 n1 c1)).far (p := ⟨w.heap.size + 2, 1, none⟩) (by simp) (.int .i64 S.length)).far (p := ⟨w.heap.size + 3, 0, none⟩) (by simp) (.int .i64 0)).far (p := ⟨w.heap.size + 3, 1, none⟩) (by simp) (.int .i64 0))).drew
  have rX_0 := rX.c0
  have rX_1 := rX.c1
  have rX_2 := rX.c2
  have rY := ((((((((Y_3.far (p := ⟨w.heap.size + 1, 0, none⟩) (by simp) (.int .i64 LO)).far (p := ⟨w.heap.size + 1, 1, none⟩) (by simp) (.int .i64 HI)).far (p := ⟨w.heap.size + 1, 2, none⟩) (by simp) (.int .i64 (Q : Nat))).set0 (.slice A1 n1 c1)).set1 (.int .i64 S.length)).far (p := ⟨w.heap.size + 3, 0, none⟩) (by simp) (.int .i64 0)).far (p := ⟨w.heap.size + 3, 1, none⟩) (by simp) (.int .i64 0))).drew
  have rY_0 := rY.c0
  have rY_1 := rY.c1
  have rF := ((((((((F_3.far (p := ⟨w.heap.size + 1, 0, none⟩) (by simp) (.int .i64 LO)).far (p := ⟨w.heap.size + 1, 1, none⟩) (by simp) (.int .i64 HI)).far (p := ⟨w.heap.size + 1, 2, none⟩) (by simp) (.int .i64 (Q : Nat))).far (p := ⟨w.heap.size + 2, 0, none⟩) (by simp) (.slice A1 n1 c1)).far (p := ⟨w.heap.size + 2, 1, none⟩) (by simp) (.int .i64 S.length)).set0 (.int .i64 0)).set1 (.int .i64 0))).drew
  have rF_0 := rF.c0
  have rF_1 := rF.c1
  exact bodyPost_ret (v := .tuple #[.agg #[.int .i64 LO, .int .i64 HI, .int .i64 (Q : Nat)], .agg #[.slice A1 n1 c1, .int .i64 S.length], .agg #[.int .i64 0, .int .i64 0]]) (by simp [results, Try.results24, go_sem, rX_0, rX_1, rX_2, rY_0, rY_1, rF_0, rF_1]) rfl ⟨A1, n1, c1, rfl, Rd.own (own_drew (own_low (own_low (own_low (own_low (own_low (own_low (own_low R_3 (p := ⟨w.heap.size + 1, 0, none⟩) (Nat.lt_of_le_of_lt (by simp) LT) (.int .i64 LO)) (p := ⟨w.heap.size + 1, 1, none⟩) (Nat.lt_of_le_of_lt (by simp) LT) (.int .i64 HI)) (p := ⟨w.heap.size + 1, 2, none⟩) (Nat.lt_of_le_of_lt (by simp) LT) (.int .i64 (Q : Nat))) (p := ⟨w.heap.size + 2, 0, none⟩) (Nat.lt_of_le_of_lt (by simp) LT) (.slice A1 n1 c1)) (p := ⟨w.heap.size + 2, 1, none⟩) (Nat.lt_of_le_of_lt (by simp) LT) (.int .i64 S.length)) (p := ⟨w.heap.size + 3, 0, none⟩) (Nat.lt_of_le_of_lt (by simp) LT) (.int .i64 0)) (p := ⟨w.heap.size + 3, 1, none⟩) (Nat.lt_of_le_of_lt (by simp) LT) (.int .i64 0))), (belowD (((((((Z3.setCell (p := ⟨w.heap.size + 1, 0, none⟩) (by simp) (.int .i64 LO)).setCell (p := ⟨w.heap.size + 1, 1, none⟩) (by simp) (.int .i64 HI)).setCell (p := ⟨w.heap.size + 1, 2, none⟩) (by simp) (.int .i64 (Q : Nat))).setCell (p := ⟨w.heap.size + 2, 0, none⟩) (by simp) (.slice A1 n1 c1)).setCell (p := ⟨w.heap.size + 2, 1, none⟩) (by simp) (.int .i64 S.length)).setCell (p := ⟨w.heap.size + 3, 0, none⟩) (by simp) (.int .i64 0)).setCell (p := ⟨w.heap.size + 3, 1, none⟩) (by simp) (.int .i64 0)))⟩
theorem put_big {lo hi p : Int} {b q : Nat} (hok : COk lo hi (q : Nat)) (h1 : 1 ≤ p) (h2 : p ≤ 4095) (hb : b ≤ 1) (LO HI : Int) (S : List Nat) (Q : Nat) (hLO : LO = (stp lo hi b p).1) (hHI : HI = (stp lo hi b p).2.1) (hS : S = (sentf (stp lo hi b p).2.2 q).1) (hQ : Q = (sentf (stp lo hi b p).2.2 q).2) (hbig : 131056 < Q) (w : World) :
    Calls Try.prog 24 #[.agg #[.int .i64 lo, .int .i64 hi, .int .i64 (q : Nat)], .int .i64 (b : Nat), .int .i64 p] w fun e w' => e = .returned (.tuple #[.agg #[.int .i64 0, .int .i64 0, .int .i64 0], .agg #[.slice none 0 0, .int .i64 0], .agg #[.int .i64 14, .int .i64 (-1)]]) ∧ Below w.heap.size w w' := by
  rcases (by omega : b = 0 ∨ b = 1) with hb0 | hb1
  · exact put_big0 hok h1 h2 hb0 LO HI S Q hLO hHI hS hQ hbig w
  · exact put_big1 hok h1 h2 hb1 LO HI S Q hLO hHI hS hQ hbig w
theorem put_ok {lo hi p : Int} {b q : Nat} (hok : COk lo hi (q : Nat)) (h1 : 1 ≤ p) (h2 : p ≤ 4095) (hb : b ≤ 1) (LO HI : Int) (S : List Nat) (Q : Nat) (hLO : LO = (stp lo hi b p).1) (hHI : HI = (stp lo hi b p).2.1) (hS : S = (sentf (stp lo hi b p).2.2 q).1) (hQ : Q = (sentf (stp lo hi b p).2.2 q).2) (hbig : Q ≤ 131056) (w : World) :
    Calls Try.prog 24 #[.agg #[.int .i64 lo, .int .i64 hi, .int .i64 (q : Nat)], .int .i64 (b : Nat), .int .i64 p] w fun e w' => ∃ A n c, e = .returned (.tuple #[.agg #[.int .i64 LO, .int .i64 HI, .int .i64 (Q : Nat)], .agg #[.slice A n c, .int .i64 S.length], .agg #[.int .i64 0, .int .i64 0]]) ∧ Rd w' A n c (bcells (pack S)) ∧ Below w.heap.size w w' := by
  rcases (by omega : b = 0 ∨ b = 1) with hb0 | hb1
  · exact put_ok0 hok h1 h2 hb0 LO HI S Q hLO hHI hS hQ hbig w
  · exact put_ok1 hok h1 h2 hb1 LO HI S Q hLO hHI hS hQ hbig w
/-- A probability that is none, at a bit. -/
theorem put_prob_any {lo hi q : Int} (hok : COk lo hi q) {b : Int} (hb : b = 0 ∨ b = 1) {p : Int} (hp : ¬ (1 ≤ p ∧ p ≤ 4095)) (w : World) :
    Calls Try.prog 24 #[.agg #[.int .i64 lo, .int .i64 hi, .int .i64 q], .int .i64 b, .int .i64 p] w fun e w' => e = .returned (.tuple #[.agg #[.int .i64 0, .int .i64 0, .int .i64 0], .agg #[.slice none 0 0, .int .i64 0], .agg #[.int .i64 4, .int .i64 (-3)]]) ∧ Below w.heap.size w w' := by
  rcases hb with rfl | rfl
  · exact put_prob0 hok rfl hp w
  · exact put_prob hok rfl rfl hp w
set_option maxRecDepth 100000 in
set_option maxHeartbeats 600000 in
theorem finish_form {lo hi q : Int} (hno : ¬ COk lo hi q) (w : World) :
    Calls Try.prog 26 #[.agg #[.int .i64 lo, .int .i64 hi, .int .i64 q]] w fun e w' => e = .returned (.tuple #[.agg #[.slice none 0 0, .int .i64 0], .agg #[.int .i64 6, .int .i64 (-1)]]) ∧ Below w.heap.size w w' := by
  have HOK := Lib.hid (fun (W : World) => validcoder_any lo hi q false ⟨(fun h => by cases h), fun h => absurd h hno⟩ W)
  clear hno
  have P_0 := (((Three.new w 50 (.int .i64 lo) (.int .i64 hi) (.int .i64 q))).alloc (.cells #[.slice none 0 0, .int .i64 0] 25)).alloc (.cells #[.int .i64 0, .int .i64 0] 27)
  have Y_0 := ((Two.new1 w (.cells #[.int .i64 lo, .int .i64 hi, .int .i64 q] 50) 25 (.slice none 0 0) (.int .i64 0))).alloc (.cells #[.int .i64 0, .int .i64 0] 27)
  have F_0 := (Two.new2 w (.cells #[.int .i64 lo, .int .i64 hi, .int .i64 q] 50) (.cells #[.slice none 0 0, .int .i64 0] 25) 27 (.int .i64 0) (.int .i64 0))
  have Z0 := (((Below.refl w.heap.size w).alloc (by simp) (.cells #[.int .i64 lo, .int .i64 hi, .int .i64 q] 50)).alloc (by simp) (.cells #[.slice none 0 0, .int .i64 0] 25)).alloc (by simp; omega) (.cells #[.int .i64 0, .int .i64 0] 27)
  have P_0_c0 := P_0.c0
  have P_0_c1 := P_0.c1
  have P_0_c2 := P_0.c2
  have Y_0_c0 := Y_0.c0
  have Y_0_c1 := Y_0.c1
  have Y_0_f0 := Y_0.f0
  have Y_0_f1 := Y_0.f1
  have F_0_c0 := F_0.c0
  have F_0_c1 := F_0.c1
  have F_0_f0 := F_0.f0
  have F_0_f1 := F_0.f1
  go_enter Try.func26, Try.ntmps26
  go_wp2_with fail
  refine (HOK.out _).mono ?_
  rintro e w1 ⟨rfl, y1⟩
  have P_1 := P_0.on y1
  have Y_1 := Y_0.on y1
  have F_1 := F_0.on y1
  clear P_0 P_0_c0 P_0_c1 P_0_c2 Y_0 Y_0_c0 Y_0_c1 Y_0_f0 Y_0_f1 F_0 F_0_c0 F_0_c1 F_0_f0 F_0_f1
  have z1 := Z0.trans (y1.mono Z0.size)
  have Z1 := z1
  have P_1_c0 := P_1.c0
  have P_1_c1 := P_1.c1
  have P_1_c2 := P_1.c2
  have Y_1_c0 := Y_1.c0
  have Y_1_c1 := Y_1.c1
  have Y_1_f0 := Y_1.f0
  have Y_1_f1 := Y_1.f1
  have F_1_c0 := F_1.c0
  have F_1_c1 := F_1.c1
  have F_1_f0 := F_1.f0
  have F_1_f1 := F_1.f1
  go_wp2_with fail
  refine (arfault_any _ _ _).mono ?_
  rintro e w2 ⟨rfl, y2⟩
  have P_2 := P_1.on y2
  have Y_2 := Y_1.on y2
  have F_2 := F_1.on y2
  clear P_1 P_1_c0 P_1_c1 P_1_c2 Y_1 Y_1_c0 Y_1_c1 Y_1_f0 Y_1_f1 F_1 F_1_c0 F_1_c1 F_1_f0 F_1_f1
  have z2 := Z1.trans (y2.mono Z1.size)
  have Z2 := z2
  have P_2_c0 := P_2.c0
  have P_2_c1 := P_2.c1
  have P_2_c2 := P_2.c2
  have Y_2_c0 := Y_2.c0
  have Y_2_c1 := Y_2.c1
  have Y_2_f0 := Y_2.f0
  have Y_2_f1 := Y_2.f1
  have F_2_c0 := F_2.c0
  have F_2_c1 := F_2.c1
  have F_2_f0 := F_2.f0
  have F_2_f1 := F_2.f1
  go_wp2
  have rY := (((((Y_2.set0 (.slice none 0 0)).set1 (.int .i64 0)).far (p := ⟨w.heap.size + 2, 0, none⟩) (by simp) (.int .i64 6)).far (p := ⟨w.heap.size + 2, 1, none⟩) (by simp) (.int .i64 (-1))))
  have rY_0 := rY.c0
  have rY_1 := rY.c1
  have rF := (((((F_2.far (p := ⟨w.heap.size + 1, 0, none⟩) (by simp) (.slice none 0 0)).far (p := ⟨w.heap.size + 1, 1, none⟩) (by simp) (.int .i64 0)).set0 (.int .i64 6)).set1 (.int .i64 (-1))))
  have rF_0 := rF.c0
  have rF_1 := rF.c1
  exact bodyPost_ret (v := .tuple #[.agg #[.slice none 0 0, .int .i64 0], .agg #[.int .i64 6, .int .i64 (-1)]]) (by simp [results, Try.results26, go_sem, rY_0, rY_1, rF_0, rF_1]) rfl ⟨rfl, ((((Z2.setCell (p := ⟨w.heap.size + 1, 0, none⟩) (by simp) (.slice none 0 0)).setCell (p := ⟨w.heap.size + 1, 1, none⟩) (by simp) (.int .i64 0)).setCell (p := ⟨w.heap.size + 2, 0, none⟩) (by simp) (.int .i64 6)).setCell (p := ⟨w.heap.size + 2, 1, none⟩) (by simp) (.int .i64 (-1)))⟩
set_option maxRecDepth 100000 in
set_option maxHeartbeats 600000 in
theorem finish_ok {lo hi : Int} {q : Nat} (hok : COk lo hi (q : Nat)) (b : Nat) (hb : b = if lo < 16384 then 0 else 1) (w : World) :
    Calls Try.prog 26 #[.agg #[.int .i64 lo, .int .i64 hi, .int .i64 (q : Nat)]] w fun e w' => ∃ A n c, e = .returned (.tuple #[.agg #[.slice A n c, .int .i64 (crt b (q + 1)).length], .agg #[.int .i64 0, .int .i64 0]]) ∧ Rd w' A n c (bcells (pack (crt b (q + 1)))) ∧ Below w.heap.size w w' := by
  have HOK := Lib.hid (fun (W : World) => validcoder_any lo hi (q : Nat) true ⟨fun _ => hok, fun _ => rfl⟩ W)
  have hqq := hok.2.2
  have HFI := Lib.hid (fun (W : World) => finish_any (lo := lo) (hi := hi) (q := q) (by omega) b hb W)
  have h01 : Is01 (crt b (q + 1)) := Is01.of_mem fun x hx => by have := crt_le (b := b) (q := q + 1) (by rw [hb]; split <;> omega) x hx; omega
  have HMK := Lib.hid (fun (W : World) => make_bt (crt b (q + 1)) h01 (by simp [crt]; omega) W)
  clear hok h01 hqq hb
  have P_0 := (((Three.new w 50 (.int .i64 lo) (.int .i64 hi) (.int .i64 (q : Nat)))).alloc (.cells #[.slice none 0 0, .int .i64 0] 25)).alloc (.cells #[.int .i64 0, .int .i64 0] 27)
  have Y_0 := ((Two.new1 w (.cells #[.int .i64 lo, .int .i64 hi, .int .i64 (q : Nat)] 50) 25 (.slice none 0 0) (.int .i64 0))).alloc (.cells #[.int .i64 0, .int .i64 0] 27)
  have F_0 := (Two.new2 w (.cells #[.int .i64 lo, .int .i64 hi, .int .i64 (q : Nat)] 50) (.cells #[.slice none 0 0, .int .i64 0] 25) 27 (.int .i64 0) (.int .i64 0))
  have Z0 := (((Below.refl w.heap.size w).alloc (by simp) (.cells #[.int .i64 lo, .int .i64 hi, .int .i64 (q : Nat)] 50)).alloc (by simp) (.cells #[.slice none 0 0, .int .i64 0] 25)).alloc (by simp; omega) (.cells #[.int .i64 0, .int .i64 0] 27)
  have P_0_c0 := P_0.c0
  have P_0_c1 := P_0.c1
  have P_0_c2 := P_0.c2
  have Y_0_c0 := Y_0.c0
  have Y_0_c1 := Y_0.c1
  have Y_0_f0 := Y_0.f0
  have Y_0_f1 := Y_0.f1
  have F_0_c0 := F_0.c0
  have F_0_c1 := F_0.c1
  have F_0_f0 := F_0.f0
  have F_0_f1 := F_0.f1
  go_enter Try.func26, Try.ntmps26
  go_wp2_with fail
  refine (HOK.out _).mono ?_
  rintro e w1 ⟨rfl, y1⟩
  have P_1 := P_0.on y1
  have Y_1 := Y_0.on y1
  have F_1 := F_0.on y1
  clear P_0 P_0_c0 P_0_c1 P_0_c2 Y_0 Y_0_c0 Y_0_c1 Y_0_f0 Y_0_f1 F_0 F_0_c0 F_0_c1 F_0_f0 F_0_f1
  have z1 := Z0.trans (y1.mono Z0.size)
  have Z1 := z1
  have P_1_c0 := P_1.c0
  have P_1_c1 := P_1.c1
  have P_1_c2 := P_1.c2
  have Y_1_c0 := Y_1.c0
  have Y_1_c1 := Y_1.c1
  have Y_1_f0 := Y_1.f0
  have Y_1_f1 := Y_1.f1
  have F_1_c0 := F_1.c0
  have F_1_c1 := F_1.c1
  have F_1_f0 := F_1.f0
  have F_1_f1 := F_1.f1
  go_wp2_with fail
  refine (HFI.out _).mono ?_
  rintro e w2 ⟨rfl, y2⟩
  have P_2 := P_1.on y2
  have Y_2 := Y_1.on y2
  have F_2 := F_1.on y2
  clear P_1 P_1_c0 P_1_c1 P_1_c2 Y_1 Y_1_c0 Y_1_c1 Y_1_f0 Y_1_f1 F_1 F_1_c0 F_1_c1 F_1_f0 F_1_f1
  have z2 := Z1.trans (y2.mono Z1.size)
  have Z2 := z2
  have P_2_c0 := P_2.c0
  have P_2_c1 := P_2.c1
  have P_2_c2 := P_2.c2
  have Y_2_c0 := Y_2.c0
  have Y_2_c1 := Y_2.c1
  have Y_2_f0 := Y_2.f0
  have Y_2_f1 := Y_2.f1
  have F_2_c0 := F_2.c0
  have F_2_c1 := F_2.c1
  have F_2_f0 := F_2.f0
  have F_2_f1 := F_2.f1
  have LT := F_2.lt
  go_wp2_with fail
  refine (HMK.out _).mono ?_
  rintro e w3 ⟨A1, n1, c1, rfl, R1, y3⟩
  have P_3 := P_2.on y3
  have Y_3 := Y_2.on y3
  have F_3 := F_2.on y3
  have R_3 := R1
  clear P_2 P_2_c0 P_2_c1 P_2_c2 Y_2 Y_2_c0 Y_2_c1 Y_2_f0 Y_2_f1 F_2 F_2_c0 F_2_c1 F_2_f0 F_2_f1
  have z3 := Z2.trans (y3.mono Z2.size)
  have Z3 := z3
  have P_3_c0 := P_3.c0
  have P_3_c1 := P_3.c1
  have P_3_c2 := P_3.c2
  have Y_3_c0 := Y_3.c0
  have Y_3_c1 := Y_3.c1
  have Y_3_f0 := Y_3.f0
  have Y_3_f1 := Y_3.f1
  have F_3_c0 := F_3.c0
  have F_3_c1 := F_3.c1
  have F_3_f0 := F_3.f0
  have F_3_f1 := F_3.f1
  go_wp2
  have rY := (((((Y_3.set0 (.slice A1 n1 c1)).set1 (.int .i64 (crt b (q + 1)).length)).far (p := ⟨w.heap.size + 2, 0, none⟩) (by simp) (.int .i64 0)).far (p := ⟨w.heap.size + 2, 1, none⟩) (by simp) (.int .i64 0)))
  have rY_0 := rY.c0
  have rY_1 := rY.c1
  have rF := (((((F_3.far (p := ⟨w.heap.size + 1, 0, none⟩) (by simp) (.slice A1 n1 c1)).far (p := ⟨w.heap.size + 1, 1, none⟩) (by simp) (.int .i64 (crt b (q + 1)).length)).set0 (.int .i64 0)).set1 (.int .i64 0)))
  have rF_0 := rF.c0
  have rF_1 := rF.c1
  exact bodyPost_ret (v := .tuple #[.agg #[.slice A1 n1 c1, .int .i64 (crt b (q + 1)).length], .agg #[.int .i64 0, .int .i64 0]]) (by simp [results, Try.results26, go_sem, rY_0, rY_1, rF_0, rF_1]) rfl ⟨A1, n1, c1, rfl, Rd.own (own_low (own_low (own_low (own_low R_3 (p := ⟨w.heap.size + 1, 0, none⟩) (Nat.lt_of_le_of_lt (by simp) LT) (.slice A1 n1 c1)) (p := ⟨w.heap.size + 1, 1, none⟩) (Nat.lt_of_le_of_lt (by simp) LT) (.int .i64 (crt b (q + 1)).length)) (p := ⟨w.heap.size + 2, 0, none⟩) (Nat.lt_of_le_of_lt (by simp) LT) (.int .i64 0)) (p := ⟨w.heap.size + 2, 1, none⟩) (Nat.lt_of_le_of_lt (by simp) LT) (.int .i64 0)), ((((Z3.setCell (p := ⟨w.heap.size + 1, 0, none⟩) (by simp) (.slice A1 n1 c1)).setCell (p := ⟨w.heap.size + 1, 1, none⟩) (by simp) (.int .i64 (crt b (q + 1)).length)).setCell (p := ⟨w.heap.size + 2, 0, none⟩) (by simp) (.int .i64 0)).setCell (p := ⟨w.heap.size + 2, 1, none⟩) (by simp) (.int .i64 0))⟩
end PB
end Go.Proofs.Ytnnpkajmheglgaa
