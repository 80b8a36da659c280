/-
  Numbers that are added to a bit string and read from it, with all errors, are as specified: the walk of the statement BitsNumbersMatchSpec.
-/
import Derived.Test.YtcmglfgibedpbaaRows
import Derived.Test.YtcmglfgibedpbaaBitsApi
import Derived.Test.YtcmglfgibedpbaaBitsRef4
import Derived.Deep.RegionHeld3
import Derived.Deep.DrawnRows
namespace Go.Proofs.Ytcmglfgibedpbaa
open Go.RowKit
attribute [local go_sem ↓] Go.wp_at_zero Go.wp_at_succ
set_option linter.unusedVariables false
set_option linter.unusedSimpArgs false
namespace PB
theorem af_err {A : Option Addr} {n c : Nat} {d : List Nat} {cnt value width code idx : Int} (hd : ∀ k, d.getD k 0 < 256) (hlo : -9223372036854775808 ≤ cnt) (hhi : cnt ≤ 9223372036854775807) (hE : AErr d cnt value width code idx) (hv : value < 9223372036854775808) (w : World) (h : Rd w A n c (bcells d)) :
    Calls Try.prog 28 #[.agg #[.slice A n c, .int .i64 cnt], .int .i64 value, .int .i64 width] w fun e w' => e = .returned (.agg #[.int .i64 code, .int .i64 idx]) ∧ Below w.heap.size w w' := by
  rcases hE with ⟨h0, rfl, rfl⟩ | ⟨h0, h1, rfl, rfl⟩ | ⟨h0, h1, h2, rfl, rfl⟩ | ⟨h0, h1, h2, h3, h4, h5, rfl, rfl⟩
  · exact af_form hd hlo hhi h0 value width w h
  · obtain ⟨l, g1, g2, rfl, rfl⟩ := h0.list hd
    by_cases hv0 : value < 0
    · exact af_neg g1 g2 value width hv0 w h
    · have h1' : 0 ≤ width ∧ width ≤ 32 ∧ (2 : Int) ^ width.toNat ≤ value := by
        rcases h1 with h1 | h1
        · exact absurd h1 hv0
        · exact h1
      obtain ⟨p0, p1, p2⟩ := h1'
      obtain ⟨v, rfl⟩ := Int.eq_ofNat_of_zero_le (show 0 ≤ value by omega)
      obtain ⟨m, rfl⟩ := Int.eq_ofNat_of_zero_le p0
      rw [Int.toNat_natCast] at p2
      have e : ((2 : Int) ^ m) = ((2 ^ m : Nat) : Int) := by simp
      exact af_big g1 g2 v m (by omega) (by omega) (by omega) w h
  · obtain ⟨l, g1, g2, rfl, rfl⟩ := h0.list hd
    obtain ⟨v, rfl⟩ := Int.eq_ofNat_of_zero_le h1
    exact af_wide g1 g2 v width h2 w h
  · obtain ⟨l, g1, g2, rfl, rfl⟩ := h0.list hd
    obtain ⟨v, rfl⟩ := Int.eq_ofNat_of_zero_le h1
    obtain ⟨m, rfl⟩ := Int.eq_ofNat_of_zero_le h2
    rw [Int.toNat_natCast] at h4
    have e : ((2 : Int) ^ m) = ((2 ^ m : Nat) : Int) := by simp
    exact af_large g1 g2 v m (by omega) (by omega) (by omega) w h
/-- Which fault bits.Read tells. -/
def RErr (d : List Nat) (cnt f m code idx : Int) : Prop :=
  (¬ Ok d cnt ∧ code = 6 ∧ idx = -1) ∨ (Ok d cnt ∧ (f < 0 ∨ cnt < f) ∧ code = 4 ∧ idx = -2) ∨ (Ok d cnt ∧ 0 ≤ f ∧ f ≤ cnt ∧ (m < 0 ∨ 32 < m) ∧ code = 4 ∧ idx = -3) ∨
  (Ok d cnt ∧ 0 ≤ f ∧ f ≤ cnt ∧ 0 ≤ m ∧ m ≤ 32 ∧ cnt < f + m ∧ code = 15 ∧ idx = -2)
def ROk (d : List Nat) (cnt f m : Int) (l : List Nat) (fn mn : Nat) : Prop :=
  Is01 l ∧ l.length ≤ 131072 ∧ d = pack l ∧ cnt = l.length ∧ f = fn ∧ m = mn ∧ mn ≤ 32 ∧ fn + mn ≤ l.length
theorem read_cases (d : List Nat) (cnt f m : Int) (hd : ∀ k, d.getD k 0 < 256) : (∃ code idx, RErr d cnt f m code idx) ∨ ∃ l fn mn, ROk d cnt f m l fn mn := by
  by_cases h0 : Ok d cnt
  case neg => exact .inl ⟨6, -1, .inl ⟨h0, rfl, rfl⟩⟩
  by_cases h1 : f < 0 ∨ cnt < f
  · exact .inl ⟨4, -2, .inr (.inl ⟨h0, h1, rfl, rfl⟩)⟩
  by_cases h2 : m < 0 ∨ 32 < m
  · exact .inl ⟨4, -3, .inr (.inr (.inl ⟨h0, by omega, by omega, h2, rfl, rfl⟩))⟩
  by_cases h3 : cnt < f + m
  · exact .inl ⟨15, -2, .inr (.inr (.inr ⟨h0, by omega, by omega, by omega, by omega, h3, rfl, rfl⟩))⟩
  · obtain ⟨l, g1, g2, g3, g4⟩ := h0.list hd
    obtain ⟨fn, rfl⟩ := Int.eq_ofNat_of_zero_le (show 0 ≤ f by omega)
    obtain ⟨mn, rfl⟩ := Int.eq_ofNat_of_zero_le (show 0 ≤ m by omega)
    exact .inr ⟨l, fn, mn, g1, g2, g3, g4, rfl, rfl, by omega, by omega⟩
theorem RErr.code {d : List Nat} {cnt f m code idx : Int} (h : RErr d cnt f m code idx) : (code != 0) = true := by
  rcases h with ⟨_, rfl, _⟩ | ⟨_, _, rfl, _⟩ | ⟨_, _, _, _, rfl, _⟩ | ⟨_, _, _, _, _, _, rfl, _⟩ <;> decide
theorem read_err {A : Option Addr} {n c : Nat} {d : List Nat} {cnt f m code idx : Int} (hd : ∀ k, d.getD k 0 < 256) (hE : RErr d cnt f m code idx) (w : World) (h : Rd w A n c (bcells d)) :
    Calls Try.prog 27 #[.agg #[.slice A n c, .int .i64 cnt], .int .i64 f, .int .i64 m] w fun e w' => e = .returned (.tuple #[.int .i64 0, .agg #[.int .i64 code, .int .i64 idx]]) ∧ Below w.heap.size w w' := by
  rcases hE with ⟨h0, rfl, rfl⟩ | ⟨h0, h1, rfl, rfl⟩ | ⟨h0, h1, h2, h3, rfl, rfl⟩ | ⟨h0, h1, h2, h3, h4, h5, rfl, rfl⟩
  · exact read_form A n c d cnt f m _ w h (Nat.le_refl _) h0
  · obtain ⟨l, g1, g2, rfl, rfl⟩ := h0.list hd
    rcases h1 with h1 | h1
    · exact read_low A n c l f m _ w h (Nat.le_refl _) g1 g2 h1
    · exact read_high A n c l f m _ w h (Nat.le_refl _) g1 g2 h1
  · obtain ⟨l, g1, g2, rfl, rfl⟩ := h0.list hd
    rcases h3 with h3 | h3
    · exact read_narrow A n c l f m _ w h (Nat.le_refl _) g1 g2 h1 h2 h3
    · exact read_wide A n c l f m _ w h (Nat.le_refl _) g1 g2 h1 h2 h3
  · obtain ⟨l, g1, g2, rfl, rfl⟩ := h0.list hd
    exact read_short A n c l f m _ w h (Nat.le_refl _) g1 g2 h1 h2 h3 h4 h5
theorem rf_err {A : Option Addr} {n c : Nat} {d : List Nat} {cnt f m code idx : Int} (hd : ∀ k, d.getD k 0 < 256) (hlo : -9223372036854775808 ≤ cnt) (hhi : cnt ≤ 9223372036854775807) (hE : RErr d cnt f m code idx) (w : World) (h : Rd w A n c (bcells d)) :
    Calls Try.prog 29 #[.agg #[.slice A n c, .int .i64 cnt], .int .i64 f, .int .i64 m] w fun e w' => e = .returned (.agg #[.int .i64 code, .int .i64 idx]) ∧ Below w.heap.size w w' := by
  rcases hE with ⟨h0, rfl, rfl⟩ | ⟨h0, h1, rfl, rfl⟩ | ⟨h0, h1, h2, h3, rfl, rfl⟩ | ⟨h0, h1, h2, h3, h4, h5, rfl, rfl⟩
  · exact rf_form hd hlo hhi h0 f m w h
  · obtain ⟨l, g1, g2, rfl, rfl⟩ := h0.list hd
    exact rf_range g1 g2 f m h1 w h
  · obtain ⟨l, g1, g2, rfl, rfl⟩ := h0.list hd
    exact rf_wide g1 g2 f m h1 h2 h3 w h
  · obtain ⟨l, g1, g2, rfl, rfl⟩ := h0.list hd
    exact rf_short g1 g2 f m h1 h2 h3 h4 h5 w h
set_option maxHeartbeats 1600000 in
theorem nums_ee {A : Option Addr} {n c : Nat} {d : List Nat} {cnt : Int} (hd : ∀ k, d.getD k 0 < 256) (hlo : -9223372036854775808 ≤ cnt) (hhi : cnt ≤ 9223372036854775807) {value width f : Int} {code idx : Int} (hE : AErr d cnt value width code idx) (hv : value < 9223372036854775808) {code2 idx2 : Int} (hE2 : RErr d cnt f width code2 idx2)  (w : World) (h : Rd w A n c (bcells d)) :
    Calls Try.prog 5 #[.agg #[.slice A n c, .int .i64 cnt], .int .i64 value, .int .i64 width, .int .i64 f] w fun e w' => e = .returned (.bool true) ∧ Below w.heap.size w w' := by
  obtain ⟨i0, hi, hz0, hz1, hz2⟩ := info_parts int_info
  have HD := Lib.hid hd
  clear hd
  have k1 := hE.code
  have k2 : (code == 0) = false := by simpa [bne] using k1
  have HE := Lib.hid hE
  clear hE
  have k3 := hE2.code
  have k4 : (code2 == 0) = false := by simpa [bne] using k3
  have HE2 := Lib.hid hE2
  clear hE2
  have R_0 := (h).alloc (.cells #[.slice A n c, .int .i64 cnt] 24)
  have B_0 := (Two.new w 24 (.slice A n c) (.int .i64 cnt))
  have Z0 := (Below.refl w.heap.size w).alloc (by simp) (.cells #[.slice A n c, .int .i64 cnt] 24)
  have B_0_c0 := B_0.c0
  have B_0_c1 := B_0.c1
  go_enter Try.func5, Try.ntmps5
  go_wp2_with fail
  refine (append_err HD.out HE.out hv _ R_0).mono ?_
  rintro e w1 ⟨rfl, y1⟩
  have R_1 := ((R_0.on y1).alloc (.cells #[.slice none 0 0, .int .i64 0] 24)).alloc (.cells #[.int .i64 code, .int .i64 idx] 26)
  have B_1 := ((B_0.on y1).alloc (.cells #[.slice none 0 0, .int .i64 0] 24)).alloc (.cells #[.int .i64 code, .int .i64 idx] 26)
  have RX_1 := ((Rd.none_ w1).alloc (.cells #[.slice none 0 0, .int .i64 0] 24)).alloc (.cells #[.int .i64 code, .int .i64 idx] 26)
  have X_1 := ((Two.new w1 24 (.slice none 0 0) (.int .i64 0))).alloc (.cells #[.int .i64 code, .int .i64 idx] 26)
  have F_1 := (Two.new1 w1 (.cells #[.slice none 0 0, .int .i64 0] 24) 26 (.int .i64 code) (.int .i64 idx))
  clear R_0 B_0 B_0_c0 B_0_c1
  have z1 := Z0.trans (y1.mono Z0.size)
  have Z1 := ((z1).alloc (by have := z1.size; omega) (.cells #[.slice none 0 0, .int .i64 0] 24)).alloc (by have := z1.size; simp; omega) (.cells #[.int .i64 code, .int .i64 idx] 26)
  have B_1_c0 := B_1.c0
  have B_1_c1 := B_1.c1
  have X_1_c0 := X_1.c0
  have X_1_c1 := X_1.c1
  have F_1_c0 := F_1.c0
  have F_1_c1 := F_1.c1
  go_wp2_with fail
  refine (read_err HD.out HE2.out _ R_1).mono ?_
  rintro e w2 ⟨rfl, y2⟩
  have R_2 := (R_1.on y2).alloc (.cells #[.int .i64 code2, .int .i64 idx2] 26)
  have B_2 := (B_1.on y2).alloc (.cells #[.int .i64 code2, .int .i64 idx2] 26)
  have RX_2 := (RX_1.on y2).alloc (.cells #[.int .i64 code2, .int .i64 idx2] 26)
  have X_2 := (X_1.on y2).alloc (.cells #[.int .i64 code2, .int .i64 idx2] 26)
  have F_2 := (F_1.on y2).alloc (.cells #[.int .i64 code2, .int .i64 idx2] 26)
  have G_2 := (Two.new w2 26 (.int .i64 code2) (.int .i64 idx2))
  clear R_1 B_1 B_1_c0 B_1_c1 RX_1 X_1 X_1_c0 X_1_c1 F_1 F_1_c0 F_1_c1
  have z2 := Z1.trans (y2.mono Z1.size)
  have Z2 := (z2).alloc (by have := z2.size; omega) (.cells #[.int .i64 code2, .int .i64 idx2] 26)
  have B_2_c0 := B_2.c0
  have B_2_c1 := B_2.c1
  have X_2_c0 := X_2.c0
  have X_2_c1 := X_2.c1
  have F_2_c0 := F_2.c0
  have F_2_c1 := F_2.c1
  have G_2_c0 := G_2.c0
  have G_2_c1 := G_2.c1
  go_wp2_with fail
  refine (af_err HD.out hlo hhi HE.out hv _ R_2).mono ?_
  rintro e w3 ⟨rfl, y3⟩
  have R_3 := (R_2.on y3).alloc (.cells #[.int .i64 code, .int .i64 idx] 26)
  have B_3 := (B_2.on y3).alloc (.cells #[.int .i64 code, .int .i64 idx] 26)
  have RX_3 := (RX_2.on y3).alloc (.cells #[.int .i64 code, .int .i64 idx] 26)
  have X_3 := (X_2.on y3).alloc (.cells #[.int .i64 code, .int .i64 idx] 26)
  have F_3 := (F_2.on y3).alloc (.cells #[.int .i64 code, .int .i64 idx] 26)
  have G_3 := (G_2.on y3).alloc (.cells #[.int .i64 code, .int .i64 idx] 26)
  have W_3 := (Two.new w3 26 (.int .i64 code) (.int .i64 idx))
  clear R_2 B_2 B_2_c0 B_2_c1 RX_2 X_2 X_2_c0 X_2_c1 F_2 F_2_c0 F_2_c1 G_2 G_2_c0 G_2_c1
  have z3 := Z2.trans (y3.mono Z2.size)
  have Z3 := (z3).alloc (by have := z3.size; omega) (.cells #[.int .i64 code, .int .i64 idx] 26)
  have B_3_c0 := B_3.c0
  have B_3_c1 := B_3.c1
  have X_3_c0 := X_3.c0
  have X_3_c1 := X_3.c1
  have F_3_c0 := F_3.c0
  have F_3_c1 := F_3.c1
  have G_3_c0 := G_3.c0
  have G_3_c1 := G_3.c1
  have W_3_c0 := W_3.c0
  have W_3_c1 := W_3.c1
  go_wp2_with fail
  refine (rf_err HD.out hlo hhi HE2.out _ R_3).mono ?_
  rintro e w4 ⟨rfl, y4⟩
  have R_4 := (R_3.on y4).alloc (.cells #[.int .i64 code2, .int .i64 idx2] 26)
  have B_4 := (B_3.on y4).alloc (.cells #[.int .i64 code2, .int .i64 idx2] 26)
  have RX_4 := (RX_3.on y4).alloc (.cells #[.int .i64 code2, .int .i64 idx2] 26)
  have X_4 := (X_3.on y4).alloc (.cells #[.int .i64 code2, .int .i64 idx2] 26)
  have F_4 := (F_3.on y4).alloc (.cells #[.int .i64 code2, .int .i64 idx2] 26)
  have G_4 := (G_3.on y4).alloc (.cells #[.int .i64 code2, .int .i64 idx2] 26)
  have W_4 := (W_3.on y4).alloc (.cells #[.int .i64 code2, .int .i64 idx2] 26)
  have V_4 := (Two.new w4 26 (.int .i64 code2) (.int .i64 idx2))
  clear R_3 B_3 B_3_c0 B_3_c1 RX_3 X_3 X_3_c0 X_3_c1 F_3 F_3_c0 F_3_c1 G_3 G_3_c0 G_3_c1 W_3 W_3_c0 W_3_c1
  have z4 := Z3.trans (y4.mono Z3.size)
  have Z4 := (z4).alloc (by have := z4.size; omega) (.cells #[.int .i64 code2, .int .i64 idx2] 26)
  have B_4_c0 := B_4.c0
  have B_4_c1 := B_4.c1
  have X_4_c0 := X_4.c0
  have X_4_c1 := X_4.c1
  have F_4_c0 := F_4.c0
  have F_4_c1 := F_4.c1
  have G_4_c0 := G_4.c0
  have G_4_c1 := G_4.c1
  have W_4_c0 := W_4.c0
  have W_4_c1 := W_4.c1
  have V_4_c0 := V_4.c0
  have V_4_c1 := V_4.c1
  go_wp2_with fail
  refine (strings_true _).mono ?_
  rintro e w5 ⟨rfl, y5⟩
  have R_5 := R_4.on y5
  have B_5 := B_4.on y5
  have RX_5 := RX_4.on y5
  have X_5 := X_4.on y5
  have F_5 := F_4.on y5
  have G_5 := G_4.on y5
  have W_5 := W_4.on y5
  have V_5 := V_4.on y5
  clear R_4 B_4 B_4_c0 B_4_c1 RX_4 X_4 X_4_c0 X_4_c1 F_4 F_4_c0 F_4_c1 G_4 G_4_c0 G_4_c1 W_4 W_4_c0 W_4_c1 V_4 V_4_c0 V_4_c1
  have z5 := Z4.trans (y5.mono Z4.size)
  have Z5 := z5
  have B_5_c0 := B_5.c0
  have B_5_c1 := B_5.c1
  have X_5_c0 := X_5.c0
  have X_5_c1 := X_5.c1
  have F_5_c0 := F_5.c0
  have F_5_c1 := F_5.c1
  have G_5_c0 := G_5.c0
  have G_5_c1 := G_5.c1
  have W_5_c0 := W_5.c0
  have W_5_c1 := W_5.c1
  have V_5_c0 := V_5.c0
  have V_5_c1 := V_5.c1
  go_wp2_with fail
  refine (api_same (l := []) (l2 := []) RX_5 (Rd.none_ _) Is01.nil Is01.nil true (by decide) _ _ rfl rfl).mono ?_
  rintro e w6 ⟨rfl, y6⟩
  have R_6 := R_5.on y6
  have B_6 := B_5.on y6
  have RX_6 := RX_5.on y6
  have X_6 := X_5.on y6
  have F_6 := F_5.on y6
  have G_6 := G_5.on y6
  have W_6 := W_5.on y6
  have V_6 := V_5.on y6
  clear R_5 B_5 B_5_c0 B_5_c1 RX_5 X_5 X_5_c0 X_5_c1 F_5 F_5_c0 F_5_c1 G_5 G_5_c0 G_5_c1 W_5 W_5_c0 W_5_c1 V_5 V_5_c0 V_5_c1
  have z6 := Z5.trans (y6.mono Z5.size)
  have Z6 := z6
  have B_6_c0 := B_6.c0
  have B_6_c1 := B_6.c1
  have X_6_c0 := X_6.c0
  have X_6_c1 := X_6.c1
  have F_6_c0 := F_6.c0
  have F_6_c1 := F_6.c1
  have G_6_c0 := G_6.c0
  have G_6_c1 := G_6.c1
  have W_6_c0 := W_6.c0
  have W_6_c1 := W_6.c1
  have V_6_c0 := V_6.c0
  have V_6_c1 := V_6.c1
  go_wp2_with fail
  go_quiet (fail)
  have R_7 := Rd.drewN R_6 nq
  have B_7 := Two.drewN B_6 nq
  have RX_7 := Rd.drewN RX_6 nq
  have X_7 := Two.drewN X_6 nq
  have F_7 := Two.drewN F_6 nq
  have G_7 := Two.drewN G_6 nq
  have W_7 := Two.drewN W_6 nq
  have V_7 := Two.drewN V_6 nq
  have Z7 := belowN Z6 nq
  clear R_6 B_6 B_6_c0 B_6_c1 RX_6 X_6 X_6_c0 X_6_c1 F_6 F_6_c0 F_6_c1 G_6 G_6_c0 G_6_c1 W_6 W_6_c0 W_6_c1 V_6 V_6_c0 V_6_c1
  obtain ⟨w7, hw7⟩ : ∃ w7, w7 = w6.drewN nq := ⟨_, rfl⟩
  rw [← hw7] at R_7 B_7 RX_7 X_7 F_7 G_7 W_7 V_7 Z7
  rw [← hw7]
  clear hw7
  have B_7_c0 := B_7.c0
  have B_7_c1 := B_7.c1
  have X_7_c0 := X_7.c0
  have X_7_c1 := X_7.c1
  have F_7_c0 := F_7.c0
  have F_7_c1 := F_7.c1
  have G_7_c0 := G_7.c0
  have G_7_c1 := G_7.c1
  have W_7_c0 := W_7.c0
  have W_7_c1 := W_7.c1
  have V_7_c0 := V_7.c0
  have V_7_c1 := V_7.c1
  go_wp2
  go_ret
  exact ⟨rfl, Z7⟩
set_option maxHeartbeats 1600000 in
theorem nums_eo {A : Option Addr} {n c : Nat} {l : List Nat} (h01 : Is01 l) (hl : l.length ≤ 131072) {m f : Nat} {value : Int} {code idx : Int} (hE : AErr (pack l) (l.length : Nat) value (m : Nat) code idx) (hv : value < 9223372036854775808) (hm : m ≤ 32) (hfm : f + m ≤ l.length)  (w : World) (h : Rd w A n c (bcells (pack l))) :
    Calls Try.prog 5 #[.agg #[.slice A n c, .int .i64 (l.length : Nat)], .int .i64 value, .int .i64 (m : Nat), .int .i64 (f : Nat)] w fun e w' => e = .returned (.bool true) ∧ Below w.heap.size w w' := by
  obtain ⟨i0, hi, hz0, hz1, hz2⟩ := info_parts int_info
  have H01 := Lib.hid h01
  have HLL := Lib.hid hl
  have HD := Lib.hid (pack_lt h01)
  have hlo : -9223372036854775808 ≤ ((l.length : Nat) : Int) := by omega
  have hhi : ((l.length : Nat) : Int) ≤ 9223372036854775807 := by omega
  clear h01
  have k1 := hE.code
  have k2 : (code == 0) = false := by simpa [bne] using k1
  have HE := Lib.hid hE
  clear hE
  obtain ⟨q, hq⟩ : ∃ q, q = num ((l.drop f).take m) := ⟨_, rfl⟩
  have HRD := Lib.hid (fun W (hW : Rd W A n c (bcells (pack l))) => read_ok A n c l f m _ W hW (Nat.le_refl _) H01.out HLL.out hm hfm)
  rw [← hq] at HRD
  unfold flt at HRD
  have HRF := Lib.hid (fun W (hW : Rd W A n c (bcells (pack l))) => rf_ok H01.out HLL.out (f : Nat) (m : Nat) (by omega) (by omega) (by omega) (by omega) (by omega) W hW)
  have HQ := Lib.hid hq
  clear hq
  have R_0 := (h).alloc (.cells #[.slice A n c, .int .i64 (l.length : Nat)] 24)
  have B_0 := (Two.new w 24 (.slice A n c) (.int .i64 (l.length : Nat)))
  have Z0 := (Below.refl w.heap.size w).alloc (by simp) (.cells #[.slice A n c, .int .i64 (l.length : Nat)] 24)
  have B_0_c0 := B_0.c0
  have B_0_c1 := B_0.c1
  go_enter Try.func5, Try.ntmps5
  go_wp2_with fail
  refine (append_err HD.out HE.out hv _ R_0).mono ?_
  rintro e w1 ⟨rfl, y1⟩
  have R_1 := ((R_0.on y1).alloc (.cells #[.slice none 0 0, .int .i64 0] 24)).alloc (.cells #[.int .i64 code, .int .i64 idx] 26)
  have B_1 := ((B_0.on y1).alloc (.cells #[.slice none 0 0, .int .i64 0] 24)).alloc (.cells #[.int .i64 code, .int .i64 idx] 26)
  have RX_1 := ((Rd.none_ w1).alloc (.cells #[.slice none 0 0, .int .i64 0] 24)).alloc (.cells #[.int .i64 code, .int .i64 idx] 26)
  have X_1 := ((Two.new w1 24 (.slice none 0 0) (.int .i64 0))).alloc (.cells #[.int .i64 code, .int .i64 idx] 26)
  have F_1 := (Two.new1 w1 (.cells #[.slice none 0 0, .int .i64 0] 24) 26 (.int .i64 code) (.int .i64 idx))
  clear R_0 B_0 B_0_c0 B_0_c1
  have z1 := Z0.trans (y1.mono Z0.size)
  have Z1 := ((z1).alloc (by have := z1.size; omega) (.cells #[.slice none 0 0, .int .i64 0] 24)).alloc (by have := z1.size; simp; omega) (.cells #[.int .i64 code, .int .i64 idx] 26)
  have B_1_c0 := B_1.c0
  have B_1_c1 := B_1.c1
  have X_1_c0 := X_1.c0
  have X_1_c1 := X_1.c1
  have F_1_c0 := F_1.c0
  have F_1_c1 := F_1.c1
  go_wp2_with fail
  refine (HRD.out _ R_1).mono ?_
  rintro e w2 ⟨rfl, y2⟩
  have R_2 := (R_1.on y2).alloc (.cells #[.int .i64 0, .int .i64 0] 26)
  have B_2 := (B_1.on y2).alloc (.cells #[.int .i64 0, .int .i64 0] 26)
  have RX_2 := (RX_1.on y2).alloc (.cells #[.int .i64 0, .int .i64 0] 26)
  have X_2 := (X_1.on y2).alloc (.cells #[.int .i64 0, .int .i64 0] 26)
  have F_2 := (F_1.on y2).alloc (.cells #[.int .i64 0, .int .i64 0] 26)
  have G_2 := (Two.new w2 26 (.int .i64 0) (.int .i64 0))
  clear R_1 B_1 B_1_c0 B_1_c1 RX_1 X_1 X_1_c0 X_1_c1 F_1 F_1_c0 F_1_c1
  have z2 := Z1.trans (y2.mono Z1.size)
  have Z2 := (z2).alloc (by have := z2.size; omega) (.cells #[.int .i64 0, .int .i64 0] 26)
  have B_2_c0 := B_2.c0
  have B_2_c1 := B_2.c1
  have X_2_c0 := X_2.c0
  have X_2_c1 := X_2.c1
  have F_2_c0 := F_2.c0
  have F_2_c1 := F_2.c1
  have G_2_c0 := G_2.c0
  have G_2_c1 := G_2.c1
  go_wp2_with fail
  refine (af_err HD.out hlo hhi HE.out hv _ R_2).mono ?_
  rintro e w3 ⟨rfl, y3⟩
  have R_3 := (R_2.on y3).alloc (.cells #[.int .i64 code, .int .i64 idx] 26)
  have B_3 := (B_2.on y3).alloc (.cells #[.int .i64 code, .int .i64 idx] 26)
  have RX_3 := (RX_2.on y3).alloc (.cells #[.int .i64 code, .int .i64 idx] 26)
  have X_3 := (X_2.on y3).alloc (.cells #[.int .i64 code, .int .i64 idx] 26)
  have F_3 := (F_2.on y3).alloc (.cells #[.int .i64 code, .int .i64 idx] 26)
  have G_3 := (G_2.on y3).alloc (.cells #[.int .i64 code, .int .i64 idx] 26)
  have W_3 := (Two.new w3 26 (.int .i64 code) (.int .i64 idx))
  clear R_2 B_2 B_2_c0 B_2_c1 RX_2 X_2 X_2_c0 X_2_c1 F_2 F_2_c0 F_2_c1 G_2 G_2_c0 G_2_c1
  have z3 := Z2.trans (y3.mono Z2.size)
  have Z3 := (z3).alloc (by have := z3.size; omega) (.cells #[.int .i64 code, .int .i64 idx] 26)
  have B_3_c0 := B_3.c0
  have B_3_c1 := B_3.c1
  have X_3_c0 := X_3.c0
  have X_3_c1 := X_3.c1
  have F_3_c0 := F_3.c0
  have F_3_c1 := F_3.c1
  have G_3_c0 := G_3.c0
  have G_3_c1 := G_3.c1
  have W_3_c0 := W_3.c0
  have W_3_c1 := W_3.c1
  go_wp2_with fail
  refine (HRF.out _ R_3).mono ?_
  rintro e w4 ⟨rfl, y4⟩
  have R_4 := (R_3.on y4).alloc (.cells #[.int .i64 0, .int .i64 0] 26)
  have B_4 := (B_3.on y4).alloc (.cells #[.int .i64 0, .int .i64 0] 26)
  have RX_4 := (RX_3.on y4).alloc (.cells #[.int .i64 0, .int .i64 0] 26)
  have X_4 := (X_3.on y4).alloc (.cells #[.int .i64 0, .int .i64 0] 26)
  have F_4 := (F_3.on y4).alloc (.cells #[.int .i64 0, .int .i64 0] 26)
  have G_4 := (G_3.on y4).alloc (.cells #[.int .i64 0, .int .i64 0] 26)
  have W_4 := (W_3.on y4).alloc (.cells #[.int .i64 0, .int .i64 0] 26)
  have V_4 := (Two.new w4 26 (.int .i64 0) (.int .i64 0))
  clear R_3 B_3 B_3_c0 B_3_c1 RX_3 X_3 X_3_c0 X_3_c1 F_3 F_3_c0 F_3_c1 G_3 G_3_c0 G_3_c1 W_3 W_3_c0 W_3_c1
  have z4 := Z3.trans (y4.mono Z3.size)
  have Z4 := (z4).alloc (by have := z4.size; omega) (.cells #[.int .i64 0, .int .i64 0] 26)
  have B_4_c0 := B_4.c0
  have B_4_c1 := B_4.c1
  have X_4_c0 := X_4.c0
  have X_4_c1 := X_4.c1
  have F_4_c0 := F_4.c0
  have F_4_c1 := F_4.c1
  have G_4_c0 := G_4.c0
  have G_4_c1 := G_4.c1
  have W_4_c0 := W_4.c0
  have W_4_c1 := W_4.c1
  have V_4_c0 := V_4.c0
  have V_4_c1 := V_4.c1
  go_wp2_with fail
  refine (strings_true _).mono ?_
  rintro e w5 ⟨rfl, y5⟩
  have R_5 := R_4.on y5
  have B_5 := B_4.on y5
  have RX_5 := RX_4.on y5
  have X_5 := X_4.on y5
  have F_5 := F_4.on y5
  have G_5 := G_4.on y5
  have W_5 := W_4.on y5
  have V_5 := V_4.on y5
  clear R_4 B_4 B_4_c0 B_4_c1 RX_4 X_4 X_4_c0 X_4_c1 F_4 F_4_c0 F_4_c1 G_4 G_4_c0 G_4_c1 W_4 W_4_c0 W_4_c1 V_4 V_4_c0 V_4_c1
  have z5 := Z4.trans (y5.mono Z4.size)
  have Z5 := z5
  have B_5_c0 := B_5.c0
  have B_5_c1 := B_5.c1
  have X_5_c0 := X_5.c0
  have X_5_c1 := X_5.c1
  have F_5_c0 := F_5.c0
  have F_5_c1 := F_5.c1
  have G_5_c0 := G_5.c0
  have G_5_c1 := G_5.c1
  have W_5_c0 := W_5.c0
  have W_5_c1 := W_5.c1
  have V_5_c0 := V_5.c0
  have V_5_c1 := V_5.c1
  go_wp2_with fail
  refine (api_same (l := []) (l2 := []) RX_5 (Rd.none_ _) Is01.nil Is01.nil true (by decide) _ _ rfl rfl).mono ?_
  rintro e w6 ⟨rfl, y6⟩
  have R_6 := R_5.on y6
  have B_6 := B_5.on y6
  have RX_6 := RX_5.on y6
  have X_6 := X_5.on y6
  have F_6 := F_5.on y6
  have G_6 := G_5.on y6
  have W_6 := W_5.on y6
  have V_6 := V_5.on y6
  clear R_5 B_5 B_5_c0 B_5_c1 RX_5 X_5 X_5_c0 X_5_c1 F_5 F_5_c0 F_5_c1 G_5 G_5_c0 G_5_c1 W_5 W_5_c0 W_5_c1 V_5 V_5_c0 V_5_c1
  have z6 := Z5.trans (y6.mono Z5.size)
  have Z6 := z6
  have B_6_c0 := B_6.c0
  have B_6_c1 := B_6.c1
  have X_6_c0 := X_6.c0
  have X_6_c1 := X_6.c1
  have F_6_c0 := F_6.c0
  have F_6_c1 := F_6.c1
  have G_6_c0 := G_6.c0
  have G_6_c1 := G_6.c1
  have W_6_c0 := W_6.c0
  have W_6_c1 := W_6.c1
  have V_6_c0 := V_6.c0
  have V_6_c1 := V_6.c1
  go_wp2_with fail
  go_quiet (fail)
  have R_7 := Rd.drewN R_6 nq
  have B_7 := Two.drewN B_6 nq
  have RX_7 := Rd.drewN RX_6 nq
  have X_7 := Two.drewN X_6 nq
  have F_7 := Two.drewN F_6 nq
  have G_7 := Two.drewN G_6 nq
  have W_7 := Two.drewN W_6 nq
  have V_7 := Two.drewN V_6 nq
  have Z7 := belowN Z6 nq
  clear R_6 B_6 B_6_c0 B_6_c1 RX_6 X_6 X_6_c0 X_6_c1 F_6 F_6_c0 F_6_c1 G_6 G_6_c0 G_6_c1 W_6 W_6_c0 W_6_c1 V_6 V_6_c0 V_6_c1
  obtain ⟨w7, hw7⟩ : ∃ w7, w7 = w6.drewN nq := ⟨_, rfl⟩
  rw [← hw7] at R_7 B_7 RX_7 X_7 F_7 G_7 W_7 V_7 Z7
  rw [← hw7]
  clear hw7
  have B_7_c0 := B_7.c0
  have B_7_c1 := B_7.c1
  have X_7_c0 := X_7.c0
  have X_7_c1 := X_7.c1
  have F_7_c0 := F_7.c0
  have F_7_c1 := F_7.c1
  have G_7_c0 := G_7.c0
  have G_7_c1 := G_7.c1
  have W_7_c0 := W_7.c0
  have W_7_c1 := W_7.c1
  have V_7_c0 := V_7.c0
  have V_7_c1 := V_7.c1
  go_wp2_with fail
  refine (bits_any R_7 H01.out HLL.out _ rfl).mono ?_
  rintro e w8 ⟨Ab2, cb2, rfl, hob9, y8⟩
  have R_8 := R_7.on y8
  have B_8 := B_7.on y8
  have RX_8 := RX_7.on y8
  have X_8 := X_7.on y8
  have F_8 := F_7.on y8
  have G_8 := G_7.on y8
  have W_8 := W_7.on y8
  have V_8 := V_7.on y8
  clear R_7 B_7 B_7_c0 B_7_c1 RX_7 X_7 X_7_c0 X_7_c1 F_7 F_7_c0 F_7_c1 G_7 G_7_c0 G_7_c1 W_7 W_7_c0 W_7_c1 V_7 V_7_c0 V_7_c1
  have z8 := Z7.trans (y8.mono Z7.size)
  have Z8 := z8
  have B_8_c0 := B_8.c0
  have B_8_c1 := B_8.c1
  have X_8_c0 := X_8.c0
  have X_8_c1 := X_8.c1
  have F_8_c0 := F_8.c0
  have F_8_c1 := F_8.c1
  have G_8_c0 := G_8.c0
  have G_8_c1 := G_8.c1
  have W_8_c0 := W_8.c0
  have W_8_c1 := W_8.c1
  have V_8_c0 := V_8.c0
  have V_8_c1 := V_8.c1
  have RB := Rd.own hob9
  have hcb := Reads.cap RB
  have hcm := Reads.capMax RB
  unfold maxLen at hcm
  by_cases hfc : f < cb2
  · have RS := RB.sub f m hfm hfc
    go_wp2_with fail
    refine (numref_any RS ((H01.out.drop f).take _) (by rw [List.length_take]; omega)).mono ?_
    rw [← HQ.out]
    rintro e w99 ⟨rfl, rfl⟩
    go_wp2
    go_ret
    exact ⟨rfl, Z8⟩
  · obtain rfl : f = cb2 := by omega
    obtain rfl : m = 0 := by omega
    have RS : Rd w8 Ab2 0 0 (ncells ((l.drop f).take 0)) := Rd.sub_none (by unfold maxLen; omega) rfl
    go_wp2_with fail
    refine (numref_any RS ((H01.out.drop f).take _) (by rw [List.length_take]; omega)).mono ?_
    rw [← HQ.out]
    rintro e w99 ⟨rfl, rfl⟩
    go_wp2
    go_ret
    exact ⟨rfl, Z8⟩
set_option maxHeartbeats 1600000 in
theorem nums_oe {A : Option Addr} {n c : Nat} {l : List Nat} (h01 : Is01 l) (hl : l.length ≤ 131072) {v m : Nat} {f : Int} (hm : m ≤ 32) (hv : v < 2 ^ m) (hs : l.length + m ≤ 131072) {code2 idx2 : Int} (hE2 : RErr (pack l) (l.length : Nat) f (m : Nat) code2 idx2)  (w : World) (h : Rd w A n c (bcells (pack l))) :
    Calls Try.prog 5 #[.agg #[.slice A n c, .int .i64 (l.length : Nat)], .int .i64 (v : Nat), .int .i64 (m : Nat), .int .i64 f] w fun e w' => e = .returned (.bool true) ∧ Below w.heap.size w w' := by
  obtain ⟨i0, hi, hz0, hz1, hz2⟩ := info_parts int_info
  have H01 := Lib.hid h01
  have HLL := Lib.hid hl
  have HD := Lib.hid (pack_lt h01)
  have hlo : -9223372036854775808 ≤ ((l.length : Nat) : Int) := by omega
  have hhi : ((l.length : Nat) : Int) ≤ 9223372036854775807 := by omega
  clear h01
  obtain ⟨L, hL⟩ : ∃ L, L = l ++ digs v m := ⟨_, rfl⟩
  have hLn : L.length = l.length + m := by rw [hL, List.length_append, digs_length]
  have HLN := Lib.hid hLn
  have HLB := Lib.hid (show L.length ≤ 131072 by omega)
  have hv63 : v < 9223372036854775808 := by
    have : 2 ^ m ≤ 2 ^ 32 := Nat.pow_le_pow_right (by decide) hm
    omega
  have HL01 := Lib.hid (show Is01 L by rw [hL]; exact H01.out.append (digs_01 _ _))
  have HNC := Lib.hid (show ncells l ++ ncells (digs v m) = ncells L by rw [hL, ncells_append])
  have HAP := Lib.hid (fun W (hW : Rd W A n c (bcells (pack l))) => api_append hW H01.out HLL.out hm hv hs hL)
  have HAF := Lib.hid (fun W (hW : Rd W A n c (bcells (pack l))) => af_ok H01.out HLL.out v m hm hv hs W hW)
  clear hL hLn hv hs
  have k3 := hE2.code
  have k4 : (code2 == 0) = false := by simpa [bne] using k3
  have HE2 := Lib.hid hE2
  clear hE2
  have R_0 := (h).alloc (.cells #[.slice A n c, .int .i64 (l.length : Nat)] 24)
  have B_0 := (Two.new w 24 (.slice A n c) (.int .i64 (l.length : Nat)))
  have Z0 := (Below.refl w.heap.size w).alloc (by simp) (.cells #[.slice A n c, .int .i64 (l.length : Nat)] 24)
  have B_0_c0 := B_0.c0
  have B_0_c1 := B_0.c1
  go_enter Try.func5, Try.ntmps5
  go_wp2_with fail
  refine (HAP.out _ R_0).mono ?_
  rintro e w1 ⟨Ax, nx, cx, rfl, Rx, y1⟩
  have R_1 := ((R_0.on y1).alloc (.cells #[.slice Ax nx cx, .int .i64 (L.length : Nat)] 24)).alloc (.cells #[.int .i64 0, .int .i64 0] 26)
  have B_1 := ((B_0.on y1).alloc (.cells #[.slice Ax nx cx, .int .i64 (L.length : Nat)] 24)).alloc (.cells #[.int .i64 0, .int .i64 0] 26)
  have RX_1 := ((Rx).alloc (.cells #[.slice Ax nx cx, .int .i64 (L.length : Nat)] 24)).alloc (.cells #[.int .i64 0, .int .i64 0] 26)
  have X_1 := ((Two.new w1 24 (.slice Ax nx cx) (.int .i64 (L.length : Nat)))).alloc (.cells #[.int .i64 0, .int .i64 0] 26)
  have F_1 := (Two.new1 w1 (.cells #[.slice Ax nx cx, .int .i64 (L.length : Nat)] 24) 26 (.int .i64 0) (.int .i64 0))
  clear R_0 B_0 B_0_c0 B_0_c1
  have z1 := Z0.trans (y1.mono Z0.size)
  have Z1 := ((z1).alloc (by have := z1.size; omega) (.cells #[.slice Ax nx cx, .int .i64 (L.length : Nat)] 24)).alloc (by have := z1.size; simp; omega) (.cells #[.int .i64 0, .int .i64 0] 26)
  have B_1_c0 := B_1.c0
  have B_1_c1 := B_1.c1
  have X_1_c0 := X_1.c0
  have X_1_c1 := X_1.c1
  have F_1_c0 := F_1.c0
  have F_1_c1 := F_1.c1
  go_wp2_with fail
  refine (read_err HD.out HE2.out _ R_1).mono ?_
  rintro e w2 ⟨rfl, y2⟩
  have R_2 := (R_1.on y2).alloc (.cells #[.int .i64 code2, .int .i64 idx2] 26)
  have B_2 := (B_1.on y2).alloc (.cells #[.int .i64 code2, .int .i64 idx2] 26)
  have RX_2 := (RX_1.on y2).alloc (.cells #[.int .i64 code2, .int .i64 idx2] 26)
  have X_2 := (X_1.on y2).alloc (.cells #[.int .i64 code2, .int .i64 idx2] 26)
  have F_2 := (F_1.on y2).alloc (.cells #[.int .i64 code2, .int .i64 idx2] 26)
  have G_2 := (Two.new w2 26 (.int .i64 code2) (.int .i64 idx2))
  clear R_1 B_1 B_1_c0 B_1_c1 RX_1 X_1 X_1_c0 X_1_c1 F_1 F_1_c0 F_1_c1
  have z2 := Z1.trans (y2.mono Z1.size)
  have Z2 := (z2).alloc (by have := z2.size; omega) (.cells #[.int .i64 code2, .int .i64 idx2] 26)
  have B_2_c0 := B_2.c0
  have B_2_c1 := B_2.c1
  have X_2_c0 := X_2.c0
  have X_2_c1 := X_2.c1
  have F_2_c0 := F_2.c0
  have F_2_c1 := F_2.c1
  have G_2_c0 := G_2.c0
  have G_2_c1 := G_2.c1
  go_wp2_with fail
  refine (HAF.out _ R_2).mono ?_
  rintro e w3 ⟨rfl, y3⟩
  have R_3 := (R_2.on y3).alloc (.cells #[.int .i64 0, .int .i64 0] 26)
  have B_3 := (B_2.on y3).alloc (.cells #[.int .i64 0, .int .i64 0] 26)
  have RX_3 := (RX_2.on y3).alloc (.cells #[.int .i64 0, .int .i64 0] 26)
  have X_3 := (X_2.on y3).alloc (.cells #[.int .i64 0, .int .i64 0] 26)
  have F_3 := (F_2.on y3).alloc (.cells #[.int .i64 0, .int .i64 0] 26)
  have G_3 := (G_2.on y3).alloc (.cells #[.int .i64 0, .int .i64 0] 26)
  have W_3 := (Two.new w3 26 (.int .i64 0) (.int .i64 0))
  clear R_2 B_2 B_2_c0 B_2_c1 RX_2 X_2 X_2_c0 X_2_c1 F_2 F_2_c0 F_2_c1 G_2 G_2_c0 G_2_c1
  have z3 := Z2.trans (y3.mono Z2.size)
  have Z3 := (z3).alloc (by have := z3.size; omega) (.cells #[.int .i64 0, .int .i64 0] 26)
  have B_3_c0 := B_3.c0
  have B_3_c1 := B_3.c1
  have X_3_c0 := X_3.c0
  have X_3_c1 := X_3.c1
  have F_3_c0 := F_3.c0
  have F_3_c1 := F_3.c1
  have G_3_c0 := G_3.c0
  have G_3_c1 := G_3.c1
  have W_3_c0 := W_3.c0
  have W_3_c1 := W_3.c1
  go_wp2_with fail
  refine (rf_err HD.out hlo hhi HE2.out _ R_3).mono ?_
  rintro e w4 ⟨rfl, y4⟩
  have R_4 := (R_3.on y4).alloc (.cells #[.int .i64 code2, .int .i64 idx2] 26)
  have B_4 := (B_3.on y4).alloc (.cells #[.int .i64 code2, .int .i64 idx2] 26)
  have RX_4 := (RX_3.on y4).alloc (.cells #[.int .i64 code2, .int .i64 idx2] 26)
  have X_4 := (X_3.on y4).alloc (.cells #[.int .i64 code2, .int .i64 idx2] 26)
  have F_4 := (F_3.on y4).alloc (.cells #[.int .i64 code2, .int .i64 idx2] 26)
  have G_4 := (G_3.on y4).alloc (.cells #[.int .i64 code2, .int .i64 idx2] 26)
  have W_4 := (W_3.on y4).alloc (.cells #[.int .i64 code2, .int .i64 idx2] 26)
  have V_4 := (Two.new w4 26 (.int .i64 code2) (.int .i64 idx2))
  clear R_3 B_3 B_3_c0 B_3_c1 RX_3 X_3 X_3_c0 X_3_c1 F_3 F_3_c0 F_3_c1 G_3 G_3_c0 G_3_c1 W_3 W_3_c0 W_3_c1
  have z4 := Z3.trans (y4.mono Z3.size)
  have Z4 := (z4).alloc (by have := z4.size; omega) (.cells #[.int .i64 code2, .int .i64 idx2] 26)
  have B_4_c0 := B_4.c0
  have B_4_c1 := B_4.c1
  have X_4_c0 := X_4.c0
  have X_4_c1 := X_4.c1
  have F_4_c0 := F_4.c0
  have F_4_c1 := F_4.c1
  have G_4_c0 := G_4.c0
  have G_4_c1 := G_4.c1
  have W_4_c0 := W_4.c0
  have W_4_c1 := W_4.c1
  have V_4_c0 := V_4.c0
  have V_4_c1 := V_4.c1
  go_wp2_with fail
  refine (strings_true _).mono ?_
  rintro e w5 ⟨rfl, y5⟩
  have R_5 := R_4.on y5
  have B_5 := B_4.on y5
  have RX_5 := RX_4.on y5
  have X_5 := X_4.on y5
  have F_5 := F_4.on y5
  have G_5 := G_4.on y5
  have W_5 := W_4.on y5
  have V_5 := V_4.on y5
  clear R_4 B_4 B_4_c0 B_4_c1 RX_4 X_4 X_4_c0 X_4_c1 F_4 F_4_c0 F_4_c1 G_4 G_4_c0 G_4_c1 W_4 W_4_c0 W_4_c1 V_4 V_4_c0 V_4_c1
  have z5 := Z4.trans (y5.mono Z4.size)
  have Z5 := z5
  have B_5_c0 := B_5.c0
  have B_5_c1 := B_5.c1
  have X_5_c0 := X_5.c0
  have X_5_c1 := X_5.c1
  have F_5_c0 := F_5.c0
  have F_5_c1 := F_5.c1
  have G_5_c0 := G_5.c0
  have G_5_c1 := G_5.c1
  have W_5_c0 := W_5.c0
  have W_5_c1 := W_5.c1
  have V_5_c0 := V_5.c0
  have V_5_c1 := V_5.c1
  go_wp2_with fail
  go_region_held3 (fun w' => w'.cell? ⟨w3.heap.size, 0, none⟩ = some (.int .i64 0) ∧ w'.cell? ⟨w3.heap.size, 1, none⟩ = some (.int .i64 0) ∧ w'.cell? ⟨w1.heap.size, 0, none⟩ = some (.slice Ax nx cx) ∧ w'.cell? ⟨w1.heap.size, 1, none⟩ = some (.int .i64 (L.length : Nat)) ∧ w'.cell? ⟨w.heap.size, 0, none⟩ = some (.slice A n c) ∧ w'.cell? ⟨w.heap.size, 1, none⟩ = some (.int .i64 (l.length : Nat))) (go_keep) (first | (go_at_call 23; refine (bits_any (Rd.drew R_5) H01.out HLL.out _ rfl).mono ?_; rintro e w6 ⟨Ab, cb, rfl, hob, y6⟩; have Y6 : Below w5.heap.size w5.drew w6 := y6; have W_6_c0 := ((Two.on (w := w5.drew) W_5 Y6)).c0; have W_6_c1 := ((Two.on (w := w5.drew) W_5 Y6)).c1; have X_6_c0 := ((Two.on (w := w5.drew) X_5 Y6)).c0; have X_6_c1 := ((Two.on (w := w5.drew) X_5 Y6)).c1; have B_6_c0 := ((Two.on (w := w5.drew) B_5 Y6)).c0; have B_6_c1 := ((Two.on (w := w5.drew) B_5 Y6)).c1) | (go_at_call 30; refine (digits_any v m _ _ rfl rfl hv63 (by omega) _).mono ?_; rintro e w7 ⟨Ad, cd, rfl, hod, y7⟩; have Y7 := Y6.trans (y7.mono Y6.size); have hob2 := own_on hob y7; have W_7_c0 := ((Two.on (w := w5.drew) W_5 Y7)).c0; have W_7_c1 := ((Two.on (w := w5.drew) W_5 Y7)).c1; have X_7_c0 := ((Two.on (w := w5.drew) X_5 Y7)).c0; have X_7_c1 := ((Two.on (w := w5.drew) X_5 Y7)).c1; have B_7_c0 := ((Two.on (w := w5.drew) B_5 Y7)).c0; have B_7_c1 := ((Two.on (w := w5.drew) B_5 Y7)).c1) | (go_at_call 18; refine (packed_any _ HLN.out.symm (Rd.own hop) HL01.out (by have := HLB.out; omega)).mono ?_; rintro e w9 ⟨Ap, np, cp, rfl, RP, y9⟩; have Y9 := Y8.trans (y9.mono Y8.size); have W_9_c0 := ((Two.on (w := w5.drew) W_5 Y9)).c0; have W_9_c1 := ((Two.on (w := w5.drew) W_5 Y9)).c1; have X_9_c0 := ((Two.on (w := w5.drew) X_5 Y9)).c0; have X_9_c1 := ((Two.on (w := w5.drew) X_5 Y9)).c1; have B_9_c0 := ((Two.on (w := w5.drew) B_5 Y9)).c0; have B_9_c1 := ((Two.on (w := w5.drew) B_5 Y9)).c1) | (go_at_call 17; refine (api_same (Rd.on (w := w5.drew) RX_5 Y9) RP HL01.out HL01.out true (by simp) _ _ rfl (by have := HLN.out; omega)).mono ?_; rintro e w10 ⟨rfl, y10⟩; have Y10 := Y9.trans (y10.mono Y9.size); have W_10_c0 := ((Two.on (w := w5.drew) W_5 Y10)).c0; have W_10_c1 := ((Two.on (w := w5.drew) W_5 Y10)).c1; have X_10_c0 := ((Two.on (w := w5.drew) X_5 Y10)).c0; have X_10_c1 := ((Two.on (w := w5.drew) X_5 Y10)).c1; have B_10_c0 := ((Two.on (w := w5.drew) B_5 Y10)).c0; have B_10_c1 := ((Two.on (w := w5.drew) B_5 Y10)).c1) | (refine step_append_want (by rfl) _ _ _ (by rfl) _ 3 i0 _ 8 Try.underlying35 hi hz0 hz1 hz2 (by rfl) _ _ _ (by rfl) hob2 _ _ m cd _ (by rfl) (Rd.own hod) (ncells_one _) (by have := HLL.out; unfold maxLen; omega) (by have := HLL.out; omega) Y7.size ?_; intro A8 c8 w8 ho8 hg8 hat8; have Y8 := below_grown Y7 hob2 hg8 (Nat.le_refl _) Y7.size; rw [HNC.out] at ho8; have hop := ho8; clear ho8; have W_8_c0 := ((Two.on (w := w5.drew) W_5 Y8)).c0; have W_8_c1 := ((Two.on (w := w5.drew) W_5 Y8)).c1; have X_8_c0 := ((Two.on (w := w5.drew) X_5 Y8)).c0; have X_8_c1 := ((Two.on (w := w5.drew) X_5 Y8)).c1; have B_8_c0 := ((Two.on (w := w5.drew) B_5 Y8)).c0; have B_8_c1 := ((Two.on (w := w5.drew) B_5 Y8)).c1))
  have R_10 := (Rd.on (w := w5.drew) R_5 Y10)
  have B_10 := (Two.on (w := w5.drew) B_5 Y10)
  have RX_10 := (Rd.on (w := w5.drew) RX_5 Y10)
  have X_10 := (Two.on (w := w5.drew) X_5 Y10)
  have F_10 := (Two.on (w := w5.drew) F_5 Y10)
  have G_10 := (Two.on (w := w5.drew) G_5 Y10)
  have W_10 := (Two.on (w := w5.drew) W_5 Y10)
  have V_10 := (Two.on (w := w5.drew) V_5 Y10)
  have Z10 := (belowD Z5).trans (Y10.mono (belowD Z5).size)
  clear W_6_c0 W_6_c1 X_6_c0 X_6_c1 B_6_c0 B_6_c1 W_7_c0 W_7_c1 X_7_c0 X_7_c1 B_7_c0 B_7_c1 W_8_c0 W_8_c1 X_8_c0 X_8_c1 B_8_c0 B_8_c1 W_9_c0 W_9_c1 X_9_c0 X_9_c1 B_9_c0 B_9_c1 W_10_c0 W_10_c1 X_10_c0 X_10_c1 B_10_c0 B_10_c1
  clear R_5 B_5 B_5_c0 B_5_c1 RX_5 X_5 X_5_c0 X_5_c1 F_5 F_5_c0 F_5_c1 G_5 G_5_c0 G_5_c1 W_5 W_5_c0 W_5_c1 V_5 V_5_c0 V_5_c1
  have B_10_c0 := B_10.c0
  have B_10_c1 := B_10.c1
  have X_10_c0 := X_10.c0
  have X_10_c1 := X_10.c1
  have F_10_c0 := F_10.c0
  have F_10_c1 := F_10.c1
  have G_10_c0 := G_10.c0
  have G_10_c1 := G_10.c1
  have W_10_c0 := W_10.c0
  have W_10_c1 := W_10.c1
  have V_10_c0 := V_10.c0
  have V_10_c1 := V_10.c1
  go_wp2
  go_ret
  exact ⟨rfl, Z10⟩
set_option maxHeartbeats 1600000 in
theorem nums_oo {A : Option Addr} {n c : Nat} {l : List Nat} (h01 : Is01 l) (hl : l.length ≤ 131072) {v m f : Nat} (hm : m ≤ 32) (hv : v < 2 ^ m) (hs : l.length + m ≤ 131072) (hfm : f + m ≤ l.length)  (w : World) (h : Rd w A n c (bcells (pack l))) :
    Calls Try.prog 5 #[.agg #[.slice A n c, .int .i64 (l.length : Nat)], .int .i64 (v : Nat), .int .i64 (m : Nat), .int .i64 (f : Nat)] w fun e w' => e = .returned (.bool true) ∧ Below w.heap.size w w' := by
  obtain ⟨i0, hi, hz0, hz1, hz2⟩ := info_parts int_info
  have H01 := Lib.hid h01
  have HLL := Lib.hid hl
  have HD := Lib.hid (pack_lt h01)
  have hlo : -9223372036854775808 ≤ ((l.length : Nat) : Int) := by omega
  have hhi : ((l.length : Nat) : Int) ≤ 9223372036854775807 := by omega
  clear h01
  obtain ⟨L, hL⟩ : ∃ L, L = l ++ digs v m := ⟨_, rfl⟩
  have hLn : L.length = l.length + m := by rw [hL, List.length_append, digs_length]
  have HLN := Lib.hid hLn
  have HLB := Lib.hid (show L.length ≤ 131072 by omega)
  have hv63 : v < 9223372036854775808 := by
    have : 2 ^ m ≤ 2 ^ 32 := Nat.pow_le_pow_right (by decide) hm
    omega
  have HL01 := Lib.hid (show Is01 L by rw [hL]; exact H01.out.append (digs_01 _ _))
  have HNC := Lib.hid (show ncells l ++ ncells (digs v m) = ncells L by rw [hL, ncells_append])
  have HAP := Lib.hid (fun W (hW : Rd W A n c (bcells (pack l))) => api_append hW H01.out HLL.out hm hv hs hL)
  have HAF := Lib.hid (fun W (hW : Rd W A n c (bcells (pack l))) => af_ok H01.out HLL.out v m hm hv hs W hW)
  clear hL hLn hv hs
  obtain ⟨q, hq⟩ : ∃ q, q = num ((l.drop f).take m) := ⟨_, rfl⟩
  have HRD := Lib.hid (fun W (hW : Rd W A n c (bcells (pack l))) => read_ok A n c l f m _ W hW (Nat.le_refl _) H01.out HLL.out hm hfm)
  rw [← hq] at HRD
  unfold flt at HRD
  have HRF := Lib.hid (fun W (hW : Rd W A n c (bcells (pack l))) => rf_ok H01.out HLL.out (f : Nat) (m : Nat) (by omega) (by omega) (by omega) (by omega) (by omega) W hW)
  have HQ := Lib.hid hq
  clear hq
  have R_0 := (h).alloc (.cells #[.slice A n c, .int .i64 (l.length : Nat)] 24)
  have B_0 := (Two.new w 24 (.slice A n c) (.int .i64 (l.length : Nat)))
  have Z0 := (Below.refl w.heap.size w).alloc (by simp) (.cells #[.slice A n c, .int .i64 (l.length : Nat)] 24)
  have B_0_c0 := B_0.c0
  have B_0_c1 := B_0.c1
  go_enter Try.func5, Try.ntmps5
  go_wp2_with fail
  refine (HAP.out _ R_0).mono ?_
  rintro e w1 ⟨Ax, nx, cx, rfl, Rx, y1⟩
  have R_1 := ((R_0.on y1).alloc (.cells #[.slice Ax nx cx, .int .i64 (L.length : Nat)] 24)).alloc (.cells #[.int .i64 0, .int .i64 0] 26)
  have B_1 := ((B_0.on y1).alloc (.cells #[.slice Ax nx cx, .int .i64 (L.length : Nat)] 24)).alloc (.cells #[.int .i64 0, .int .i64 0] 26)
  have RX_1 := ((Rx).alloc (.cells #[.slice Ax nx cx, .int .i64 (L.length : Nat)] 24)).alloc (.cells #[.int .i64 0, .int .i64 0] 26)
  have X_1 := ((Two.new w1 24 (.slice Ax nx cx) (.int .i64 (L.length : Nat)))).alloc (.cells #[.int .i64 0, .int .i64 0] 26)
  have F_1 := (Two.new1 w1 (.cells #[.slice Ax nx cx, .int .i64 (L.length : Nat)] 24) 26 (.int .i64 0) (.int .i64 0))
  clear R_0 B_0 B_0_c0 B_0_c1
  have z1 := Z0.trans (y1.mono Z0.size)
  have Z1 := ((z1).alloc (by have := z1.size; omega) (.cells #[.slice Ax nx cx, .int .i64 (L.length : Nat)] 24)).alloc (by have := z1.size; simp; omega) (.cells #[.int .i64 0, .int .i64 0] 26)
  have B_1_c0 := B_1.c0
  have B_1_c1 := B_1.c1
  have X_1_c0 := X_1.c0
  have X_1_c1 := X_1.c1
  have F_1_c0 := F_1.c0
  have F_1_c1 := F_1.c1
  go_wp2_with fail
  refine (HRD.out _ R_1).mono ?_
  rintro e w2 ⟨rfl, y2⟩
  have R_2 := (R_1.on y2).alloc (.cells #[.int .i64 0, .int .i64 0] 26)
  have B_2 := (B_1.on y2).alloc (.cells #[.int .i64 0, .int .i64 0] 26)
  have RX_2 := (RX_1.on y2).alloc (.cells #[.int .i64 0, .int .i64 0] 26)
  have X_2 := (X_1.on y2).alloc (.cells #[.int .i64 0, .int .i64 0] 26)
  have F_2 := (F_1.on y2).alloc (.cells #[.int .i64 0, .int .i64 0] 26)
  have G_2 := (Two.new w2 26 (.int .i64 0) (.int .i64 0))
  clear R_1 B_1 B_1_c0 B_1_c1 RX_1 X_1 X_1_c0 X_1_c1 F_1 F_1_c0 F_1_c1
  have z2 := Z1.trans (y2.mono Z1.size)
  have Z2 := (z2).alloc (by have := z2.size; omega) (.cells #[.int .i64 0, .int .i64 0] 26)
  have B_2_c0 := B_2.c0
  have B_2_c1 := B_2.c1
  have X_2_c0 := X_2.c0
  have X_2_c1 := X_2.c1
  have F_2_c0 := F_2.c0
  have F_2_c1 := F_2.c1
  have G_2_c0 := G_2.c0
  have G_2_c1 := G_2.c1
  go_wp2_with fail
  refine (HAF.out _ R_2).mono ?_
  rintro e w3 ⟨rfl, y3⟩
  have R_3 := (R_2.on y3).alloc (.cells #[.int .i64 0, .int .i64 0] 26)
  have B_3 := (B_2.on y3).alloc (.cells #[.int .i64 0, .int .i64 0] 26)
  have RX_3 := (RX_2.on y3).alloc (.cells #[.int .i64 0, .int .i64 0] 26)
  have X_3 := (X_2.on y3).alloc (.cells #[.int .i64 0, .int .i64 0] 26)
  have F_3 := (F_2.on y3).alloc (.cells #[.int .i64 0, .int .i64 0] 26)
  have G_3 := (G_2.on y3).alloc (.cells #[.int .i64 0, .int .i64 0] 26)
  have W_3 := (Two.new w3 26 (.int .i64 0) (.int .i64 0))
  clear R_2 B_2 B_2_c0 B_2_c1 RX_2 X_2 X_2_c0 X_2_c1 F_2 F_2_c0 F_2_c1 G_2 G_2_c0 G_2_c1
  have z3 := Z2.trans (y3.mono Z2.size)
  have Z3 := (z3).alloc (by have := z3.size; omega) (.cells #[.int .i64 0, .int .i64 0] 26)
  have B_3_c0 := B_3.c0
  have B_3_c1 := B_3.c1
  have X_3_c0 := X_3.c0
  have X_3_c1 := X_3.c1
  have F_3_c0 := F_3.c0
  have F_3_c1 := F_3.c1
  have G_3_c0 := G_3.c0
  have G_3_c1 := G_3.c1
  have W_3_c0 := W_3.c0
  have W_3_c1 := W_3.c1
  go_wp2_with fail
  refine (HRF.out _ R_3).mono ?_
  rintro e w4 ⟨rfl, y4⟩
  have R_4 := (R_3.on y4).alloc (.cells #[.int .i64 0, .int .i64 0] 26)
  have B_4 := (B_3.on y4).alloc (.cells #[.int .i64 0, .int .i64 0] 26)
  have RX_4 := (RX_3.on y4).alloc (.cells #[.int .i64 0, .int .i64 0] 26)
  have X_4 := (X_3.on y4).alloc (.cells #[.int .i64 0, .int .i64 0] 26)
  have F_4 := (F_3.on y4).alloc (.cells #[.int .i64 0, .int .i64 0] 26)
  have G_4 := (G_3.on y4).alloc (.cells #[.int .i64 0, .int .i64 0] 26)
  have W_4 := (W_3.on y4).alloc (.cells #[.int .i64 0, .int .i64 0] 26)
  have V_4 := (Two.new w4 26 (.int .i64 0) (.int .i64 0))
  clear R_3 B_3 B_3_c0 B_3_c1 RX_3 X_3 X_3_c0 X_3_c1 F_3 F_3_c0 F_3_c1 G_3 G_3_c0 G_3_c1 W_3 W_3_c0 W_3_c1
  have z4 := Z3.trans (y4.mono Z3.size)
  have Z4 := (z4).alloc (by have := z4.size; omega) (.cells #[.int .i64 0, .int .i64 0] 26)
  have B_4_c0 := B_4.c0
  have B_4_c1 := B_4.c1
  have X_4_c0 := X_4.c0
  have X_4_c1 := X_4.c1
  have F_4_c0 := F_4.c0
  have F_4_c1 := F_4.c1
  have G_4_c0 := G_4.c0
  have G_4_c1 := G_4.c1
  have W_4_c0 := W_4.c0
  have W_4_c1 := W_4.c1
  have V_4_c0 := V_4.c0
  have V_4_c1 := V_4.c1
  go_wp2_with fail
  refine (strings_true _).mono ?_
  rintro e w5 ⟨rfl, y5⟩
  have R_5 := R_4.on y5
  have B_5 := B_4.on y5
  have RX_5 := RX_4.on y5
  have X_5 := X_4.on y5
  have F_5 := F_4.on y5
  have G_5 := G_4.on y5
  have W_5 := W_4.on y5
  have V_5 := V_4.on y5
  clear R_4 B_4 B_4_c0 B_4_c1 RX_4 X_4 X_4_c0 X_4_c1 F_4 F_4_c0 F_4_c1 G_4 G_4_c0 G_4_c1 W_4 W_4_c0 W_4_c1 V_4 V_4_c0 V_4_c1
  have z5 := Z4.trans (y5.mono Z4.size)
  have Z5 := z5
  have B_5_c0 := B_5.c0
  have B_5_c1 := B_5.c1
  have X_5_c0 := X_5.c0
  have X_5_c1 := X_5.c1
  have F_5_c0 := F_5.c0
  have F_5_c1 := F_5.c1
  have G_5_c0 := G_5.c0
  have G_5_c1 := G_5.c1
  have W_5_c0 := W_5.c0
  have W_5_c1 := W_5.c1
  have V_5_c0 := V_5.c0
  have V_5_c1 := V_5.c1
  go_wp2_with fail
  go_region_held3 (fun w' => w'.cell? ⟨w3.heap.size, 0, none⟩ = some (.int .i64 0) ∧ w'.cell? ⟨w3.heap.size, 1, none⟩ = some (.int .i64 0) ∧ w'.cell? ⟨w1.heap.size, 0, none⟩ = some (.slice Ax nx cx) ∧ w'.cell? ⟨w1.heap.size, 1, none⟩ = some (.int .i64 (L.length : Nat)) ∧ w'.cell? ⟨w.heap.size, 0, none⟩ = some (.slice A n c) ∧ w'.cell? ⟨w.heap.size, 1, none⟩ = some (.int .i64 (l.length : Nat))) (go_keep) (first | (go_at_call 23; refine (bits_any (Rd.drew R_5) H01.out HLL.out _ rfl).mono ?_; rintro e w6 ⟨Ab, cb, rfl, hob, y6⟩; have Y6 : Below w5.heap.size w5.drew w6 := y6; have W_6_c0 := ((Two.on (w := w5.drew) W_5 Y6)).c0; have W_6_c1 := ((Two.on (w := w5.drew) W_5 Y6)).c1; have X_6_c0 := ((Two.on (w := w5.drew) X_5 Y6)).c0; have X_6_c1 := ((Two.on (w := w5.drew) X_5 Y6)).c1; have B_6_c0 := ((Two.on (w := w5.drew) B_5 Y6)).c0; have B_6_c1 := ((Two.on (w := w5.drew) B_5 Y6)).c1) | (go_at_call 30; refine (digits_any v m _ _ rfl rfl hv63 (by omega) _).mono ?_; rintro e w7 ⟨Ad, cd, rfl, hod, y7⟩; have Y7 := Y6.trans (y7.mono Y6.size); have hob2 := own_on hob y7; have W_7_c0 := ((Two.on (w := w5.drew) W_5 Y7)).c0; have W_7_c1 := ((Two.on (w := w5.drew) W_5 Y7)).c1; have X_7_c0 := ((Two.on (w := w5.drew) X_5 Y7)).c0; have X_7_c1 := ((Two.on (w := w5.drew) X_5 Y7)).c1; have B_7_c0 := ((Two.on (w := w5.drew) B_5 Y7)).c0; have B_7_c1 := ((Two.on (w := w5.drew) B_5 Y7)).c1) | (go_at_call 18; refine (packed_any _ HLN.out.symm (Rd.own hop) HL01.out (by have := HLB.out; omega)).mono ?_; rintro e w9 ⟨Ap, np, cp, rfl, RP, y9⟩; have Y9 := Y8.trans (y9.mono Y8.size); have W_9_c0 := ((Two.on (w := w5.drew) W_5 Y9)).c0; have W_9_c1 := ((Two.on (w := w5.drew) W_5 Y9)).c1; have X_9_c0 := ((Two.on (w := w5.drew) X_5 Y9)).c0; have X_9_c1 := ((Two.on (w := w5.drew) X_5 Y9)).c1; have B_9_c0 := ((Two.on (w := w5.drew) B_5 Y9)).c0; have B_9_c1 := ((Two.on (w := w5.drew) B_5 Y9)).c1) | (go_at_call 17; refine (api_same (Rd.on (w := w5.drew) RX_5 Y9) RP HL01.out HL01.out true (by simp) _ _ rfl (by have := HLN.out; omega)).mono ?_; rintro e w10 ⟨rfl, y10⟩; have Y10 := Y9.trans (y10.mono Y9.size); have W_10_c0 := ((Two.on (w := w5.drew) W_5 Y10)).c0; have W_10_c1 := ((Two.on (w := w5.drew) W_5 Y10)).c1; have X_10_c0 := ((Two.on (w := w5.drew) X_5 Y10)).c0; have X_10_c1 := ((Two.on (w := w5.drew) X_5 Y10)).c1; have B_10_c0 := ((Two.on (w := w5.drew) B_5 Y10)).c0; have B_10_c1 := ((Two.on (w := w5.drew) B_5 Y10)).c1) | (refine step_append_want (by rfl) _ _ _ (by rfl) _ 3 i0 _ 8 Try.underlying35 hi hz0 hz1 hz2 (by rfl) _ _ _ (by rfl) hob2 _ _ m cd _ (by rfl) (Rd.own hod) (ncells_one _) (by have := HLL.out; unfold maxLen; omega) (by have := HLL.out; omega) Y7.size ?_; intro A8 c8 w8 ho8 hg8 hat8; have Y8 := below_grown Y7 hob2 hg8 (Nat.le_refl _) Y7.size; rw [HNC.out] at ho8; have hop := ho8; clear ho8; have W_8_c0 := ((Two.on (w := w5.drew) W_5 Y8)).c0; have W_8_c1 := ((Two.on (w := w5.drew) W_5 Y8)).c1; have X_8_c0 := ((Two.on (w := w5.drew) X_5 Y8)).c0; have X_8_c1 := ((Two.on (w := w5.drew) X_5 Y8)).c1; have B_8_c0 := ((Two.on (w := w5.drew) B_5 Y8)).c0; have B_8_c1 := ((Two.on (w := w5.drew) B_5 Y8)).c1))
  have R_10 := (Rd.on (w := w5.drew) R_5 Y10)
  have B_10 := (Two.on (w := w5.drew) B_5 Y10)
  have RX_10 := (Rd.on (w := w5.drew) RX_5 Y10)
  have X_10 := (Two.on (w := w5.drew) X_5 Y10)
  have F_10 := (Two.on (w := w5.drew) F_5 Y10)
  have G_10 := (Two.on (w := w5.drew) G_5 Y10)
  have W_10 := (Two.on (w := w5.drew) W_5 Y10)
  have V_10 := (Two.on (w := w5.drew) V_5 Y10)
  have Z10 := (belowD Z5).trans (Y10.mono (belowD Z5).size)
  clear W_6_c0 W_6_c1 X_6_c0 X_6_c1 B_6_c0 B_6_c1 W_7_c0 W_7_c1 X_7_c0 X_7_c1 B_7_c0 B_7_c1 W_8_c0 W_8_c1 X_8_c0 X_8_c1 B_8_c0 B_8_c1 W_9_c0 W_9_c1 X_9_c0 X_9_c1 B_9_c0 B_9_c1 W_10_c0 W_10_c1 X_10_c0 X_10_c1 B_10_c0 B_10_c1
  clear R_5 B_5 B_5_c0 B_5_c1 RX_5 X_5 X_5_c0 X_5_c1 F_5 F_5_c0 F_5_c1 G_5 G_5_c0 G_5_c1 W_5 W_5_c0 W_5_c1 V_5 V_5_c0 V_5_c1
  have B_10_c0 := B_10.c0
  have B_10_c1 := B_10.c1
  have X_10_c0 := X_10.c0
  have X_10_c1 := X_10.c1
  have F_10_c0 := F_10.c0
  have F_10_c1 := F_10.c1
  have G_10_c0 := G_10.c0
  have G_10_c1 := G_10.c1
  have W_10_c0 := W_10.c0
  have W_10_c1 := W_10.c1
  have V_10_c0 := V_10.c0
  have V_10_c1 := V_10.c1
  go_wp2_with fail
  refine (bits_any R_10 H01.out HLL.out _ rfl).mono ?_
  rintro e w11 ⟨Ab2, cb2, rfl, hob9, y11⟩
  have R_11 := R_10.on y11
  have B_11 := B_10.on y11
  have RX_11 := RX_10.on y11
  have X_11 := X_10.on y11
  have F_11 := F_10.on y11
  have G_11 := G_10.on y11
  have W_11 := W_10.on y11
  have V_11 := V_10.on y11
  clear R_10 B_10 B_10_c0 B_10_c1 RX_10 X_10 X_10_c0 X_10_c1 F_10 F_10_c0 F_10_c1 G_10 G_10_c0 G_10_c1 W_10 W_10_c0 W_10_c1 V_10 V_10_c0 V_10_c1
  have z11 := Z10.trans (y11.mono Z10.size)
  have Z11 := z11
  have B_11_c0 := B_11.c0
  have B_11_c1 := B_11.c1
  have X_11_c0 := X_11.c0
  have X_11_c1 := X_11.c1
  have F_11_c0 := F_11.c0
  have F_11_c1 := F_11.c1
  have G_11_c0 := G_11.c0
  have G_11_c1 := G_11.c1
  have W_11_c0 := W_11.c0
  have W_11_c1 := W_11.c1
  have V_11_c0 := V_11.c0
  have V_11_c1 := V_11.c1
  have RB := Rd.own hob9
  have hcb := Reads.cap RB
  have hcm := Reads.capMax RB
  unfold maxLen at hcm
  by_cases hfc : f < cb2
  · have RS := RB.sub f m hfm hfc
    go_wp2_with fail
    refine (numref_any RS ((H01.out.drop f).take _) (by rw [List.length_take]; omega)).mono ?_
    rw [← HQ.out]
    rintro e w99 ⟨rfl, rfl⟩
    go_wp2
    go_ret
    exact ⟨rfl, Z11⟩
  · obtain rfl : f = cb2 := by omega
    obtain rfl : m = 0 := by omega
    have RS : Rd w11 Ab2 0 0 (ncells ((l.drop f).take 0)) := Rd.sub_none (by unfold maxLen; omega) rfl
    go_wp2_with fail
    refine (numref_any RS ((H01.out.drop f).take _) (by rw [List.length_take]; omega)).mono ?_
    rw [← HQ.out]
    rintro e w99 ⟨rfl, rfl⟩
    go_wp2
    go_ret
    exact ⟨rfl, Z11⟩
theorem numslaw_all {A : Option Addr} {n c : Nat} {d : List Nat} {cnt value width f : Int} (hd : ∀ k, d.getD k 0 < 256) (hlo : -9223372036854775808 ≤ cnt) (hhi : cnt ≤ 9223372036854775807) (hv : value < 9223372036854775808) (w : World) (h : Rd w A n c (bcells d)) :
    Calls Try.prog 5 #[.agg #[.slice A n c, .int .i64 cnt], .int .i64 value, .int .i64 width, .int .i64 f] w fun e w' => e = .returned (.bool true) ∧ Below w.heap.size w w' := by
  rcases append_cases d cnt value width hd with ⟨code, idx, hE⟩ | ⟨l, v, m, g1, g2, rfl, rfl, rfl, rfl, g3, g4, g5⟩
  · rcases read_cases d cnt f width hd with ⟨code2, idx2, hE2⟩ | ⟨l, fn, mn, g1, g2, rfl, rfl, rfl, rfl, g3, g4⟩
    · exact nums_ee hd hlo hhi hE hv hE2 w h
    · exact nums_eo g1 g2 hE hv g3 g4 w h
  · rcases read_cases (pack l) (l.length : Nat) f (m : Nat) hd with ⟨code2, idx2, hE2⟩ | ⟨l', fn, mn, k1, k2, k3, k4, rfl, k5, k6, k7⟩
    · exact nums_oe g1 g2 g3 g4 g5 hE2 w h
    · exact nums_oo g1 g2 g3 g4 g5 (by omega) w h
end PB
end Go.Proofs.Ytcmglfgibedpbaa
