/-
  No gamma code is a beginning of another one, and greater numbers have no shorter codes: the walk of the statement BitsGammaPrefixFree.
-/
import Derived.Test.YtcmglfgibedpbaaRows
import Derived.Test.YtcmglfgibedpbaaBitsApi
namespace Go.Proofs.Ytcmglfgibedpbaa
open Go.RowKit
set_option linter.unusedVariables false
set_option linter.unusedSimpArgs false
namespace PB
set_option maxHeartbeats 1600000 in
theorem prefix_m (m n : Int) (h : m < 1 ∨ 2147483647 < m) (w : World) :
    Calls Try.prog 6 #[.int .i64 m, .int .i64 n] w fun e w' => e = .returned (.bool true) ∧ Below w.heap.size w w' := by
  have Z0 := Below.refl w.heap.size w
  go_enter Try.func6, Try.ntmps6
  go_wp2_with fail
  refine (strings_true _).mono ?_
  rintro e w1 ⟨rfl, y1⟩
  have z1 := Z0.trans (y1.mono Z0.size)
  have Z1 := z1
  go_wp2_with fail
  refine (in_no _ _ _ _ h).mono ?_
  rintro e w9_1 ⟨rfl, rfl⟩
  go_wp2
  go_ret
  exact ⟨rfl, Z1⟩
set_option maxHeartbeats 1600000 in
theorem prefix_n (m n : Int) (h1 : 1 ≤ m) (h2 : m ≤ 2147483647) (h : n < 1 ∨ 2147483647 < n) (w : World) :
    Calls Try.prog 6 #[.int .i64 m, .int .i64 n] w fun e w' => e = .returned (.bool true) ∧ Below w.heap.size w w' := by
  have Z0 := Below.refl w.heap.size w
  go_enter Try.func6, Try.ntmps6
  go_wp2_with fail
  refine (strings_true _).mono ?_
  rintro e w1 ⟨rfl, y1⟩
  have z1 := Z0.trans (y1.mono Z0.size)
  have Z1 := z1
  go_wp2_with fail
  refine (in_yes _ _ _ _ h1 h2).mono ?_
  rintro e w9_1 ⟨rfl, rfl⟩
  go_wp2_with fail
  refine (in_no _ _ _ _ h).mono ?_
  rintro e w9_2 ⟨rfl, rfl⟩
  go_wp2
  go_ret
  exact ⟨rfl, Z1⟩
set_option maxHeartbeats 1600000 in
theorem prefix_eq (m : Int) (h1 : 1 ≤ m) (h2 : m ≤ 2147483647) (w : World) :
    Calls Try.prog 6 #[.int .i64 m, .int .i64 m] w fun e w' => e = .returned (.bool true) ∧ Below w.heap.size w w' := by
  have Z0 := Below.refl w.heap.size w
  go_enter Try.func6, Try.ntmps6
  go_wp2_with fail
  refine (strings_true _).mono ?_
  rintro e w1 ⟨rfl, y1⟩
  have z1 := Z0.trans (y1.mono Z0.size)
  have Z1 := z1
  go_wp2_with fail
  refine (in_yes _ _ _ _ h1 h2).mono ?_
  rintro e w9_1 ⟨rfl, rfl⟩
  go_wp2_with fail
  refine (in_yes _ _ _ _ h1 h2).mono ?_
  rintro e w9_2 ⟨rfl, rfl⟩
  go_wp2
  go_ret
  exact ⟨rfl, Z1⟩
set_option maxHeartbeats 1600000 in
theorem prefix_lt (m n : Nat) (hm1 : 1 ≤ m) (hn1 : 1 ≤ n) (hm : m ≤ 2147483647) (hn : n ≤ 2147483647) (hmn : m ≠ n) (hlt : m < n) (hg : gsz m ≤ gsz n) (w : World) :
    Calls Try.prog 6 #[.int .i64 m, .int .i64 n] w fun e w' => e = .returned (.bool true) ∧ Below w.heap.size w w' := by
  have hm2 : m < 9223372036854775808 := by omega
  have hn2 : n < 9223372036854775808 := by omega
  have hgm : gsz m ≤ 61 := by have := Lib.bitLen_le m 31 (by decide) (by omega); unfold gsz; omega
  have hgn : gsz n ≤ 61 := by have := Lib.bitLen_le n 31 (by decide) (by omega); unfold gsz; omega
  obtain ⟨La, hLa⟩ : ∃ La, La = digs m (gsz m) := ⟨_, rfl⟩
  obtain ⟨Lb, hLb⟩ : ∃ Lb, Lb = digs n (gsz n) := ⟨_, rfl⟩
  have hla : La.length = gsz m := by rw [hLa, digs_length]
  have hlb : Lb.length = gsz n := by rw [hLb, digs_length]
  have ga : Is01 La := by rw [hLa]; exact digs_01 _ _
  have gb : Is01 Lb := by rw [hLb]; exact digs_01 _ _
  have hLa' : La = [] ++ digs m (gsz m) := by rw [hLa]; rfl
  have hLb' : Lb = [] ++ digs n (gsz n) := by rw [hLb]; rfl
  have GA := Lib.hid ga
  have GB := Lib.hid gb
  have EA := Lib.hid hLa'
  have EB := Lib.hid hLb'
  have HA := Lib.hid hla
  have HB := Lib.hid hlb
  have hlen : La.length ≤ Lb.length := by omega
  have hne : decide (La = Lb.take (La.length - 0)) = false := by
    rw [decide_eq_false_iff_not]
    intro e
    rw [Nat.sub_zero, hla, hLa, hLb] at e
    exact hmn (gamma_prefix hm1 hn1 (by omega) (by omega) hg e)
  obtain ⟨Lc, hLc⟩ : ∃ Lc, Lc = Lb.take (La.length - 0) := ⟨_, rfl⟩
  rw [← hLc] at hne
  have hc1 : Lc = (Lb.drop 0).take (La.length - 0) := by rw [List.drop_zero, hLc]
  have gc : Is01 Lc := by rw [hLc]; exact gb.take _
  have GC := Lib.hid gc
  have EC := Lib.hid hc1
  have NE := Lib.hid hne
  have h61 : Lb.length ≤ 131072 := by omega
  have hin1 : (1 : Int) ≤ (m : Int) := by omega
  have hin2 : (m : Int) ≤ 2147483647 := by omega
  have hin3 : (1 : Int) ≤ (n : Int) := by omega
  have hin4 : (n : Int) ≤ 2147483647 := by omega
  have hmnb : ((m : Int) == (n : Int)) = false := by rw [beq_eq_false_iff_ne]; omega
  clear hLa hLb hla hlb ga gb hLa' hLb' hne hLc hc1 gc
  have Z0 := Below.refl w.heap.size w
  go_enter Try.func6, Try.ntmps6
  go_wp2_with fail
  refine (strings_true _).mono ?_
  rintro e w1 ⟨rfl, y1⟩
  have z1 := Z0.trans (y1.mono Z0.size)
  have Z1 := z1
  go_wp2_with fail
  refine (in_yes _ _ _ _ hin1 hin2).mono ?_
  rintro e w9_1 ⟨rfl, rfl⟩
  go_wp2_with fail
  refine (in_yes _ _ _ _ hin3 hin4).mono ?_
  rintro e w9_2 ⟨rfl, rfl⟩
  go_wp2_with fail
  refine (api_gsize hm1 hm2).mono ?_
  rintro e w9_3 ⟨rfl, rfl⟩
  go_wp2_with fail
  refine (api_gsize hn1 hn2).mono ?_
  rintro e w9_4 ⟨rfl, rfl⟩
  go_wp2_with fail
  refine (api_agamma (l := []) (Rd.none_ _) Is01.nil (by decide) hm1 (by omega) (by simp; omega) EA.out _ rfl).mono ?_
  rintro e w2 ⟨Aa, na, ca, rfl, Ra, y2⟩
  have RA_2 := ((Ra).alloc (.cells #[.slice Aa na ca, .int .i64 La.length] 24)).alloc (.cells #[.int .i64 0, .int .i64 0] 26)
  have A_2 := ((Two.new w2 24 (.slice Aa na ca) (.int .i64 La.length))).alloc (.cells #[.int .i64 0, .int .i64 0] 26)
  have F_2 := (Two.new1 w2 (.cells #[.slice Aa na ca, .int .i64 La.length] 24) 26 (.int .i64 0) (.int .i64 0))
  have z2 := Z1.trans (y2.mono Z1.size)
  have Z2 := ((z2).alloc (by have := z2.size; omega) (.cells #[.slice Aa na ca, .int .i64 La.length] 24)).alloc (by have := z2.size; simp; omega) (.cells #[.int .i64 0, .int .i64 0] 26)
  have A_2_c0 := A_2.c0
  have A_2_c1 := A_2.c1
  have F_2_c0 := F_2.c0
  have F_2_c1 := F_2.c1
  go_wp2_with fail
  refine (api_agamma (l := []) (Rd.none_ _) Is01.nil (by decide) hn1 (by omega) (by simp; omega) EB.out _ rfl).mono ?_
  rintro e w3 ⟨Ab, nb, cb, rfl, Rb, y3⟩
  have RA_3 := ((RA_2.on y3).alloc (.cells #[.slice Ab nb cb, .int .i64 Lb.length] 24)).alloc (.cells #[.int .i64 0, .int .i64 0] 26)
  have A_3 := ((A_2.on y3).alloc (.cells #[.slice Ab nb cb, .int .i64 Lb.length] 24)).alloc (.cells #[.int .i64 0, .int .i64 0] 26)
  have F_3 := ((F_2.on y3).alloc (.cells #[.slice Ab nb cb, .int .i64 Lb.length] 24)).alloc (.cells #[.int .i64 0, .int .i64 0] 26)
  have RB_3 := ((Rb).alloc (.cells #[.slice Ab nb cb, .int .i64 Lb.length] 24)).alloc (.cells #[.int .i64 0, .int .i64 0] 26)
  have B_3 := ((Two.new w3 24 (.slice Ab nb cb) (.int .i64 Lb.length))).alloc (.cells #[.int .i64 0, .int .i64 0] 26)
  have G_3 := (Two.new1 w3 (.cells #[.slice Ab nb cb, .int .i64 Lb.length] 24) 26 (.int .i64 0) (.int .i64 0))
  clear RA_2 A_2 A_2_c0 A_2_c1 F_2 F_2_c0 F_2_c1
  have z3 := Z2.trans (y3.mono Z2.size)
  have Z3 := ((z3).alloc (by have := z3.size; omega) (.cells #[.slice Ab nb cb, .int .i64 Lb.length] 24)).alloc (by have := z3.size; simp; omega) (.cells #[.int .i64 0, .int .i64 0] 26)
  have A_3_c0 := A_3.c0
  have A_3_c1 := A_3.c1
  have F_3_c0 := F_3.c0
  have F_3_c1 := F_3.c1
  have B_3_c0 := B_3.c0
  have B_3_c1 := B_3.c1
  have G_3_c0 := G_3.c0
  have G_3_c1 := G_3.c1
  go_wp2_with fail
  refine (api_slice RB_3 GB.out h61 (Nat.zero_le _) hlen EC.out _ _ rfl rfl).mono ?_
  rintro e w4 ⟨Ac, nc, cc, rfl, Rc, y4⟩
  have RA_4 := ((RA_3.on y4).alloc (.cells #[.slice Ac nc cc, .int .i64 Lc.length] 24)).alloc (.cells #[.int .i64 0, .int .i64 0] 26)
  have A_4 := ((A_3.on y4).alloc (.cells #[.slice Ac nc cc, .int .i64 Lc.length] 24)).alloc (.cells #[.int .i64 0, .int .i64 0] 26)
  have F_4 := ((F_3.on y4).alloc (.cells #[.slice Ac nc cc, .int .i64 Lc.length] 24)).alloc (.cells #[.int .i64 0, .int .i64 0] 26)
  have RB_4 := ((RB_3.on y4).alloc (.cells #[.slice Ac nc cc, .int .i64 Lc.length] 24)).alloc (.cells #[.int .i64 0, .int .i64 0] 26)
  have B_4 := ((B_3.on y4).alloc (.cells #[.slice Ac nc cc, .int .i64 Lc.length] 24)).alloc (.cells #[.int .i64 0, .int .i64 0] 26)
  have G_4 := ((G_3.on y4).alloc (.cells #[.slice Ac nc cc, .int .i64 Lc.length] 24)).alloc (.cells #[.int .i64 0, .int .i64 0] 26)
  have RC_4 := ((Rc).alloc (.cells #[.slice Ac nc cc, .int .i64 Lc.length] 24)).alloc (.cells #[.int .i64 0, .int .i64 0] 26)
  have C_4 := ((Two.new w4 24 (.slice Ac nc cc) (.int .i64 Lc.length))).alloc (.cells #[.int .i64 0, .int .i64 0] 26)
  have E_4 := (Two.new1 w4 (.cells #[.slice Ac nc cc, .int .i64 Lc.length] 24) 26 (.int .i64 0) (.int .i64 0))
  clear RA_3 A_3 A_3_c0 A_3_c1 F_3 F_3_c0 F_3_c1 RB_3 B_3 B_3_c0 B_3_c1 G_3 G_3_c0 G_3_c1
  have z4 := Z3.trans (y4.mono Z3.size)
  have Z4 := ((z4).alloc (by have := z4.size; omega) (.cells #[.slice Ac nc cc, .int .i64 Lc.length] 24)).alloc (by have := z4.size; simp; omega) (.cells #[.int .i64 0, .int .i64 0] 26)
  have A_4_c0 := A_4.c0
  have A_4_c1 := A_4.c1
  have F_4_c0 := F_4.c0
  have F_4_c1 := F_4.c1
  have B_4_c0 := B_4.c0
  have B_4_c1 := B_4.c1
  have G_4_c0 := G_4.c0
  have G_4_c1 := G_4.c1
  have C_4_c0 := C_4.c0
  have C_4_c1 := C_4.c1
  have E_4_c0 := E_4.c0
  have E_4_c1 := E_4.c1
  go_wp2_with fail
  refine (api_same RA_4 RC_4 GA.out GC.out false NE.out.symm _ _ rfl rfl).mono ?_
  rintro e w5 ⟨rfl, y5⟩
  have RA_5 := RA_4.on y5
  have A_5 := A_4.on y5
  have F_5 := F_4.on y5
  have RB_5 := RB_4.on y5
  have B_5 := B_4.on y5
  have G_5 := G_4.on y5
  have RC_5 := RC_4.on y5
  have C_5 := C_4.on y5
  have E_5 := E_4.on y5
  clear RA_4 A_4 A_4_c0 A_4_c1 F_4 F_4_c0 F_4_c1 RB_4 B_4 B_4_c0 B_4_c1 G_4 G_4_c0 G_4_c1 RC_4 C_4 C_4_c0 C_4_c1 E_4 E_4_c0 E_4_c1
  have z5 := Z4.trans (y5.mono Z4.size)
  have Z5 := z5
  have A_5_c0 := A_5.c0
  have A_5_c1 := A_5.c1
  have F_5_c0 := F_5.c0
  have F_5_c1 := F_5.c1
  have B_5_c0 := B_5.c0
  have B_5_c1 := B_5.c1
  have G_5_c0 := G_5.c0
  have G_5_c1 := G_5.c1
  have C_5_c0 := C_5.c0
  have C_5_c1 := C_5.c1
  have E_5_c0 := E_5.c0
  have E_5_c1 := E_5.c1
  go_wp2
  go_ret
  exact ⟨rfl, Z5⟩
set_option maxHeartbeats 1600000 in
theorem prefix_gt (m n : Nat) (hm1 : 1 ≤ m) (hn1 : 1 ≤ n) (hm : m ≤ 2147483647) (hn : n ≤ 2147483647) (hmn : m ≠ n) (hlt : n < m) (hg : gsz n < gsz m) (w : World) :
    Calls Try.prog 6 #[.int .i64 m, .int .i64 n] w fun e w' => e = .returned (.bool true) ∧ Below w.heap.size w w' := by
  have hm2 : m < 9223372036854775808 := by omega
  have hn2 : n < 9223372036854775808 := by omega
  have hgm : gsz m ≤ 61 := by have := Lib.bitLen_le m 31 (by decide) (by omega); unfold gsz; omega
  have hgn : gsz n ≤ 61 := by have := Lib.bitLen_le n 31 (by decide) (by omega); unfold gsz; omega
  obtain ⟨La, hLa⟩ : ∃ La, La = digs m (gsz m) := ⟨_, rfl⟩
  obtain ⟨Lb, hLb⟩ : ∃ Lb, Lb = digs n (gsz n) := ⟨_, rfl⟩
  have hla : La.length = gsz m := by rw [hLa, digs_length]
  have hlb : Lb.length = gsz n := by rw [hLb, digs_length]
  have ga : Is01 La := by rw [hLa]; exact digs_01 _ _
  have gb : Is01 Lb := by rw [hLb]; exact digs_01 _ _
  have hLa' : La = [] ++ digs m (gsz m) := by rw [hLa]; rfl
  have hLb' : Lb = [] ++ digs n (gsz n) := by rw [hLb]; rfl
  have GA := Lib.hid ga
  have GB := Lib.hid gb
  have EA := Lib.hid hLa'
  have EB := Lib.hid hLb'
  have HA := Lib.hid hla
  have HB := Lib.hid hlb
  have hlen : Lb.length < La.length := by omega
  have hin1 : (1 : Int) ≤ (m : Int) := by omega
  have hin2 : (m : Int) ≤ 2147483647 := by omega
  have hin3 : (1 : Int) ≤ (n : Int) := by omega
  have hin4 : (n : Int) ≤ 2147483647 := by omega
  have hmnb : ((m : Int) == (n : Int)) = false := by rw [beq_eq_false_iff_ne]; omega
  clear hLa hLb hla hlb ga gb hLa' hLb'
  have Z0 := Below.refl w.heap.size w
  go_enter Try.func6, Try.ntmps6
  go_wp2_with fail
  refine (strings_true _).mono ?_
  rintro e w1 ⟨rfl, y1⟩
  have z1 := Z0.trans (y1.mono Z0.size)
  have Z1 := z1
  go_wp2_with fail
  refine (in_yes _ _ _ _ hin1 hin2).mono ?_
  rintro e w9_1 ⟨rfl, rfl⟩
  go_wp2_with fail
  refine (in_yes _ _ _ _ hin3 hin4).mono ?_
  rintro e w9_2 ⟨rfl, rfl⟩
  go_wp2_with fail
  refine (api_agamma (l := []) (Rd.none_ _) Is01.nil (by decide) hm1 (by omega) (by simp; omega) EA.out _ rfl).mono ?_
  rintro e w2 ⟨Aa, na, ca, rfl, Ra, y2⟩
  have RA_2 := ((Ra).alloc (.cells #[.slice Aa na ca, .int .i64 La.length] 24)).alloc (.cells #[.int .i64 0, .int .i64 0] 26)
  have A_2 := ((Two.new w2 24 (.slice Aa na ca) (.int .i64 La.length))).alloc (.cells #[.int .i64 0, .int .i64 0] 26)
  have F_2 := (Two.new1 w2 (.cells #[.slice Aa na ca, .int .i64 La.length] 24) 26 (.int .i64 0) (.int .i64 0))
  have z2 := Z1.trans (y2.mono Z1.size)
  have Z2 := ((z2).alloc (by have := z2.size; omega) (.cells #[.slice Aa na ca, .int .i64 La.length] 24)).alloc (by have := z2.size; simp; omega) (.cells #[.int .i64 0, .int .i64 0] 26)
  have A_2_c0 := A_2.c0
  have A_2_c1 := A_2.c1
  have F_2_c0 := F_2.c0
  have F_2_c1 := F_2.c1
  go_wp2_with fail
  refine (api_agamma (l := []) (Rd.none_ _) Is01.nil (by decide) hn1 (by omega) (by simp; omega) EB.out _ rfl).mono ?_
  rintro e w3 ⟨Ab, nb, cb, rfl, Rb, y3⟩
  have RA_3 := ((RA_2.on y3).alloc (.cells #[.slice Ab nb cb, .int .i64 Lb.length] 24)).alloc (.cells #[.int .i64 0, .int .i64 0] 26)
  have A_3 := ((A_2.on y3).alloc (.cells #[.slice Ab nb cb, .int .i64 Lb.length] 24)).alloc (.cells #[.int .i64 0, .int .i64 0] 26)
  have F_3 := ((F_2.on y3).alloc (.cells #[.slice Ab nb cb, .int .i64 Lb.length] 24)).alloc (.cells #[.int .i64 0, .int .i64 0] 26)
  have RB_3 := ((Rb).alloc (.cells #[.slice Ab nb cb, .int .i64 Lb.length] 24)).alloc (.cells #[.int .i64 0, .int .i64 0] 26)
  have B_3 := ((Two.new w3 24 (.slice Ab nb cb) (.int .i64 Lb.length))).alloc (.cells #[.int .i64 0, .int .i64 0] 26)
  have G_3 := (Two.new1 w3 (.cells #[.slice Ab nb cb, .int .i64 Lb.length] 24) 26 (.int .i64 0) (.int .i64 0))
  clear RA_2 A_2 A_2_c0 A_2_c1 F_2 F_2_c0 F_2_c1
  have z3 := Z2.trans (y3.mono Z2.size)
  have Z3 := ((z3).alloc (by have := z3.size; omega) (.cells #[.slice Ab nb cb, .int .i64 Lb.length] 24)).alloc (by have := z3.size; simp; omega) (.cells #[.int .i64 0, .int .i64 0] 26)
  have A_3_c0 := A_3.c0
  have A_3_c1 := A_3.c1
  have F_3_c0 := F_3.c0
  have F_3_c1 := F_3.c1
  have B_3_c0 := B_3.c0
  have B_3_c1 := B_3.c1
  have G_3_c0 := G_3.c0
  have G_3_c1 := G_3.c1
  go_wp2
  go_ret
  exact ⟨rfl, Z3⟩
set_option maxHeartbeats 1600000 in
theorem prefix_ge (m n : Nat) (hm1 : 1 ≤ m) (hn1 : 1 ≤ n) (hm : m ≤ 2147483647) (hn : n ≤ 2147483647) (hmn : m ≠ n) (hlt : n < m) (hg : gsz m ≤ gsz n) (w : World) :
    Calls Try.prog 6 #[.int .i64 m, .int .i64 n] w fun e w' => e = .returned (.bool true) ∧ Below w.heap.size w w' := by
  have hm2 : m < 9223372036854775808 := by omega
  have hn2 : n < 9223372036854775808 := by omega
  have hgm : gsz m ≤ 61 := by have := Lib.bitLen_le m 31 (by decide) (by omega); unfold gsz; omega
  have hgn : gsz n ≤ 61 := by have := Lib.bitLen_le n 31 (by decide) (by omega); unfold gsz; omega
  obtain ⟨La, hLa⟩ : ∃ La, La = digs m (gsz m) := ⟨_, rfl⟩
  obtain ⟨Lb, hLb⟩ : ∃ Lb, Lb = digs n (gsz n) := ⟨_, rfl⟩
  have hla : La.length = gsz m := by rw [hLa, digs_length]
  have hlb : Lb.length = gsz n := by rw [hLb, digs_length]
  have ga : Is01 La := by rw [hLa]; exact digs_01 _ _
  have gb : Is01 Lb := by rw [hLb]; exact digs_01 _ _
  have hLa' : La = [] ++ digs m (gsz m) := by rw [hLa]; rfl
  have hLb' : Lb = [] ++ digs n (gsz n) := by rw [hLb]; rfl
  have GA := Lib.hid ga
  have GB := Lib.hid gb
  have EA := Lib.hid hLa'
  have EB := Lib.hid hLb'
  have HA := Lib.hid hla
  have HB := Lib.hid hlb
  have hlen : La.length ≤ Lb.length := by omega
  have hne : decide (La = Lb.take (La.length - 0)) = false := by
    rw [decide_eq_false_iff_not]
    intro e
    rw [Nat.sub_zero, hla, hLa, hLb] at e
    exact hmn (gamma_prefix hm1 hn1 (by omega) (by omega) hg e)
  obtain ⟨Lc, hLc⟩ : ∃ Lc, Lc = Lb.take (La.length - 0) := ⟨_, rfl⟩
  rw [← hLc] at hne
  have hc1 : Lc = (Lb.drop 0).take (La.length - 0) := by rw [List.drop_zero, hLc]
  have gc : Is01 Lc := by rw [hLc]; exact gb.take _
  have GC := Lib.hid gc
  have EC := Lib.hid hc1
  have NE := Lib.hid hne
  have h61 : Lb.length ≤ 131072 := by omega
  have hin1 : (1 : Int) ≤ (m : Int) := by omega
  have hin2 : (m : Int) ≤ 2147483647 := by omega
  have hin3 : (1 : Int) ≤ (n : Int) := by omega
  have hin4 : (n : Int) ≤ 2147483647 := by omega
  have hmnb : ((m : Int) == (n : Int)) = false := by rw [beq_eq_false_iff_ne]; omega
  clear hLa hLb hla hlb ga gb hLa' hLb' hne hLc hc1 gc
  have Z0 := Below.refl w.heap.size w
  go_enter Try.func6, Try.ntmps6
  go_wp2_with fail
  refine (strings_true _).mono ?_
  rintro e w1 ⟨rfl, y1⟩
  have z1 := Z0.trans (y1.mono Z0.size)
  have Z1 := z1
  go_wp2_with fail
  refine (in_yes _ _ _ _ hin1 hin2).mono ?_
  rintro e w9_1 ⟨rfl, rfl⟩
  go_wp2_with fail
  refine (in_yes _ _ _ _ hin3 hin4).mono ?_
  rintro e w9_2 ⟨rfl, rfl⟩
  go_wp2_with fail
  refine (api_agamma (l := []) (Rd.none_ _) Is01.nil (by decide) hm1 (by omega) (by simp; omega) EA.out _ rfl).mono ?_
  rintro e w2 ⟨Aa, na, ca, rfl, Ra, y2⟩
  have RA_2 := ((Ra).alloc (.cells #[.slice Aa na ca, .int .i64 La.length] 24)).alloc (.cells #[.int .i64 0, .int .i64 0] 26)
  have A_2 := ((Two.new w2 24 (.slice Aa na ca) (.int .i64 La.length))).alloc (.cells #[.int .i64 0, .int .i64 0] 26)
  have F_2 := (Two.new1 w2 (.cells #[.slice Aa na ca, .int .i64 La.length] 24) 26 (.int .i64 0) (.int .i64 0))
  have z2 := Z1.trans (y2.mono Z1.size)
  have Z2 := ((z2).alloc (by have := z2.size; omega) (.cells #[.slice Aa na ca, .int .i64 La.length] 24)).alloc (by have := z2.size; simp; omega) (.cells #[.int .i64 0, .int .i64 0] 26)
  have A_2_c0 := A_2.c0
  have A_2_c1 := A_2.c1
  have F_2_c0 := F_2.c0
  have F_2_c1 := F_2.c1
  go_wp2_with fail
  refine (api_agamma (l := []) (Rd.none_ _) Is01.nil (by decide) hn1 (by omega) (by simp; omega) EB.out _ rfl).mono ?_
  rintro e w3 ⟨Ab, nb, cb, rfl, Rb, y3⟩
  have RA_3 := ((RA_2.on y3).alloc (.cells #[.slice Ab nb cb, .int .i64 Lb.length] 24)).alloc (.cells #[.int .i64 0, .int .i64 0] 26)
  have A_3 := ((A_2.on y3).alloc (.cells #[.slice Ab nb cb, .int .i64 Lb.length] 24)).alloc (.cells #[.int .i64 0, .int .i64 0] 26)
  have F_3 := ((F_2.on y3).alloc (.cells #[.slice Ab nb cb, .int .i64 Lb.length] 24)).alloc (.cells #[.int .i64 0, .int .i64 0] 26)
  have RB_3 := ((Rb).alloc (.cells #[.slice Ab nb cb, .int .i64 Lb.length] 24)).alloc (.cells #[.int .i64 0, .int .i64 0] 26)
  have B_3 := ((Two.new w3 24 (.slice Ab nb cb) (.int .i64 Lb.length))).alloc (.cells #[.int .i64 0, .int .i64 0] 26)
  have G_3 := (Two.new1 w3 (.cells #[.slice Ab nb cb, .int .i64 Lb.length] 24) 26 (.int .i64 0) (.int .i64 0))
  clear RA_2 A_2 A_2_c0 A_2_c1 F_2 F_2_c0 F_2_c1
  have z3 := Z2.trans (y3.mono Z2.size)
  have Z3 := ((z3).alloc (by have := z3.size; omega) (.cells #[.slice Ab nb cb, .int .i64 Lb.length] 24)).alloc (by have := z3.size; simp; omega) (.cells #[.int .i64 0, .int .i64 0] 26)
  have A_3_c0 := A_3.c0
  have A_3_c1 := A_3.c1
  have F_3_c0 := F_3.c0
  have F_3_c1 := F_3.c1
  have B_3_c0 := B_3.c0
  have B_3_c1 := B_3.c1
  have G_3_c0 := G_3.c0
  have G_3_c1 := G_3.c1
  go_wp2_with fail
  refine (api_slice RB_3 GB.out h61 (Nat.zero_le _) hlen EC.out _ _ rfl rfl).mono ?_
  rintro e w4 ⟨Ac, nc, cc, rfl, Rc, y4⟩
  have RA_4 := ((RA_3.on y4).alloc (.cells #[.slice Ac nc cc, .int .i64 Lc.length] 24)).alloc (.cells #[.int .i64 0, .int .i64 0] 26)
  have A_4 := ((A_3.on y4).alloc (.cells #[.slice Ac nc cc, .int .i64 Lc.length] 24)).alloc (.cells #[.int .i64 0, .int .i64 0] 26)
  have F_4 := ((F_3.on y4).alloc (.cells #[.slice Ac nc cc, .int .i64 Lc.length] 24)).alloc (.cells #[.int .i64 0, .int .i64 0] 26)
  have RB_4 := ((RB_3.on y4).alloc (.cells #[.slice Ac nc cc, .int .i64 Lc.length] 24)).alloc (.cells #[.int .i64 0, .int .i64 0] 26)
  have B_4 := ((B_3.on y4).alloc (.cells #[.slice Ac nc cc, .int .i64 Lc.length] 24)).alloc (.cells #[.int .i64 0, .int .i64 0] 26)
  have G_4 := ((G_3.on y4).alloc (.cells #[.slice Ac nc cc, .int .i64 Lc.length] 24)).alloc (.cells #[.int .i64 0, .int .i64 0] 26)
  have RC_4 := ((Rc).alloc (.cells #[.slice Ac nc cc, .int .i64 Lc.length] 24)).alloc (.cells #[.int .i64 0, .int .i64 0] 26)
  have C_4 := ((Two.new w4 24 (.slice Ac nc cc) (.int .i64 Lc.length))).alloc (.cells #[.int .i64 0, .int .i64 0] 26)
  have E_4 := (Two.new1 w4 (.cells #[.slice Ac nc cc, .int .i64 Lc.length] 24) 26 (.int .i64 0) (.int .i64 0))
  clear RA_3 A_3 A_3_c0 A_3_c1 F_3 F_3_c0 F_3_c1 RB_3 B_3 B_3_c0 B_3_c1 G_3 G_3_c0 G_3_c1
  have z4 := Z3.trans (y4.mono Z3.size)
  have Z4 := ((z4).alloc (by have := z4.size; omega) (.cells #[.slice Ac nc cc, .int .i64 Lc.length] 24)).alloc (by have := z4.size; simp; omega) (.cells #[.int .i64 0, .int .i64 0] 26)
  have A_4_c0 := A_4.c0
  have A_4_c1 := A_4.c1
  have F_4_c0 := F_4.c0
  have F_4_c1 := F_4.c1
  have B_4_c0 := B_4.c0
  have B_4_c1 := B_4.c1
  have G_4_c0 := G_4.c0
  have G_4_c1 := G_4.c1
  have C_4_c0 := C_4.c0
  have C_4_c1 := C_4.c1
  have E_4_c0 := E_4.c0
  have E_4_c1 := E_4.c1
  go_wp2_with fail
  refine (api_same RA_4 RC_4 GA.out GC.out false NE.out.symm _ _ rfl rfl).mono ?_
  rintro e w5 ⟨rfl, y5⟩
  have RA_5 := RA_4.on y5
  have A_5 := A_4.on y5
  have F_5 := F_4.on y5
  have RB_5 := RB_4.on y5
  have B_5 := B_4.on y5
  have G_5 := G_4.on y5
  have RC_5 := RC_4.on y5
  have C_5 := C_4.on y5
  have E_5 := E_4.on y5
  clear RA_4 A_4 A_4_c0 A_4_c1 F_4 F_4_c0 F_4_c1 RB_4 B_4 B_4_c0 B_4_c1 G_4 G_4_c0 G_4_c1 RC_4 C_4 C_4_c0 C_4_c1 E_4 E_4_c0 E_4_c1
  have z5 := Z4.trans (y5.mono Z4.size)
  have Z5 := z5
  have A_5_c0 := A_5.c0
  have A_5_c1 := A_5.c1
  have F_5_c0 := F_5.c0
  have F_5_c1 := F_5.c1
  have B_5_c0 := B_5.c0
  have B_5_c1 := B_5.c1
  have G_5_c0 := G_5.c0
  have G_5_c1 := G_5.c1
  have C_5_c0 := C_5.c0
  have C_5_c1 := C_5.c1
  have E_5_c0 := E_5.c0
  have E_5_c1 := E_5.c1
  go_wp2
  go_ret
  exact ⟨rfl, Z5⟩
theorem prefix_all (m n : Int) (w : World) : Calls Try.prog 6 #[.int .i64 m, .int .i64 n] w fun e w' => e = .returned (.bool true) ∧ Below w.heap.size w w' := by
  by_cases h1 : m < 1 ∨ 2147483647 < m
  · exact prefix_m m n h1 w
  by_cases h2 : n < 1 ∨ 2147483647 < n
  · exact prefix_n m n (by omega) (by omega) h2 w
  obtain ⟨m, rfl⟩ := Int.eq_ofNat_of_zero_le (show 0 ≤ m by omega)
  obtain ⟨n, rfl⟩ := Int.eq_ofNat_of_zero_le (show 0 ≤ n by omega)
  rcases Nat.lt_trichotomy m n with h | rfl | h
  · have := bitLen_mono (m := m) (n := n) (by omega) (by omega) (by omega)
    exact prefix_lt m n (by omega) (by omega) (by omega) (by omega) (by omega) h (by unfold gsz; omega) w
  · exact prefix_eq m (by omega) (by omega) w
  · rcases Nat.lt_or_ge (gsz n) (gsz m) with hg | hg
    · exact prefix_gt m n (by omega) (by omega) (by omega) (by omega) (by omega) h hg w
    · exact prefix_ge m n (by omega) (by omega) (by omega) (by omega) (by omega) h hg w
end PB
end Go.Proofs.Ytcmglfgibedpbaa
