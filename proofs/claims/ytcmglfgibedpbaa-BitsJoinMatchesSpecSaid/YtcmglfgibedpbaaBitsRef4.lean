/-
  The reference's functions on bits: AppendFault and ReadFault.
-/
import Derived.Test.YtcmglfgibedpbaaRows
import Derived.Test.YtcmglfgibedpbaaBitsRef3
namespace Go.Proofs.Ytcmglfgibedpbaa
open Go.RowKit
set_option linter.unusedVariables false
set_option linter.unusedSimpArgs false
namespace PB
theorem pow_le_int {v m : Nat} : ((v : Int) ≥ ((2 ^ m : Nat) : Int)) ↔ 2 ^ m ≤ v := by omega
set_option maxHeartbeats 800000 in
theorem af_form {A : Option Addr} {n c : Nat} {bs : List Nat} {cnt : Int} (hd : ∀ k, bs.getD k 0 < 256) (hlo : -9223372036854775808 ≤ cnt) (hhi : cnt ≤ 9223372036854775807) (hno : ¬ Ok bs cnt) (value width : Int) (w : World) (h : Rd w A n c (bcells bs)) :
    Calls Try.prog 28 #[.agg #[.slice A n c, .int .i64 cnt], .int .i64 value, .int .i64 width] w fun e w' => e = .returned (.agg #[.int .i64 6, .int .i64 (-1)]) ∧ Below w.heap.size w w' := by
  have X0 := Box2.start w (.slice A n c) (.int .i64 cnt)
  have y0 := below_box2 w (.cells #[.slice A n c, .int .i64 cnt] 24) (.cells #[.int .i64 0, .int .i64 0] 26)
  have R0 := (h.alloc (.cells #[.slice A n c, .int .i64 cnt] 24)).alloc (.cells #[.int .i64 0, .int .i64 0] 26)
  have HNO := Lib.hid hno
  clear hno
  go_enter Try.func28, Try.ntmps28
  go_wp2_with fail
  refine (bitsok_any R0 hd hlo hhi false ⟨(fun h => by cases h), fun h => absurd h HNO.out⟩).mono ?_
  rintro e w1 ⟨rfl, q1⟩
  have X1 := X0.on q1
  have y1 := y0.trans (q1.mono y0.size)
  obtain ⟨d0, d1, d2, d3, d4, d5, d6⟩ := X1.facts
  go_wp2_with fail
  refine (refat_any _ _ _).mono ?_
  rintro e w2 ⟨rfl, q2⟩
  have X2 := X1.on q2
  have y2 := y1.trans (q2.mono y1.size)
  obtain ⟨d0, d1, d2, d3, d4, d5, d6⟩ := X2.facts
  go_wp2
  obtain ⟨r0, r1⟩ := X2.ends (.int .i64 6) (.int .i64 (-1))
  exact bodyPost_ret (v := .agg #[.int .i64 6, .int .i64 (-1)]) (by simp [results, Try.results28, go_sem, r0, r1]) rfl ⟨rfl, below_ends2 y2 _ _⟩
set_option maxHeartbeats 800000 in
theorem af_neg {A : Option Addr} {n c : Nat} {l : List Nat} (h01 : Is01 l) (hl : l.length ≤ 131072) (value width : Int) (hv : value < 0) (w : World) (h : Rd w A n c (bcells (pack l))) :
    Calls Try.prog 28 #[.agg #[.slice A n c, .int .i64 (l.length : Nat)], .int .i64 value, .int .i64 width] w fun e w' => e = .returned (.agg #[.int .i64 4, .int .i64 (-2)]) ∧ Below w.heap.size w w' := by
  have X0 := Box2.start w (.slice A n c) (.int .i64 (l.length : Nat))
  have y0 := below_box2 w (.cells #[.slice A n c, .int .i64 (l.length : Nat)] 24) (.cells #[.int .i64 0, .int .i64 0] 26)
  have R0 := (h.alloc (.cells #[.slice A n c, .int .i64 (l.length : Nat)] 24)).alloc (.cells #[.int .i64 0, .int .i64 0] 26)
  have H01 := Lib.hid h01
  have HLL := Lib.hid hl
  have HOK := Lib.hid (Ok.of_list h01 hl)
  clear h01
  have k1 : decide (value < 0) = true := by simpa using hv
  go_enter Try.func28, Try.ntmps28
  go_wp2_with fail
  refine (bitsok_any R0 (pack_lt H01.out) (by omega) (by have := HLL.out; omega) true ⟨fun _ => HOK.out, fun _ => rfl⟩).mono ?_
  rintro e w1 ⟨rfl, q1⟩
  have X1 := X0.on q1
  have y1 := y0.trans (q1.mono y0.size)
  obtain ⟨d0, d1, d2, d3, d4, d5, d6⟩ := X1.facts
  go_wp2_with fail
  refine (refat_any _ _ _).mono ?_
  rintro e w2 ⟨rfl, q2⟩
  have X2 := X1.on q2
  have y2 := y1.trans (q2.mono y1.size)
  obtain ⟨d0, d1, d2, d3, d4, d5, d6⟩ := X2.facts
  go_wp2
  obtain ⟨r0, r1⟩ := X2.ends (.int .i64 4) (.int .i64 (-2))
  exact bodyPost_ret (v := .agg #[.int .i64 4, .int .i64 (-2)]) (by simp [results, Try.results28, go_sem, r0, r1]) rfl ⟨rfl, below_ends2 y2 _ _⟩
set_option maxHeartbeats 800000 in
theorem af_big {A : Option Addr} {n c : Nat} {l : List Nat} (h01 : Is01 l) (hl : l.length ≤ 131072) (v m : Nat) (hm : m ≤ 32) (hv : 2 ^ m ≤ v) (hv2 : v < 9223372036854775808) (w : World) (h : Rd w A n c (bcells (pack l))) :
    Calls Try.prog 28 #[.agg #[.slice A n c, .int .i64 (l.length : Nat)], .int .i64 (v : Nat), .int .i64 (m : Nat)] w fun e w' => e = .returned (.agg #[.int .i64 4, .int .i64 (-2)]) ∧ Below w.heap.size w w' := by
  have X0 := Box2.start w (.slice A n c) (.int .i64 (l.length : Nat))
  have y0 := below_box2 w (.cells #[.slice A n c, .int .i64 (l.length : Nat)] 24) (.cells #[.int .i64 0, .int .i64 0] 26)
  have R0 := (h.alloc (.cells #[.slice A n c, .int .i64 (l.length : Nat)] 24)).alloc (.cells #[.int .i64 0, .int .i64 0] 26)
  have H01 := Lib.hid h01
  have HLL := Lib.hid hl
  have HOK := Lib.hid (Ok.of_list h01 hl)
  clear h01
  obtain ⟨P, hP⟩ : ∃ P, P = 2 ^ m := ⟨_, rfl⟩
  have HPow := Lib.hid (show ∀ W, Calls Try.prog 45 #[.int .i64 (m : Nat)] W fun e w' => e = .returned (.int .i64 (P : Nat)) ∧ w' = W from fun W => by
    rw [hP]; exact power_any m (by omega) W)
  rw [← hP] at hv
  clear hP
  go_enter Try.func28, Try.ntmps28
  go_wp2_with fail
  refine (bitsok_any R0 (pack_lt H01.out) (by omega) (by have := HLL.out; omega) true ⟨fun _ => HOK.out, fun _ => rfl⟩).mono ?_
  rintro e w1 ⟨rfl, q1⟩
  have X1 := X0.on q1
  have y1 := y0.trans (q1.mono y0.size)
  obtain ⟨d0, d1, d2, d3, d4, d5, d6⟩ := X1.facts
  go_wp2_with fail
  refine (in_yes (m : Nat) 0 32 _ (by omega) (by omega)).mono ?_
  rintro e w9 ⟨rfl, rfl⟩
  go_wp2_with fail
  refine (HPow.out _).mono ?_
  rintro e w9 ⟨rfl, rfl⟩
  go_wp2_with fail
  refine (refat_any _ _ _).mono ?_
  rintro e w2 ⟨rfl, q2⟩
  have X2 := X1.on q2
  have y2 := y1.trans (q2.mono y1.size)
  obtain ⟨d0, d1, d2, d3, d4, d5, d6⟩ := X2.facts
  go_wp2
  obtain ⟨r0, r1⟩ := X2.ends (.int .i64 4) (.int .i64 (-2))
  exact bodyPost_ret (v := .agg #[.int .i64 4, .int .i64 (-2)]) (by simp [results, Try.results28, go_sem, r0, r1]) rfl ⟨rfl, below_ends2 y2 _ _⟩
set_option maxHeartbeats 800000 in
theorem af_wide {A : Option Addr} {n c : Nat} {l : List Nat} (h01 : Is01 l) (hl : l.length ≤ 131072) (v : Nat) (width : Int) (hw : width < 0 ∨ 32 < width) (w : World) (h : Rd w A n c (bcells (pack l))) :
    Calls Try.prog 28 #[.agg #[.slice A n c, .int .i64 (l.length : Nat)], .int .i64 (v : Nat), .int .i64 width] w fun e w' => e = .returned (.agg #[.int .i64 4, .int .i64 (-3)]) ∧ Below w.heap.size w w' := by
  have X0 := Box2.start w (.slice A n c) (.int .i64 (l.length : Nat))
  have y0 := below_box2 w (.cells #[.slice A n c, .int .i64 (l.length : Nat)] 24) (.cells #[.int .i64 0, .int .i64 0] 26)
  have R0 := (h.alloc (.cells #[.slice A n c, .int .i64 (l.length : Nat)] 24)).alloc (.cells #[.int .i64 0, .int .i64 0] 26)
  have H01 := Lib.hid h01
  have HLL := Lib.hid hl
  have HOK := Lib.hid (Ok.of_list h01 hl)
  clear h01
  go_enter Try.func28, Try.ntmps28
  go_wp2_with fail
  refine (bitsok_any R0 (pack_lt H01.out) (by omega) (by have := HLL.out; omega) true ⟨fun _ => HOK.out, fun _ => rfl⟩).mono ?_
  rintro e w1 ⟨rfl, q1⟩
  have X1 := X0.on q1
  have y1 := y0.trans (q1.mono y0.size)
  obtain ⟨d0, d1, d2, d3, d4, d5, d6⟩ := X1.facts
  go_wp2_with fail
  refine (in_no width 0 32 _ hw).mono ?_
  rintro e w9 ⟨rfl, rfl⟩
  go_wp2_with fail
  refine (in_no width 0 32 _ hw).mono ?_
  rintro e w9 ⟨rfl, rfl⟩
  go_wp2_with fail
  refine (refat_any _ _ _).mono ?_
  rintro e w2 ⟨rfl, q2⟩
  have X2 := X1.on q2
  have y2 := y1.trans (q2.mono y1.size)
  obtain ⟨d0, d1, d2, d3, d4, d5, d6⟩ := X2.facts
  go_wp2
  obtain ⟨r0, r1⟩ := X2.ends (.int .i64 4) (.int .i64 (-3))
  exact bodyPost_ret (v := .agg #[.int .i64 4, .int .i64 (-3)]) (by simp [results, Try.results28, go_sem, r0, r1]) rfl ⟨rfl, below_ends2 y2 _ _⟩
set_option maxHeartbeats 800000 in
theorem af_large {A : Option Addr} {n c : Nat} {l : List Nat} (h01 : Is01 l) (hl : l.length ≤ 131072) (v m : Nat) (hm : m ≤ 32) (hv : v < 2 ^ m) (hs : 131072 < l.length + m) (w : World) (h : Rd w A n c (bcells (pack l))) :
    Calls Try.prog 28 #[.agg #[.slice A n c, .int .i64 (l.length : Nat)], .int .i64 (v : Nat), .int .i64 (m : Nat)] w fun e w' => e = .returned (.agg #[.int .i64 14, .int .i64 (-1)]) ∧ Below w.heap.size w w' := by
  have X0 := Box2.start w (.slice A n c) (.int .i64 (l.length : Nat))
  have y0 := below_box2 w (.cells #[.slice A n c, .int .i64 (l.length : Nat)] 24) (.cells #[.int .i64 0, .int .i64 0] 26)
  have R0 := (h.alloc (.cells #[.slice A n c, .int .i64 (l.length : Nat)] 24)).alloc (.cells #[.int .i64 0, .int .i64 0] 26)
  have H01 := Lib.hid h01
  have HLL := Lib.hid hl
  have HOK := Lib.hid (Ok.of_list h01 hl)
  clear h01
  obtain ⟨P, hP⟩ : ∃ P, P = 2 ^ m := ⟨_, rfl⟩
  have HPow := Lib.hid (show ∀ W, Calls Try.prog 45 #[.int .i64 (m : Nat)] W fun e w' => e = .returned (.int .i64 (P : Nat)) ∧ w' = W from fun W => by
    rw [hP]; exact power_any m (by omega) W)
  rw [← hP] at hv
  clear hP
  go_enter Try.func28, Try.ntmps28
  go_wp2_with fail
  refine (bitsok_any R0 (pack_lt H01.out) (by omega) (by have := HLL.out; omega) true ⟨fun _ => HOK.out, fun _ => rfl⟩).mono ?_
  rintro e w1 ⟨rfl, q1⟩
  have X1 := X0.on q1
  have y1 := y0.trans (q1.mono y0.size)
  obtain ⟨d0, d1, d2, d3, d4, d5, d6⟩ := X1.facts
  go_wp2_with fail
  refine (in_yes (m : Nat) 0 32 _ (by omega) (by omega)).mono ?_
  rintro e w9 ⟨rfl, rfl⟩
  go_wp2_with fail
  refine (HPow.out _).mono ?_
  rintro e w9 ⟨rfl, rfl⟩
  go_wp2_with fail
  refine (in_yes (m : Nat) 0 32 _ (by omega) (by omega)).mono ?_
  rintro e w9 ⟨rfl, rfl⟩
  go_wp2_with fail
  refine (refat_any _ _ _).mono ?_
  rintro e w2 ⟨rfl, q2⟩
  have X2 := X1.on q2
  have y2 := y1.trans (q2.mono y1.size)
  obtain ⟨d0, d1, d2, d3, d4, d5, d6⟩ := X2.facts
  go_wp2
  obtain ⟨r0, r1⟩ := X2.ends (.int .i64 14) (.int .i64 (-1))
  exact bodyPost_ret (v := .agg #[.int .i64 14, .int .i64 (-1)]) (by simp [results, Try.results28, go_sem, r0, r1]) rfl ⟨rfl, below_ends2 y2 _ _⟩
set_option maxHeartbeats 800000 in
theorem af_ok {A : Option Addr} {n c : Nat} {l : List Nat} (h01 : Is01 l) (hl : l.length ≤ 131072) (v m : Nat) (hm : m ≤ 32) (hv : v < 2 ^ m) (hs : l.length + m ≤ 131072) (w : World) (h : Rd w A n c (bcells (pack l))) :
    Calls Try.prog 28 #[.agg #[.slice A n c, .int .i64 (l.length : Nat)], .int .i64 (v : Nat), .int .i64 (m : Nat)] w fun e w' => e = .returned (.agg #[.int .i64 0, .int .i64 0]) ∧ Below w.heap.size w w' := by
  have X0 := Box2.start w (.slice A n c) (.int .i64 (l.length : Nat))
  have y0 := below_box2 w (.cells #[.slice A n c, .int .i64 (l.length : Nat)] 24) (.cells #[.int .i64 0, .int .i64 0] 26)
  have R0 := (h.alloc (.cells #[.slice A n c, .int .i64 (l.length : Nat)] 24)).alloc (.cells #[.int .i64 0, .int .i64 0] 26)
  have H01 := Lib.hid h01
  have HLL := Lib.hid hl
  have HOK := Lib.hid (Ok.of_list h01 hl)
  clear h01
  obtain ⟨P, hP⟩ : ∃ P, P = 2 ^ m := ⟨_, rfl⟩
  have HPow := Lib.hid (show ∀ W, Calls Try.prog 45 #[.int .i64 (m : Nat)] W fun e w' => e = .returned (.int .i64 (P : Nat)) ∧ w' = W from fun W => by
    rw [hP]; exact power_any m (by omega) W)
  rw [← hP] at hv
  clear hP
  go_enter Try.func28, Try.ntmps28
  go_wp2_with fail
  refine (bitsok_any R0 (pack_lt H01.out) (by omega) (by have := HLL.out; omega) true ⟨fun _ => HOK.out, fun _ => rfl⟩).mono ?_
  rintro e w1 ⟨rfl, q1⟩
  have X1 := X0.on q1
  have y1 := y0.trans (q1.mono y0.size)
  obtain ⟨d0, d1, d2, d3, d4, d5, d6⟩ := X1.facts
  go_wp2_with fail
  refine (in_yes (m : Nat) 0 32 _ (by omega) (by omega)).mono ?_
  rintro e w9 ⟨rfl, rfl⟩
  go_wp2_with fail
  refine (HPow.out _).mono ?_
  rintro e w9 ⟨rfl, rfl⟩
  go_wp2_with fail
  refine (in_yes (m : Nat) 0 32 _ (by omega) (by omega)).mono ?_
  rintro e w9 ⟨rfl, rfl⟩
  go_wp2
  obtain ⟨r0, r1⟩ := X1.ends (.int .i64 0) (.int .i64 0)
  exact bodyPost_ret (v := .agg #[.int .i64 0, .int .i64 0]) (by simp [results, Try.results28, go_sem, r0, r1]) rfl ⟨rfl, below_ends2 y1 _ _⟩
set_option maxHeartbeats 800000 in
theorem rf_form {A : Option Addr} {n c : Nat} {bs : List Nat} {cnt : Int} (hd : ∀ k, bs.getD k 0 < 256) (hlo : -9223372036854775808 ≤ cnt) (hhi : cnt ≤ 9223372036854775807) (hno : ¬ Ok bs cnt) (f m : Int) (w : World) (h : Rd w A n c (bcells bs)) :
    Calls Try.prog 29 #[.agg #[.slice A n c, .int .i64 cnt], .int .i64 f, .int .i64 m] w fun e w' => e = .returned (.agg #[.int .i64 6, .int .i64 (-1)]) ∧ Below w.heap.size w w' := by
  have X0 := Box2.start w (.slice A n c) (.int .i64 cnt)
  have y0 := below_box2 w (.cells #[.slice A n c, .int .i64 cnt] 24) (.cells #[.int .i64 0, .int .i64 0] 26)
  have R0 := (h.alloc (.cells #[.slice A n c, .int .i64 cnt] 24)).alloc (.cells #[.int .i64 0, .int .i64 0] 26)
  have HNO := Lib.hid hno
  clear hno
  go_enter Try.func29, Try.ntmps29
  go_wp2_with fail
  refine (bitsok_any R0 hd hlo hhi false ⟨(fun h => by cases h), fun h => absurd h HNO.out⟩).mono ?_
  rintro e w1 ⟨rfl, q1⟩
  have X1 := X0.on q1
  have y1 := y0.trans (q1.mono y0.size)
  obtain ⟨d0, d1, d2, d3, d4, d5, d6⟩ := X1.facts
  go_wp2_with fail
  refine (refat_any _ _ _).mono ?_
  rintro e w2 ⟨rfl, q2⟩
  have X2 := X1.on q2
  have y2 := y1.trans (q2.mono y1.size)
  obtain ⟨d0, d1, d2, d3, d4, d5, d6⟩ := X2.facts
  go_wp2
  obtain ⟨r0, r1⟩ := X2.ends (.int .i64 6) (.int .i64 (-1))
  exact bodyPost_ret (v := .agg #[.int .i64 6, .int .i64 (-1)]) (by simp [results, Try.results29, go_sem, r0, r1]) rfl ⟨rfl, below_ends2 y2 _ _⟩
set_option maxHeartbeats 800000 in
theorem rf_range {A : Option Addr} {n c : Nat} {l : List Nat} (h01 : Is01 l) (hl : l.length ≤ 131072) (f m : Int) (hf : f < 0 ∨ (l.length : Nat) < f) (w : World) (h : Rd w A n c (bcells (pack l))) :
    Calls Try.prog 29 #[.agg #[.slice A n c, .int .i64 (l.length : Nat)], .int .i64 f, .int .i64 m] w fun e w' => e = .returned (.agg #[.int .i64 4, .int .i64 (-2)]) ∧ Below w.heap.size w w' := by
  have X0 := Box2.start w (.slice A n c) (.int .i64 (l.length : Nat))
  have y0 := below_box2 w (.cells #[.slice A n c, .int .i64 (l.length : Nat)] 24) (.cells #[.int .i64 0, .int .i64 0] 26)
  have R0 := (h.alloc (.cells #[.slice A n c, .int .i64 (l.length : Nat)] 24)).alloc (.cells #[.int .i64 0, .int .i64 0] 26)
  have H01 := Lib.hid h01
  have HLL := Lib.hid hl
  have HOK := Lib.hid (Ok.of_list h01 hl)
  clear h01
  go_enter Try.func29, Try.ntmps29
  go_wp2_with fail
  refine (bitsok_any R0 (pack_lt H01.out) (by omega) (by have := HLL.out; omega) true ⟨fun _ => HOK.out, fun _ => rfl⟩).mono ?_
  rintro e w1 ⟨rfl, q1⟩
  have X1 := X0.on q1
  have y1 := y0.trans (q1.mono y0.size)
  obtain ⟨d0, d1, d2, d3, d4, d5, d6⟩ := X1.facts
  go_wp2_with fail
  refine (in_no f 0 (l.length : Nat) _ (by omega)).mono ?_
  rintro e w9 ⟨rfl, rfl⟩
  go_wp2_with fail
  refine (refat_any _ _ _).mono ?_
  rintro e w2 ⟨rfl, q2⟩
  have X2 := X1.on q2
  have y2 := y1.trans (q2.mono y1.size)
  obtain ⟨d0, d1, d2, d3, d4, d5, d6⟩ := X2.facts
  go_wp2
  obtain ⟨r0, r1⟩ := X2.ends (.int .i64 4) (.int .i64 (-2))
  exact bodyPost_ret (v := .agg #[.int .i64 4, .int .i64 (-2)]) (by simp [results, Try.results29, go_sem, r0, r1]) rfl ⟨rfl, below_ends2 y2 _ _⟩
set_option maxHeartbeats 800000 in
theorem rf_wide {A : Option Addr} {n c : Nat} {l : List Nat} (h01 : Is01 l) (hl : l.length ≤ 131072) (f m : Int) (hf0 : 0 ≤ f) (hf1 : f ≤ (l.length : Nat)) (hm : m < 0 ∨ 32 < m) (w : World) (h : Rd w A n c (bcells (pack l))) :
    Calls Try.prog 29 #[.agg #[.slice A n c, .int .i64 (l.length : Nat)], .int .i64 f, .int .i64 m] w fun e w' => e = .returned (.agg #[.int .i64 4, .int .i64 (-3)]) ∧ Below w.heap.size w w' := by
  have X0 := Box2.start w (.slice A n c) (.int .i64 (l.length : Nat))
  have y0 := below_box2 w (.cells #[.slice A n c, .int .i64 (l.length : Nat)] 24) (.cells #[.int .i64 0, .int .i64 0] 26)
  have R0 := (h.alloc (.cells #[.slice A n c, .int .i64 (l.length : Nat)] 24)).alloc (.cells #[.int .i64 0, .int .i64 0] 26)
  have H01 := Lib.hid h01
  have HLL := Lib.hid hl
  have HOK := Lib.hid (Ok.of_list h01 hl)
  clear h01
  go_enter Try.func29, Try.ntmps29
  go_wp2_with fail
  refine (bitsok_any R0 (pack_lt H01.out) (by omega) (by have := HLL.out; omega) true ⟨fun _ => HOK.out, fun _ => rfl⟩).mono ?_
  rintro e w1 ⟨rfl, q1⟩
  have X1 := X0.on q1
  have y1 := y0.trans (q1.mono y0.size)
  obtain ⟨d0, d1, d2, d3, d4, d5, d6⟩ := X1.facts
  go_wp2_with fail
  refine (in_yes f 0 (l.length : Nat) _ (by omega) (by omega)).mono ?_
  rintro e w9 ⟨rfl, rfl⟩
  go_wp2_with fail
  refine (in_no m 0 32 _ (by omega)).mono ?_
  rintro e w9 ⟨rfl, rfl⟩
  go_wp2_with fail
  refine (refat_any _ _ _).mono ?_
  rintro e w2 ⟨rfl, q2⟩
  have X2 := X1.on q2
  have y2 := y1.trans (q2.mono y1.size)
  obtain ⟨d0, d1, d2, d3, d4, d5, d6⟩ := X2.facts
  go_wp2
  obtain ⟨r0, r1⟩ := X2.ends (.int .i64 4) (.int .i64 (-3))
  exact bodyPost_ret (v := .agg #[.int .i64 4, .int .i64 (-3)]) (by simp [results, Try.results29, go_sem, r0, r1]) rfl ⟨rfl, below_ends2 y2 _ _⟩
set_option maxHeartbeats 800000 in
theorem rf_short {A : Option Addr} {n c : Nat} {l : List Nat} (h01 : Is01 l) (hl : l.length ≤ 131072) (f m : Int) (hf0 : 0 ≤ f) (hf1 : f ≤ (l.length : Nat)) (hm0 : 0 ≤ m) (hm1 : m ≤ 32) (hs : (l.length : Nat) < f + m) (w : World) (h : Rd w A n c (bcells (pack l))) :
    Calls Try.prog 29 #[.agg #[.slice A n c, .int .i64 (l.length : Nat)], .int .i64 f, .int .i64 m] w fun e w' => e = .returned (.agg #[.int .i64 15, .int .i64 (-2)]) ∧ Below w.heap.size w w' := by
  have X0 := Box2.start w (.slice A n c) (.int .i64 (l.length : Nat))
  have y0 := below_box2 w (.cells #[.slice A n c, .int .i64 (l.length : Nat)] 24) (.cells #[.int .i64 0, .int .i64 0] 26)
  have R0 := (h.alloc (.cells #[.slice A n c, .int .i64 (l.length : Nat)] 24)).alloc (.cells #[.int .i64 0, .int .i64 0] 26)
  have H01 := Lib.hid h01
  have HLL := Lib.hid hl
  have HOK := Lib.hid (Ok.of_list h01 hl)
  clear h01
  go_enter Try.func29, Try.ntmps29
  go_wp2_with fail
  refine (bitsok_any R0 (pack_lt H01.out) (by omega) (by have := HLL.out; omega) true ⟨fun _ => HOK.out, fun _ => rfl⟩).mono ?_
  rintro e w1 ⟨rfl, q1⟩
  have X1 := X0.on q1
  have y1 := y0.trans (q1.mono y0.size)
  obtain ⟨d0, d1, d2, d3, d4, d5, d6⟩ := X1.facts
  go_wp2_with fail
  refine (in_yes f 0 (l.length : Nat) _ (by omega) (by omega)).mono ?_
  rintro e w9 ⟨rfl, rfl⟩
  go_wp2_with fail
  refine (in_yes m 0 32 _ (by omega) (by omega)).mono ?_
  rintro e w9 ⟨rfl, rfl⟩
  go_wp2_with fail
  refine (refat_any _ _ _).mono ?_
  rintro e w2 ⟨rfl, q2⟩
  have X2 := X1.on q2
  have y2 := y1.trans (q2.mono y1.size)
  obtain ⟨d0, d1, d2, d3, d4, d5, d6⟩ := X2.facts
  go_wp2
  obtain ⟨r0, r1⟩ := X2.ends (.int .i64 15) (.int .i64 (-2))
  exact bodyPost_ret (v := .agg #[.int .i64 15, .int .i64 (-2)]) (by simp [results, Try.results29, go_sem, r0, r1]) rfl ⟨rfl, below_ends2 y2 _ _⟩
set_option maxHeartbeats 800000 in
theorem rf_ok {A : Option Addr} {n c : Nat} {l : List Nat} (h01 : Is01 l) (hl : l.length ≤ 131072) (f m : Int) (hf0 : 0 ≤ f) (hf1 : f ≤ (l.length : Nat)) (hm0 : 0 ≤ m) (hm1 : m ≤ 32) (hs : f + m ≤ (l.length : Nat)) (w : World) (h : Rd w A n c (bcells (pack l))) :
    Calls Try.prog 29 #[.agg #[.slice A n c, .int .i64 (l.length : Nat)], .int .i64 f, .int .i64 m] w fun e w' => e = .returned (.agg #[.int .i64 0, .int .i64 0]) ∧ Below w.heap.size w w' := by
  have X0 := Box2.start w (.slice A n c) (.int .i64 (l.length : Nat))
  have y0 := below_box2 w (.cells #[.slice A n c, .int .i64 (l.length : Nat)] 24) (.cells #[.int .i64 0, .int .i64 0] 26)
  have R0 := (h.alloc (.cells #[.slice A n c, .int .i64 (l.length : Nat)] 24)).alloc (.cells #[.int .i64 0, .int .i64 0] 26)
  have H01 := Lib.hid h01
  have HLL := Lib.hid hl
  have HOK := Lib.hid (Ok.of_list h01 hl)
  clear h01
  go_enter Try.func29, Try.ntmps29
  go_wp2_with fail
  refine (bitsok_any R0 (pack_lt H01.out) (by omega) (by have := HLL.out; omega) true ⟨fun _ => HOK.out, fun _ => rfl⟩).mono ?_
  rintro e w1 ⟨rfl, q1⟩
  have X1 := X0.on q1
  have y1 := y0.trans (q1.mono y0.size)
  obtain ⟨d0, d1, d2, d3, d4, d5, d6⟩ := X1.facts
  go_wp2_with fail
  refine (in_yes f 0 (l.length : Nat) _ (by omega) (by omega)).mono ?_
  rintro e w9 ⟨rfl, rfl⟩
  go_wp2_with fail
  refine (in_yes m 0 32 _ (by omega) (by omega)).mono ?_
  rintro e w9 ⟨rfl, rfl⟩
  go_wp2
  obtain ⟨r0, r1⟩ := X1.ends (.int .i64 0) (.int .i64 0)
  exact bodyPost_ret (v := .agg #[.int .i64 0, .int .i64 0]) (by simp [results, Try.results29, go_sem, r0, r1]) rfl ⟨rfl, below_ends2 y1 _ _⟩
theorem rg_bad {A : Option Addr} {n c : Nat} {l : List Nat} {f cd : Nat} {w : World} (h : Rd w A n c (bcells (pack l))) (h01 : Is01 l) (hl : l.length ≤ 131072) (hf : f ≤ l.length) (hG : GAt l f 0 0 cd) (hc : cd ≠ 0) :
    Calls Try.prog 20 #[.agg #[.slice A n c, .int .i64 l.length], .int .i64 (f : Nat)] w fun e w' => e = .returned (.tuple #[.int .i64 0, .int .i64 0, .agg #[.int .i64 (cd : Nat), .int .i64 (-2)]]) ∧ Below w.heap.size w w' := by
  rcases hG with ⟨h1, _, _, rfl⟩ | ⟨h1, h2, _, _, rfl⟩ | ⟨_, _, _, _, h3⟩
  · exact rgamma_corrupt A n c l f _ w h (Nat.le_refl _) h01 hl hf h1
  · exact rgamma_trunc A n c l f _ w h (Nat.le_refl _) h01 hl hf h1 h2
  · exact absurd h3 hc
theorem rg_ok {A : Option Addr} {n c : Nat} {l : List Nat} {f v e1 : Nat} {w : World} (h : Rd w A n c (bcells (pack l))) (h01 : Is01 l) (hl : l.length ≤ 131072) (hf : f ≤ l.length) (hG : GAt l f v e1 0) :
    Calls Try.prog 20 #[.agg #[.slice A n c, .int .i64 l.length], .int .i64 (f : Nat)] w fun e w' => e = .returned (.tuple #[.int .i64 (v : Nat), .int .i64 (e1 : Nat), .agg #[.int .i64 0, .int .i64 0]]) ∧ Below w.heap.size w w' := by
  rcases hG with ⟨_, _, _, h3⟩ | ⟨_, _, _, _, h3⟩ | ⟨h1, h2, rfl, rfl, _⟩
  · cases h3
  · cases h3
  · exact rgamma_ok A n c l f _ w h (Nat.le_refl _) h01 hl hf h1 h2
end PB
end Go.Proofs.Ytcmglfgibedpbaa
