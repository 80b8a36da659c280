/-
  bits.Read reads a number, or tells why it cannot.
-/
import Derived.Test.YtlhglomhfbbinaaRows
import Derived.Test.YtlhglomhfbbinaaBitsBox
import Derived.WalkKit
import Derived.WalkSpells
import Derived.WalkLawsBesides
import Derived.Lib.Hide
import Derived.BigQuiet
import Derived.Deep.DrawnRows
namespace Go.Proofs.Ytlhglomhfbbinaa
open Go.RowKit
attribute [local go_sem ↓] Go.wp_at_zero Go.wp_at_succ
set_option linter.unusedVariables false
set_option linter.unusedSimpArgs false
namespace PB
set_option maxHeartbeats 800000 in
theorem read_form (A : Option Addr) (n c : Nat) (d : List Nat) (cnt f m : Int) (B : Nat) (w : World) (h : Reads w B A n c (bcells d)) (hB : B ≤ w.heap.size) (hno : ¬ Ok d cnt) :
    Calls Try.prog 59 #[.agg #[.slice A n c, .int .i64 cnt], .int .i64 f, .int .i64 m] w fun e w' => e = .returned (.tuple #[.int .i64 0, flt 6 (-1)]) ∧ Below w.heap.size w w' := by
  try unfold noBits
  try unfold flt
  have X0 := Box2.start w (.slice A n c) (.int .i64 cnt)
  have hb0 := below_box2 w (.cells #[.slice A n c, .int .i64 cnt] 43) (.cells #[.int .i64 0, .int .i64 0] 25)
  have hR := h.below (hb0.mono hB)
  go_enter Try.func59, Try.ntmps59
  go_wp2_with (first
    | (go_at_call 46; refine (valid_no A n c d cnt B _ hR (by simp; omega) hno).mono ?_; rintro e w1 ⟨rfl, hb1⟩; have X1 := X0.on hb1; have y1 := hb0.trans (hb1.mono (by simp; omega)); obtain ⟨d0, d1, d2, d3, d4, d5, d6⟩ := X1.facts)
    | (go_at_call 51; refine (fault_any _ _ _).mono ?_; rintro e w2 ⟨rfl, hb2⟩; have X2 := X1.on hb2; have y2 := y1.trans (hb2.mono y1.size); obtain ⟨e0, e1, e2, e3, e4, e5, e6⟩ := X2.facts))
  all_goals
    obtain ⟨r0, r1⟩ := X2.ends (.int .i64 6) (.int .i64 (-1))
    exact bodyPost_ret (v := .tuple #[.int .i64 0, .agg #[.int .i64 6, .int .i64 (-1)]]) (by simp [results, Try.results59, go_sem, r0, r1]) rfl ⟨rfl, below_ends2 y2 _ _⟩
set_option maxHeartbeats 800000 in
theorem read_low (A : Option Addr) (n c : Nat) (l : List Nat) (f m : Int) (B : Nat) (w : World) (h : Reads w B A n c (bcells (pack l))) (hB : B ≤ w.heap.size) (h01 : Is01 l) (hl : l.length ≤ 131072) (hf : f < 0) :
    Calls Try.prog 59 #[.agg #[.slice A n c, .int .i64 l.length], .int .i64 f, .int .i64 m] w fun e w' => e = .returned (.tuple #[.int .i64 0, flt 4 (-2)]) ∧ Below w.heap.size w w' := by
  try unfold noBits
  try unfold flt
  have X0 := Box2.start w (.slice A n c) (.int .i64 l.length)
  have hb0 := below_box2 w (.cells #[.slice A n c, .int .i64 l.length] 43) (.cells #[.int .i64 0, .int .i64 0] 25)
  have hR := h.below (hb0.mono hB)
  have H01 := Lib.hid h01
  clear h01
  go_enter Try.func59, Try.ntmps59
  go_wp2_with (first
    | (go_at_call 46; refine (valid_list A n c l B _ hR (by simp; omega) H01.out hl).mono ?_; rintro e w1 ⟨rfl, hb1⟩; have X1 := X0.on hb1; have y1 := hb0.trans (hb1.mono (by simp; omega)); obtain ⟨d0, d1, d2, d3, d4, d5, d6⟩ := X1.facts)
    | (go_at_call 51; refine (fault_any _ _ _).mono ?_; rintro e w2 ⟨rfl, hb2⟩; have X2 := X1.on hb2; have y2 := y1.trans (hb2.mono y1.size); obtain ⟨e0, e1, e2, e3, e4, e5, e6⟩ := X2.facts))
  all_goals
    obtain ⟨r0, r1⟩ := X2.ends (.int .i64 4) (.int .i64 (-2))
    exact bodyPost_ret (v := .tuple #[.int .i64 0, .agg #[.int .i64 4, .int .i64 (-2)]]) (by simp [results, Try.results59, go_sem, r0, r1]) rfl ⟨rfl, below_ends2 y2 _ _⟩
set_option maxHeartbeats 800000 in
theorem read_high (A : Option Addr) (n c : Nat) (l : List Nat) (f m : Int) (B : Nat) (w : World) (h : Reads w B A n c (bcells (pack l))) (hB : B ≤ w.heap.size) (h01 : Is01 l) (hl : l.length ≤ 131072) (hf : (l.length : Int) < f) :
    Calls Try.prog 59 #[.agg #[.slice A n c, .int .i64 l.length], .int .i64 f, .int .i64 m] w fun e w' => e = .returned (.tuple #[.int .i64 0, flt 4 (-2)]) ∧ Below w.heap.size w w' := by
  try unfold noBits
  try unfold flt
  have X0 := Box2.start w (.slice A n c) (.int .i64 l.length)
  have hb0 := below_box2 w (.cells #[.slice A n c, .int .i64 l.length] 43) (.cells #[.int .i64 0, .int .i64 0] 25)
  have hR := h.below (hb0.mono hB)
  have H01 := Lib.hid h01
  clear h01
  go_enter Try.func59, Try.ntmps59
  go_wp2_with (first
    | (go_at_call 46; refine (valid_list A n c l B _ hR (by simp; omega) H01.out hl).mono ?_; rintro e w1 ⟨rfl, hb1⟩; have X1 := X0.on hb1; have y1 := hb0.trans (hb1.mono (by simp; omega)); obtain ⟨d0, d1, d2, d3, d4, d5, d6⟩ := X1.facts)
    | (go_at_call 51; refine (fault_any _ _ _).mono ?_; rintro e w2 ⟨rfl, hb2⟩; have X2 := X1.on hb2; have y2 := y1.trans (hb2.mono y1.size); obtain ⟨e0, e1, e2, e3, e4, e5, e6⟩ := X2.facts))
  all_goals
    obtain ⟨r0, r1⟩ := X2.ends (.int .i64 4) (.int .i64 (-2))
    exact bodyPost_ret (v := .tuple #[.int .i64 0, .agg #[.int .i64 4, .int .i64 (-2)]]) (by simp [results, Try.results59, go_sem, r0, r1]) rfl ⟨rfl, below_ends2 y2 _ _⟩
set_option maxHeartbeats 800000 in
theorem read_narrow (A : Option Addr) (n c : Nat) (l : List Nat) (f m : Int) (B : Nat) (w : World) (h : Reads w B A n c (bcells (pack l))) (hB : B ≤ w.heap.size) (h01 : Is01 l) (hl : l.length ≤ 131072) (hf0 : 0 ≤ f) (hf1 : f ≤ l.length) (hf : m < 0) :
    Calls Try.prog 59 #[.agg #[.slice A n c, .int .i64 l.length], .int .i64 f, .int .i64 m] w fun e w' => e = .returned (.tuple #[.int .i64 0, flt 4 (-3)]) ∧ Below w.heap.size w w' := by
  try unfold noBits
  try unfold flt
  have X0 := Box2.start w (.slice A n c) (.int .i64 l.length)
  have hb0 := below_box2 w (.cells #[.slice A n c, .int .i64 l.length] 43) (.cells #[.int .i64 0, .int .i64 0] 25)
  have hR := h.below (hb0.mono hB)
  have H01 := Lib.hid h01
  clear h01
  go_enter Try.func59, Try.ntmps59
  go_wp2_with (first
    | (go_at_call 46; refine (valid_list A n c l B _ hR (by simp; omega) H01.out hl).mono ?_; rintro e w1 ⟨rfl, hb1⟩; have X1 := X0.on hb1; have y1 := hb0.trans (hb1.mono (by simp; omega)); obtain ⟨d0, d1, d2, d3, d4, d5, d6⟩ := X1.facts)
    | (go_at_call 51; refine (fault_any _ _ _).mono ?_; rintro e w2 ⟨rfl, hb2⟩; have X2 := X1.on hb2; have y2 := y1.trans (hb2.mono y1.size); obtain ⟨e0, e1, e2, e3, e4, e5, e6⟩ := X2.facts))
  all_goals
    obtain ⟨r0, r1⟩ := X2.ends (.int .i64 4) (.int .i64 (-3))
    exact bodyPost_ret (v := .tuple #[.int .i64 0, .agg #[.int .i64 4, .int .i64 (-3)]]) (by simp [results, Try.results59, go_sem, r0, r1]) rfl ⟨rfl, below_ends2 y2 _ _⟩
set_option maxHeartbeats 800000 in
theorem read_wide (A : Option Addr) (n c : Nat) (l : List Nat) (f m : Int) (B : Nat) (w : World) (h : Reads w B A n c (bcells (pack l))) (hB : B ≤ w.heap.size) (h01 : Is01 l) (hl : l.length ≤ 131072) (hf0 : 0 ≤ f) (hf1 : f ≤ l.length) (hf : 32 < m) :
    Calls Try.prog 59 #[.agg #[.slice A n c, .int .i64 l.length], .int .i64 f, .int .i64 m] w fun e w' => e = .returned (.tuple #[.int .i64 0, flt 4 (-3)]) ∧ Below w.heap.size w w' := by
  try unfold noBits
  try unfold flt
  have X0 := Box2.start w (.slice A n c) (.int .i64 l.length)
  have hb0 := below_box2 w (.cells #[.slice A n c, .int .i64 l.length] 43) (.cells #[.int .i64 0, .int .i64 0] 25)
  have hR := h.below (hb0.mono hB)
  have H01 := Lib.hid h01
  clear h01
  go_enter Try.func59, Try.ntmps59
  go_wp2_with (first
    | (go_at_call 46; refine (valid_list A n c l B _ hR (by simp; omega) H01.out hl).mono ?_; rintro e w1 ⟨rfl, hb1⟩; have X1 := X0.on hb1; have y1 := hb0.trans (hb1.mono (by simp; omega)); obtain ⟨d0, d1, d2, d3, d4, d5, d6⟩ := X1.facts)
    | (go_at_call 51; refine (fault_any _ _ _).mono ?_; rintro e w2 ⟨rfl, hb2⟩; have X2 := X1.on hb2; have y2 := y1.trans (hb2.mono y1.size); obtain ⟨e0, e1, e2, e3, e4, e5, e6⟩ := X2.facts))
  all_goals
    obtain ⟨r0, r1⟩ := X2.ends (.int .i64 4) (.int .i64 (-3))
    exact bodyPost_ret (v := .tuple #[.int .i64 0, .agg #[.int .i64 4, .int .i64 (-3)]]) (by simp [results, Try.results59, go_sem, r0, r1]) rfl ⟨rfl, below_ends2 y2 _ _⟩
set_option maxHeartbeats 800000 in
theorem read_short (A : Option Addr) (n c : Nat) (l : List Nat) (f m : Int) (B : Nat) (w : World) (h : Reads w B A n c (bcells (pack l))) (hB : B ≤ w.heap.size) (h01 : Is01 l) (hl : l.length ≤ 131072) (hf0 : 0 ≤ f) (hf1 : f ≤ l.length) (hm0 : 0 ≤ m) (hm1 : m ≤ 32) (hf : (l.length : Int) < f + m) :
    Calls Try.prog 59 #[.agg #[.slice A n c, .int .i64 l.length], .int .i64 f, .int .i64 m] w fun e w' => e = .returned (.tuple #[.int .i64 0, flt 15 (-2)]) ∧ Below w.heap.size w w' := by
  try unfold noBits
  try unfold flt
  have X0 := Box2.start w (.slice A n c) (.int .i64 l.length)
  have hb0 := below_box2 w (.cells #[.slice A n c, .int .i64 l.length] 43) (.cells #[.int .i64 0, .int .i64 0] 25)
  have hR := h.below (hb0.mono hB)
  have H01 := Lib.hid h01
  clear h01
  go_enter Try.func59, Try.ntmps59
  go_wp2_with (first
    | (go_at_call 46; refine (valid_list A n c l B _ hR (by simp; omega) H01.out hl).mono ?_; rintro e w1 ⟨rfl, hb1⟩; have X1 := X0.on hb1; have y1 := hb0.trans (hb1.mono (by simp; omega)); obtain ⟨d0, d1, d2, d3, d4, d5, d6⟩ := X1.facts)
    | (go_at_call 51; refine (fault_any _ _ _).mono ?_; rintro e w2 ⟨rfl, hb2⟩; have X2 := X1.on hb2; have y2 := y1.trans (hb2.mono y1.size); obtain ⟨e0, e1, e2, e3, e4, e5, e6⟩ := X2.facts))
  all_goals
    obtain ⟨r0, r1⟩ := X2.ends (.int .i64 15) (.int .i64 (-2))
    exact bodyPost_ret (v := .tuple #[.int .i64 0, .agg #[.int .i64 15, .int .i64 (-2)]]) (by simp [results, Try.results59, go_sem, r0, r1]) rfl ⟨rfl, below_ends2 y2 _ _⟩
set_option maxHeartbeats 800000 in
theorem read_ok (A : Option Addr) (n c : Nat) (l : List Nat) (f m : Nat) (B : Nat) (w : World) (h : Reads w B A n c (bcells (pack l))) (hB : B ≤ w.heap.size) (h01 : Is01 l) (hl : l.length ≤ 131072) (hm : m ≤ 32) (hf : f + m ≤ l.length) :
    Calls Try.prog 59 #[.agg #[.slice A n c, .int .i64 l.length], .int .i64 f, .int .i64 m] w fun e w' => e = .returned (.tuple #[.int .i64 (num ((l.drop f).take m) : Nat), flt 0 0]) ∧ Below w.heap.size w w' := by
  try unfold noBits
  try unfold flt
  have X0 := Box2.start w (.slice A n c) (.int .i64 l.length)
  have hb0 := below_box2 w (.cells #[.slice A n c, .int .i64 l.length] 43) (.cells #[.int .i64 0, .int .i64 0] 25)
  have hR := h.below (hb0.mono hB)
  have H01 := Lib.hid h01
  clear h01
  go_enter Try.func59, Try.ntmps59
  go_wp2_with (first
    | (go_at_call 46; refine (valid_list A n c l B _ hR (by simp; omega) H01.out hl).mono ?_; rintro e w1 ⟨rfl, hb1⟩; have X1 := X0.on hb1; have y1 := hb0.trans (hb1.mono (by simp; omega)); obtain ⟨d0, d1, d2, d3, d4, d5, d6⟩ := X1.facts)
    | (go_at_call 63; refine (number_list A n c l f m B _ (hR.below (hb1.mono (by simp; omega))) H01.out hl hf (by omega) (by omega)).mono ?_; rintro e w2 ⟨rfl, hb2⟩; have X2 := X1.on hb2; have y2 := y1.trans (hb2.mono y1.size); obtain ⟨e0, e1, e2, e3, e4, e5, e6⟩ := X2.facts))
  all_goals
    obtain ⟨r0, r1⟩ := X2.ends (.int .i64 0) (.int .i64 0)
    exact bodyPost_ret (v := .tuple #[.int .i64 (num ((l.drop f).take m) : Nat), .agg #[.int .i64 0, .int .i64 0]]) (by simp [results, Try.results59, go_sem, r0, r1]) rfl ⟨rfl, below_ends2 y2 _ _⟩
end PB
end Go.Proofs.Ytlhglomhfbbinaa
