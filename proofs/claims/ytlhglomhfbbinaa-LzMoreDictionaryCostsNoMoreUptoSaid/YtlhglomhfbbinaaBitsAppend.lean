/-
  bits.Append adds a number in a width, or tells why it cannot.
-/
import Derived.Test.YtlhglomhfbbinaaRows
import Derived.Test.YtlhglomhfbbinaaBitsBox
import Derived.WalkKit
import Derived.WalkSpells
import Derived.WalkLawsBesides
import Derived.Lib.Hide
import Derived.BigQuiet
namespace Go.Proofs.Ytlhglomhfbbinaa
open Go.RowKit
set_option linter.unusedVariables false
set_option linter.unusedSimpArgs false
namespace PB
set_option maxHeartbeats 800000 in
theorem append_form (A : Option Addr) (n c : Nat) (d : List Nat) (cnt value width : Int) (B : Nat) (w : World) (h : Reads w B A n c (bcells d)) (hB : B ≤ w.heap.size) (hno : ¬ Ok d cnt) :
    Calls Try.prog 43 #[.agg #[.slice A n c, .int .i64 cnt], .int .i64 value, .int .i64 width] w fun e w' => e = .returned (.tuple #[noBits, flt 6 (-1)]) ∧ Below w.heap.size w w' := by
  try unfold noBits
  try unfold flt
  have X0 := Box3.start w (.slice A n c) (.int .i64 cnt)
  have hb0 := below_box3 w (.cells #[.slice A n c, .int .i64 cnt] 43) (.cells #[.slice none 0 0, .int .i64 0] 43) (.cells #[.int .i64 0, .int .i64 0] 25)
  have hR := h.below (hb0.mono hB)
  go_enter Try.func43, Try.ntmps43
  go_wp2_with (first
    | (go_at_call 46; refine (valid_no A n c d cnt B _ hR (by simp; omega) hno).mono ?_; rintro e w1 ⟨rfl, hb1⟩; have X1 := X0.on hb1; have y1 := hb0.trans (hb1.mono (by simp; omega)); obtain ⟨d0, d1, d2, d3, d4, d5, d6, d7, d8, d9, d10⟩ := X1.facts)
    | (go_at_call 51; refine (fault_any _ _ _).mono ?_; rintro e w2 ⟨rfl, hb2⟩; have X2 := X1.on hb2; have y2 := y1.trans (hb2.mono y1.size); obtain ⟨e0, e1, e2, e3, e4, e5, e6, e7, e8, e9, e10⟩ := X2.facts))
  all_goals
    obtain ⟨r0, r1, r2, r3⟩ := X2.ends (.slice none 0 0) (.int .i64 0) (.int .i64 6) (.int .i64 (-1))
    exact bodyPost_ret (v := .tuple #[.agg #[.slice none 0 0, .int .i64 0], .agg #[.int .i64 6, .int .i64 (-1)]]) (by simp [results, Try.results43, go_sem, r0, r1, r2, r3]) rfl ⟨rfl, below_ends y2 _ _ _ _⟩
set_option maxHeartbeats 800000 in
theorem append_neg (A : Option Addr) (n c : Nat) (l : List Nat) (value width : Int) (B : Nat) (w : World) (h : Reads w B A n c (bcells (pack l))) (hB : B ≤ w.heap.size) (h01 : Is01 l) (hl : l.length ≤ 131072) (hv : value < 0) :
    Calls Try.prog 43 #[.agg #[.slice A n c, .int .i64 l.length], .int .i64 value, .int .i64 width] w fun e w' => e = .returned (.tuple #[noBits, flt 4 (-2)]) ∧ Below w.heap.size w w' := by
  try unfold noBits
  try unfold flt
  have X0 := Box3.start w (.slice A n c) (.int .i64 l.length)
  have hb0 := below_box3 w (.cells #[.slice A n c, .int .i64 l.length] 43) (.cells #[.slice none 0 0, .int .i64 0] 43) (.cells #[.int .i64 0, .int .i64 0] 25)
  have hR := h.below (hb0.mono hB)
  have k1 : decide (value < 0) = true := by simpa using hv
  have H01 := Lib.hid h01
  clear h01
  go_enter Try.func43, Try.ntmps43
  go_wp2_with (first
    | (go_at_call 46; refine (valid_list A n c l B _ hR (by simp; omega) H01.out hl).mono ?_; rintro e w1 ⟨rfl, hb1⟩; have X1 := X0.on hb1; have y1 := hb0.trans (hb1.mono (by simp; omega)); obtain ⟨d0, d1, d2, d3, d4, d5, d6, d7, d8, d9, d10⟩ := X1.facts)
    | (go_at_call 51; refine (fault_any _ _ _).mono ?_; rintro e w2 ⟨rfl, hb2⟩; have X2 := X1.on hb2; have y2 := y1.trans (hb2.mono y1.size); obtain ⟨e0, e1, e2, e3, e4, e5, e6, e7, e8, e9, e10⟩ := X2.facts))
  all_goals
    obtain ⟨r0, r1, r2, r3⟩ := X2.ends (.slice none 0 0) (.int .i64 0) (.int .i64 4) (.int .i64 (-2))
    exact bodyPost_ret (v := .tuple #[.agg #[.slice none 0 0, .int .i64 0], .agg #[.int .i64 4, .int .i64 (-2)]]) (by simp [results, Try.results43, go_sem, r0, r1, r2, r3]) rfl ⟨rfl, below_ends y2 _ _ _ _⟩
set_option maxHeartbeats 800000 in
theorem append_big (A : Option Addr) (n c : Nat) (l : List Nat) (v m : Nat) (B : Nat) (w : World) (h : Reads w B A n c (bcells (pack l))) (hB : B ≤ w.heap.size) (h01 : Is01 l) (hl : l.length ≤ 131072) (hm : m ≤ 32) (hv : 2 ^ m ≤ v) (hv2 : v < 9223372036854775808) :
    Calls Try.prog 43 #[.agg #[.slice A n c, .int .i64 l.length], .int .i64 v, .int .i64 m] w fun e w' => e = .returned (.tuple #[noBits, flt 4 (-2)]) ∧ Below w.heap.size w w' := by
  try unfold noBits
  try unfold flt
  have X0 := Box3.start w (.slice A n c) (.int .i64 l.length)
  have hb0 := below_box3 w (.cells #[.slice A n c, .int .i64 l.length] 43) (.cells #[.slice none 0 0, .int .i64 0] 43) (.cells #[.int .i64 0, .int .i64 0] 25)
  have hR := h.below (hb0.mono hB)
  have k2 : (((v : Int) / 2 ^ m) != 0) = true := by
    have h1 : 0 < v / 2 ^ m := Nat.div_pos hv (Nat.two_pow_pos _)
    have e : ((v : Int) / 2 ^ m) = ((v / 2 ^ m : Nat) : Int) := by simp
    rw [e, bne_iff_ne]; omega
  have H01 := Lib.hid h01
  have HV := Lib.hid hv
  clear h01 hv
  go_enter Try.func43, Try.ntmps43
  go_wp2_with (first
    | (go_at_call 46; refine (valid_list A n c l B _ hR (by simp; omega) H01.out hl).mono ?_; rintro e w1 ⟨rfl, hb1⟩; have X1 := X0.on hb1; have y1 := hb0.trans (hb1.mono (by simp; omega)); obtain ⟨d0, d1, d2, d3, d4, d5, d6, d7, d8, d9, d10⟩ := X1.facts)
    | (go_at_call 51; refine (fault_any _ _ _).mono ?_; rintro e w2 ⟨rfl, hb2⟩; have X2 := X1.on hb2; have y2 := y1.trans (hb2.mono y1.size); obtain ⟨e0, e1, e2, e3, e4, e5, e6, e7, e8, e9, e10⟩ := X2.facts))
  all_goals
    obtain ⟨r0, r1, r2, r3⟩ := X2.ends (.slice none 0 0) (.int .i64 0) (.int .i64 4) (.int .i64 (-2))
    exact bodyPost_ret (v := .tuple #[.agg #[.slice none 0 0, .int .i64 0], .agg #[.int .i64 4, .int .i64 (-2)]]) (by simp [results, Try.results43, go_sem, r0, r1, r2, r3]) rfl ⟨rfl, below_ends y2 _ _ _ _⟩
set_option maxHeartbeats 800000 in
theorem append_narrow (A : Option Addr) (n c : Nat) (l : List Nat) (v : Nat) (width : Int) (B : Nat) (w : World) (h : Reads w B A n c (bcells (pack l))) (hB : B ≤ w.heap.size) (h01 : Is01 l) (hl : l.length ≤ 131072) (hw : width < 0) :
    Calls Try.prog 43 #[.agg #[.slice A n c, .int .i64 l.length], .int .i64 v, .int .i64 width] w fun e w' => e = .returned (.tuple #[noBits, flt 4 (-3)]) ∧ Below w.heap.size w w' := by
  try unfold noBits
  try unfold flt
  have X0 := Box3.start w (.slice A n c) (.int .i64 l.length)
  have hb0 := below_box3 w (.cells #[.slice A n c, .int .i64 l.length] 43) (.cells #[.slice none 0 0, .int .i64 0] 43) (.cells #[.int .i64 0, .int .i64 0] 25)
  have hR := h.below (hb0.mono hB)
  have H01 := Lib.hid h01
  clear h01
  go_enter Try.func43, Try.ntmps43
  go_wp2_with (first
    | (go_at_call 46; refine (valid_list A n c l B _ hR (by simp; omega) H01.out hl).mono ?_; rintro e w1 ⟨rfl, hb1⟩; have X1 := X0.on hb1; have y1 := hb0.trans (hb1.mono (by simp; omega)); obtain ⟨d0, d1, d2, d3, d4, d5, d6, d7, d8, d9, d10⟩ := X1.facts)
    | (go_at_call 51; refine (fault_any _ _ _).mono ?_; rintro e w2 ⟨rfl, hb2⟩; have X2 := X1.on hb2; have y2 := y1.trans (hb2.mono y1.size); obtain ⟨e0, e1, e2, e3, e4, e5, e6, e7, e8, e9, e10⟩ := X2.facts))
  all_goals
    obtain ⟨r0, r1, r2, r3⟩ := X2.ends (.slice none 0 0) (.int .i64 0) (.int .i64 4) (.int .i64 (-3))
    exact bodyPost_ret (v := .tuple #[.agg #[.slice none 0 0, .int .i64 0], .agg #[.int .i64 4, .int .i64 (-3)]]) (by simp [results, Try.results43, go_sem, r0, r1, r2, r3]) rfl ⟨rfl, below_ends y2 _ _ _ _⟩
set_option maxHeartbeats 800000 in
theorem append_wide (A : Option Addr) (n c : Nat) (l : List Nat) (v : Nat) (width : Int) (B : Nat) (w : World) (h : Reads w B A n c (bcells (pack l))) (hB : B ≤ w.heap.size) (h01 : Is01 l) (hl : l.length ≤ 131072) (hw : 32 < width) :
    Calls Try.prog 43 #[.agg #[.slice A n c, .int .i64 l.length], .int .i64 v, .int .i64 width] w fun e w' => e = .returned (.tuple #[noBits, flt 4 (-3)]) ∧ Below w.heap.size w w' := by
  try unfold noBits
  try unfold flt
  have X0 := Box3.start w (.slice A n c) (.int .i64 l.length)
  have hb0 := below_box3 w (.cells #[.slice A n c, .int .i64 l.length] 43) (.cells #[.slice none 0 0, .int .i64 0] 43) (.cells #[.int .i64 0, .int .i64 0] 25)
  have hR := h.below (hb0.mono hB)
  have H01 := Lib.hid h01
  clear h01
  go_enter Try.func43, Try.ntmps43
  go_wp2_with (first
    | (go_at_call 46; refine (valid_list A n c l B _ hR (by simp; omega) H01.out hl).mono ?_; rintro e w1 ⟨rfl, hb1⟩; have X1 := X0.on hb1; have y1 := hb0.trans (hb1.mono (by simp; omega)); obtain ⟨d0, d1, d2, d3, d4, d5, d6, d7, d8, d9, d10⟩ := X1.facts)
    | (go_at_call 51; refine (fault_any _ _ _).mono ?_; rintro e w2 ⟨rfl, hb2⟩; have X2 := X1.on hb2; have y2 := y1.trans (hb2.mono y1.size); obtain ⟨e0, e1, e2, e3, e4, e5, e6, e7, e8, e9, e10⟩ := X2.facts))
  all_goals
    obtain ⟨r0, r1, r2, r3⟩ := X2.ends (.slice none 0 0) (.int .i64 0) (.int .i64 4) (.int .i64 (-3))
    exact bodyPost_ret (v := .tuple #[.agg #[.slice none 0 0, .int .i64 0], .agg #[.int .i64 4, .int .i64 (-3)]]) (by simp [results, Try.results43, go_sem, r0, r1, r2, r3]) rfl ⟨rfl, below_ends y2 _ _ _ _⟩
set_option maxHeartbeats 800000 in
theorem append_large (A : Option Addr) (n c : Nat) (l : List Nat) (v m : Nat) (B : Nat) (w : World) (h : Reads w B A n c (bcells (pack l))) (hB : B ≤ w.heap.size) (h01 : Is01 l) (hl : l.length ≤ 131072) (hm : m ≤ 32) (hv : v < 2 ^ m) (hbig : 131072 < l.length + m) :
    Calls Try.prog 43 #[.agg #[.slice A n c, .int .i64 l.length], .int .i64 v, .int .i64 m] w fun e w' => e = .returned (.tuple #[noBits, flt 14 (-1)]) ∧ Below w.heap.size w w' := by
  try unfold noBits
  try unfold flt
  have X0 := Box3.start w (.slice A n c) (.int .i64 l.length)
  have hb0 := below_box3 w (.cells #[.slice A n c, .int .i64 l.length] 43) (.cells #[.slice none 0 0, .int .i64 0] 43) (.cells #[.int .i64 0, .int .i64 0] 25)
  have hR := h.below (hb0.mono hB)
  have k2 : (((v : Int) / 2 ^ m) != 0) = false := by
    have h1 : v / 2 ^ m = 0 := Nat.div_eq_of_lt hv
    have e : ((v : Int) / 2 ^ m) = ((v / 2 ^ m : Nat) : Int) := by simp
    rw [e, h1]; rfl
  have hvm : v < 9223372036854775808 := by
    have : 2 ^ m ≤ 2 ^ 32 := Nat.pow_le_pow_right (by decide) hm
    omega
  have H01 := Lib.hid h01
  have HV := Lib.hid hv
  clear h01 hv
  go_enter Try.func43, Try.ntmps43
  go_wp2_with (first
    | (go_at_call 46; refine (valid_list A n c l B _ hR (by simp; omega) H01.out hl).mono ?_; rintro e w1 ⟨rfl, hb1⟩; have X1 := X0.on hb1; have y1 := hb0.trans (hb1.mono (by simp; omega)); obtain ⟨d0, d1, d2, d3, d4, d5, d6, d7, d8, d9, d10⟩ := X1.facts)
    | (go_at_call 51; refine (fault_any _ _ _).mono ?_; rintro e w2 ⟨rfl, hb2⟩; have X2 := X1.on hb2; have y2 := y1.trans (hb2.mono y1.size); obtain ⟨e0, e1, e2, e3, e4, e5, e6, e7, e8, e9, e10⟩ := X2.facts))
  all_goals
    obtain ⟨r0, r1, r2, r3⟩ := X2.ends (.slice none 0 0) (.int .i64 0) (.int .i64 14) (.int .i64 (-1))
    exact bodyPost_ret (v := .tuple #[.agg #[.slice none 0 0, .int .i64 0], .agg #[.int .i64 14, .int .i64 (-1)]]) (by simp [results, Try.results43, go_sem, r0, r1, r2, r3]) rfl ⟨rfl, below_ends y2 _ _ _ _⟩
set_option maxHeartbeats 800000 in
theorem append_ok (A : Option Addr) (n c : Nat) (l : List Nat) (v m : Nat) (B : Nat) (w : World) (h : Reads w B A n c (bcells (pack l))) (hB : B ≤ w.heap.size) (h01 : Is01 l) (hl : l.length ≤ 131072) (hm : m ≤ 32) (hv : v < 2 ^ m) (hbig : l.length + m ≤ 131072) :
    Calls Try.prog 43 #[.agg #[.slice A n c, .int .i64 l.length], .int .i64 v, .int .i64 m] w fun e w' => ∃ A' n' c', e = .returned (.tuple #[.agg #[.slice A' n' c', .int .i64 (l ++ digs v m).length], flt 0 0]) ∧ w'.ownsRow w.heap.size 5 1 (.slice A' n' c') n' (bcells (pack (l ++ digs v m))) ∧ Below w.heap.size w w' := by
  try unfold noBits
  try unfold flt
  have X0 := Box3.start w (.slice A n c) (.int .i64 l.length)
  have hb0 := below_box3 w (.cells #[.slice A n c, .int .i64 l.length] 43) (.cells #[.slice none 0 0, .int .i64 0] 43) (.cells #[.int .i64 0, .int .i64 0] 25)
  have hR := h.below (hb0.mono hB)
  have k2 : (((v : Int) / 2 ^ m) != 0) = false := by
    have h1 : v / 2 ^ m = 0 := Nat.div_eq_of_lt hv
    have e : ((v : Int) / 2 ^ m) = ((v / 2 ^ m : Nat) : Int) := by simp
    rw [e, h1]; rfl
  have hvm : v < 9223372036854775808 := by
    have : 2 ^ m ≤ 2 ^ 32 := Nat.pow_le_pow_right (by decide) hm
    omega
  have H01 := Lib.hid h01
  have HV := Lib.hid hv
  clear h01 hv
  go_enter Try.func43, Try.ntmps43
  go_wp2_with (first
    | (go_at_call 46; refine (valid_list A n c l B _ hR (by simp; omega) H01.out hl).mono ?_; rintro e w1 ⟨rfl, hb1⟩; have X1 := X0.on hb1; have y1 := hb0.trans (hb1.mono (by simp; omega)); obtain ⟨d0, d1, d2, d3, d4, d5, d6, d7, d8, d9, d10⟩ := X1.facts)
    | (go_at_call 58; refine (clone_list A n c l B _ (hR.below (hb1.mono (by simp; omega))) hl (by omega)).mono ?_; rintro e w2 ⟨A2, n2, c2, rfl, ho2, hb2⟩; have X2 := X1.on hb2; have y2 := y1.trans (hb2.mono y1.size); have s2 := hb2.size; obtain ⟨e0, e1, e2, e3, e4, e5, e6, e7, e8, e9, e10⟩ := X2.facts)
    | (go_at_call 57; refine (added_list A2 n2 c2 l v m w1.heap.size _ H01.out (by omega) (by omega) hvm ho2 s2).mono ?_; rintro e w3 ⟨A3, n3, c3, rfl, ho3, hb3⟩; have X3 := X2.below hb3 d10; have y3 := y2.trans (hb3.mono y1.size); obtain ⟨g0, g1, g2, g3, g4, g5, g6, g7, g8, g9, g10⟩ := X3.facts))
  all_goals
    obtain ⟨r0, r1, r2, r3⟩ := X3.ends (.slice A3 n3 c3) (.int .i64 (l ++ digs v m).length) (.int .i64 0) (.int .i64 0)
    refine bodyPost_ret (v := .tuple #[.agg #[.slice A3 n3 c3, .int .i64 (l ++ digs v m).length], .agg #[.int .i64 0, .int .i64 0]]) (by simp at r0 r1 r2 r3; simp [results, Try.results43, go_sem, r0, r1, r2, r3]) rfl ⟨A3, n3, c3, rfl, ?_, ?_⟩
    · simpa using own_ends X3 (own_less ho3 y1.size) (.slice A3 n3 c3) (.int .i64 (l ++ digs v m).length) (.int .i64 0) (.int .i64 0)
    · simpa using below_ends y3 (.slice A3 n3 c3) (.int .i64 (l ++ digs v m).length) (.int .i64 0) (.int .i64 0)
end PB
end Go.Proofs.Ytlhglomhfbbinaa
