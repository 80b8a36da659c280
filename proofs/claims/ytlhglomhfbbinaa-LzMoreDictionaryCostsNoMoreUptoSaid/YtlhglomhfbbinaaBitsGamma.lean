/-
  bits.GammaSize and bits.AppendGamma.
-/
import Derived.Test.YtlhglomhfbbinaaRows
import Derived.Test.YtlhglomhfbbinaaBitsBox
import Derived.WalkKit
import Derived.WalkSpells
import Derived.WalkLawsBesides
import Derived.Lib.Hide
import Derived.BigQuiet
import Derived.Test.YtlhglomhfbbinaaShelf
import Derived.Lib.ItoaNum
import Derived.Deep.QuietTactic
import Derived.BigQuiet
namespace Go.Proofs.Ytlhglomhfbbinaa
open Go.RowKit
attribute [local go_sem ↓] Go.wp_at_zero Go.wp_at_succ
set_option linter.unusedVariables false
set_option linter.unusedSimpArgs false
namespace PB
theorem belowN {B : Nat} {a w : World} (h : Below B a w) (n : Nat) : Below B a (w.drewN n) := ⟨h.os, h.tape, h.output, h.size, h.block⟩
/-- The number of bits of the gamma code of a number from 1 on. -/
def gsz (n : Nat) : Nat := 2 * Lib.bitLen n - 1
theorem bitLen_bounds (n : Nat) (h1 : 1 ≤ n) (h2 : n < 2 ^ 64) : 1 ≤ Lib.bitLen n ∧ 2 ^ (Lib.bitLen n - 1) ≤ n ∧ n < 2 ^ Lib.bitLen n := Lib.bitLenAux_bounds 64 n h2 (by omega)
theorem bitLen_le64 (n : Nat) (h2 : n < 2 ^ 63) : Lib.bitLen n ≤ 63 := Lib.bitLen_le n 63 (by decide) h2
set_option maxHeartbeats 400000 in
theorem gsize_pos (x : Nat) (w : World) (h1 : 1 ≤ x) (h2 : x < 9223372036854775808) :
    Calls Try.prog 55 #[.int .i64 x] w fun e w' => e = .returned (.int .i64 (gsz x : Nat)) ∧ w' = w := by
  have hb := bitLen_le64 x (by omega)
  have hb1 := (bitLen_bounds x h1 (by omega)).1
  have hg : gsz x = 2 * Lib.bitLen x - 1 := rfl
  have HG := Lib.hid hg
  clear hg
  go_enter Try.func55, Try.ntmps55
  go_wp2_with (go_at_call 62; refine (Try.bits_Len _ _ (by omega) (by omega)).mono ?_; rintro e w' ⟨rfl, rfl⟩; rw [Int.toNat_natCast])
  go_ret
  exact ⟨ret_int (by rw [HG.out]; omega), rfl⟩
set_option maxHeartbeats 400000 in
theorem gsize_zero (x : Int) (w : World) (h1 : x < 1) :
    Calls Try.prog 55 #[.int .i64 x] w fun e w' => e = .returned (.int .i64 0) ∧ w' = w := by
  go_enter Try.func55, Try.ntmps55
  go_wp2
  go_ret
  exact ⟨rfl, rfl⟩
set_option maxHeartbeats 800000 in
theorem agamma_form (A : Option Addr) (n c : Nat) (d : List Nat) (cnt x : Int) (B : Nat) (w : World) (h : Reads w B A n c (bcells d)) (hB : B ≤ w.heap.size) (hno : ¬ Ok d cnt) :
    Calls Try.prog 44 #[.agg #[.slice A n c, .int .i64 cnt], .int .i64 x] w fun e w' => e = .returned (.tuple #[noBits, flt 6 (-1)]) ∧ Below w.heap.size w w' := by
  try unfold noBits
  try unfold flt
  have X0 := Box3.start w (.slice A n c) (.int .i64 cnt)
  have hb0 := below_box3 w (.cells #[.slice A n c, .int .i64 cnt] 43) (.cells #[.slice none 0 0, .int .i64 0] 43) (.cells #[.int .i64 0, .int .i64 0] 25)
  have hR := h.below (hb0.mono hB)
  go_enter Try.func44, Try.ntmps44
  go_wp2_with (first
    | (go_at_call 46; refine (valid_no A n c d cnt B _ hR (by simp; omega) hno).mono ?_; rintro e w1 ⟨rfl, hb1⟩; have X1 := X0.on hb1; have y1 := hb0.trans (hb1.mono (by simp; omega)); obtain ⟨d0, d1, d2, d3, d4, d5, d6, d7, d8, d9, d10⟩ := X1.facts)
    | (go_at_call 51; refine (fault_any _ _ _).mono ?_; rintro e w2 ⟨rfl, hb2⟩; have X2 := X1.on hb2; have y2 := y1.trans (hb2.mono y1.size); obtain ⟨e0, e1, e2, e3, e4, e5, e6, e7, e8, e9, e10⟩ := X2.facts))
  all_goals
    obtain ⟨r0, r1, r2, r3⟩ := X2.ends (.slice none 0 0) (.int .i64 0) (.int .i64 6) (.int .i64 (-1))
    exact bodyPost_ret (v := .tuple #[.agg #[.slice none 0 0, .int .i64 0], .agg #[.int .i64 6, .int .i64 (-1)]]) (by simp [results, Try.results44, go_sem, r0, r1, r2, r3]) rfl ⟨rfl, below_ends y2 _ _ _ _⟩
set_option maxHeartbeats 800000 in
theorem agamma_low (A : Option Addr) (n c : Nat) (l : List Nat) (x : Int) (B : Nat) (w : World) (h : Reads w B A n c (bcells (pack l))) (hB : B ≤ w.heap.size) (h01 : Is01 l) (hl : l.length ≤ 131072) (hx : x < 1) :
    Calls Try.prog 44 #[.agg #[.slice A n c, .int .i64 l.length], .int .i64 x] w fun e w' => e = .returned (.tuple #[noBits, flt 4 (-2)]) ∧ Below w.heap.size w w' := by
  try unfold noBits
  try unfold flt
  have X0 := Box3.start w (.slice A n c) (.int .i64 l.length)
  have hb0 := below_box3 w (.cells #[.slice A n c, .int .i64 l.length] 43) (.cells #[.slice none 0 0, .int .i64 0] 43) (.cells #[.int .i64 0, .int .i64 0] 25)
  have hR := h.below (hb0.mono hB)
  have H01 := Lib.hid h01
  clear h01
  go_enter Try.func44, Try.ntmps44
  go_wp2_with (first
    | (go_at_call 46; refine (valid_list A n c l B _ hR (by simp; omega) H01.out hl).mono ?_; rintro e w1 ⟨rfl, hb1⟩; have X1 := X0.on hb1; have y1 := hb0.trans (hb1.mono (by simp; omega)); obtain ⟨d0, d1, d2, d3, d4, d5, d6, d7, d8, d9, d10⟩ := X1.facts)
    | (go_at_call 51; refine (fault_any _ _ _).mono ?_; rintro e w2 ⟨rfl, hb2⟩; have X2 := X1.on hb2; have y2 := y1.trans (hb2.mono y1.size); obtain ⟨e0, e1, e2, e3, e4, e5, e6, e7, e8, e9, e10⟩ := X2.facts))
  all_goals
    obtain ⟨r0, r1, r2, r3⟩ := X2.ends (.slice none 0 0) (.int .i64 0) (.int .i64 4) (.int .i64 (-2))
    exact bodyPost_ret (v := .tuple #[.agg #[.slice none 0 0, .int .i64 0], .agg #[.int .i64 4, .int .i64 (-2)]]) (by simp [results, Try.results44, go_sem, r0, r1, r2, r3]) rfl ⟨rfl, below_ends y2 _ _ _ _⟩
set_option maxHeartbeats 800000 in
theorem agamma_high (A : Option Addr) (n c : Nat) (l : List Nat) (x : Int) (B : Nat) (w : World) (h : Reads w B A n c (bcells (pack l))) (hB : B ≤ w.heap.size) (h01 : Is01 l) (hl : l.length ≤ 131072) (hx : 2147483647 < x) :
    Calls Try.prog 44 #[.agg #[.slice A n c, .int .i64 l.length], .int .i64 x] w fun e w' => e = .returned (.tuple #[noBits, flt 4 (-2)]) ∧ Below w.heap.size w w' := by
  try unfold noBits
  try unfold flt
  have X0 := Box3.start w (.slice A n c) (.int .i64 l.length)
  have hb0 := below_box3 w (.cells #[.slice A n c, .int .i64 l.length] 43) (.cells #[.slice none 0 0, .int .i64 0] 43) (.cells #[.int .i64 0, .int .i64 0] 25)
  have hR := h.below (hb0.mono hB)
  have H01 := Lib.hid h01
  clear h01
  go_enter Try.func44, Try.ntmps44
  go_wp2_with (first
    | (go_at_call 46; refine (valid_list A n c l B _ hR (by simp; omega) H01.out hl).mono ?_; rintro e w1 ⟨rfl, hb1⟩; have X1 := X0.on hb1; have y1 := hb0.trans (hb1.mono (by simp; omega)); obtain ⟨d0, d1, d2, d3, d4, d5, d6, d7, d8, d9, d10⟩ := X1.facts)
    | (go_at_call 51; refine (fault_any _ _ _).mono ?_; rintro e w2 ⟨rfl, hb2⟩; have X2 := X1.on hb2; have y2 := y1.trans (hb2.mono y1.size); obtain ⟨e0, e1, e2, e3, e4, e5, e6, e7, e8, e9, e10⟩ := X2.facts))
  all_goals
    obtain ⟨r0, r1, r2, r3⟩ := X2.ends (.slice none 0 0) (.int .i64 0) (.int .i64 4) (.int .i64 (-2))
    exact bodyPost_ret (v := .tuple #[.agg #[.slice none 0 0, .int .i64 0], .agg #[.int .i64 4, .int .i64 (-2)]]) (by simp [results, Try.results44, go_sem, r0, r1, r2, r3]) rfl ⟨rfl, below_ends y2 _ _ _ _⟩
set_option maxHeartbeats 800000 in
theorem agamma_large (A : Option Addr) (n c : Nat) (l : List Nat) (x : Nat) (B : Nat) (w : World) (h : Reads w B A n c (bcells (pack l))) (hB : B ≤ w.heap.size) (h01 : Is01 l) (hl : l.length ≤ 131072) (hx1 : 1 ≤ x) (hx : x ≤ 2147483647) (hbig : 131072 < l.length + gsz x) :
    Calls Try.prog 44 #[.agg #[.slice A n c, .int .i64 l.length], .int .i64 x] w fun e w' => e = .returned (.tuple #[noBits, flt 14 (-1)]) ∧ Below w.heap.size w w' := by
  try unfold noBits
  try unfold flt
  have X0 := Box3.start w (.slice A n c) (.int .i64 l.length)
  have hb0 := below_box3 w (.cells #[.slice A n c, .int .i64 l.length] 43) (.cells #[.slice none 0 0, .int .i64 0] 43) (.cells #[.int .i64 0, .int .i64 0] 25)
  have hR := h.below (hb0.mono hB)
  have H01 := Lib.hid h01
  clear h01
  have hx2 : x < 9223372036854775808 := by omega
  have hgz : gsz x ≤ 125 := by have := bitLen_le64 x (by omega); unfold gsz; omega
  go_enter Try.func44, Try.ntmps44
  go_wp2_with (first
    | (go_at_call 46; refine (valid_list A n c l B _ hR (by simp; omega) H01.out hl).mono ?_; rintro e w1 ⟨rfl, hb1⟩; have X1 := X0.on hb1; have y1 := hb0.trans (hb1.mono (by simp; omega)); obtain ⟨d0, d1, d2, d3, d4, d5, d6, d7, d8, d9, d10⟩ := X1.facts))
  go_quiet ((go_at_call 55; exact Calls.quiet_of_same (gsize_pos x _ hx1 hx2)))
  go_wp2_with (first
    | (go_at_call 51; refine (fault_any _ _ _).mono ?_; rintro e w2 ⟨rfl, hb2⟩; have X2 := Box3.on (w := w1.drewN nq) X1 hb2; have y2 := (belowN y1 nq).trans (hb2.mono y1.size); obtain ⟨e0, e1, e2, e3, e4, e5, e6, e7, e8, e9, e10⟩ := X2.facts))
  all_goals
    obtain ⟨r0, r1, r2, r3⟩ := X2.ends (.slice none 0 0) (.int .i64 0) (.int .i64 14) (.int .i64 (-1))
    exact bodyPost_ret (v := .tuple #[.agg #[.slice none 0 0, .int .i64 0], .agg #[.int .i64 14, .int .i64 (-1)]]) (by simp [results, Try.results44, go_sem, r0, r1, r2, r3]) rfl ⟨rfl, below_ends y2 _ _ _ _⟩
set_option maxHeartbeats 800000 in
theorem agamma_ok (A : Option Addr) (n c : Nat) (l : List Nat) (x : Nat) (B : Nat) (w : World) (h : Reads w B A n c (bcells (pack l))) (hB : B ≤ w.heap.size) (h01 : Is01 l) (hl : l.length ≤ 131072) (hx1 : 1 ≤ x) (hx : x ≤ 2147483647) (hbig : l.length + gsz x ≤ 131072) :
    Calls Try.prog 44 #[.agg #[.slice A n c, .int .i64 l.length], .int .i64 x] w fun e w' => ∃ A' n' c', e = .returned (.tuple #[.agg #[.slice A' n' c', .int .i64 (l ++ digs x (gsz x)).length], flt 0 0]) ∧ w'.ownsRow w.heap.size 5 1 (.slice A' n' c') n' (bcells (pack (l ++ digs x (gsz x)))) ∧ Below w.heap.size w w' := by
  try unfold noBits
  try unfold flt
  have X0 := Box3.start w (.slice A n c) (.int .i64 l.length)
  have hb0 := below_box3 w (.cells #[.slice A n c, .int .i64 l.length] 43) (.cells #[.slice none 0 0, .int .i64 0] 43) (.cells #[.int .i64 0, .int .i64 0] 25)
  have hR := h.below (hb0.mono hB)
  have H01 := Lib.hid h01
  clear h01
  have hx2 : x < 9223372036854775808 := by omega
  have hgz : gsz x ≤ 61 := by have := Lib.bitLen_le x 31 (by decide) (by omega); unfold gsz; omega
  go_enter Try.func44, Try.ntmps44
  go_wp2_with (first
    | (go_at_call 46; refine (valid_list A n c l B _ hR (by simp; omega) H01.out hl).mono ?_; rintro e w1 ⟨rfl, hb1⟩; have X1 := X0.on hb1; have y1 := hb0.trans (hb1.mono (by simp; omega)); obtain ⟨d0, d1, d2, d3, d4, d5, d6, d7, d8, d9, d10⟩ := X1.facts))
  go_quiet ((go_at_call 55; exact Calls.quiet_of_same (gsize_pos x _ hx1 hx2)))
  go_wp2_with (first
    | (go_at_call 58; refine (clone_list A n c l B _ (hR.below (belowN (hb1.mono (by simp; omega)) nq)) hl (by show B ≤ w1.heap.size; omega)).mono ?_; rintro e w2 ⟨A2, n2, c2, rfl, ho2, hb2⟩; have X2 := Box3.on (w := w1.drewN nq) X1 hb2; have y2 := (belowN y1 nq).trans (hb2.mono y1.size); have s2 : w1.heap.size ≤ w2.heap.size := hb2.size; obtain ⟨e0, e1, e2, e3, e4, e5, e6, e7, e8, e9, e10⟩ := X2.facts)
    | (go_at_call 55; refine (gsize_pos x _ hx1 hx2).mono ?_; rintro e w9 ⟨rfl, rfl⟩)
    | (go_at_call 57; refine (added_list A2 n2 c2 l x (gsz x) w1.heap.size _ H01.out (by omega) (by omega) hx2 ho2 s2).mono ?_; rintro e w3 ⟨A3, n3, c3, rfl, ho3, hb3⟩; have X3 := X2.below hb3 d10; have y3 := y2.trans (hb3.mono y1.size); obtain ⟨g0, g1, g2, g3, g4, g5, g6, g7, g8, g9, g10⟩ := X3.facts))
  all_goals
    obtain ⟨r0, r1, r2, r3⟩ := X3.ends (.slice A3 n3 c3) (.int .i64 (l ++ digs x (gsz x)).length) (.int .i64 0) (.int .i64 0)
    refine bodyPost_ret (v := .tuple #[.agg #[.slice A3 n3 c3, .int .i64 (l ++ digs x (gsz x)).length], .agg #[.int .i64 0, .int .i64 0]]) (by simp at r0 r1 r2 r3; simp [results, Try.results44, go_sem, r0, r1, r2, r3]) rfl ⟨A3, n3, c3, rfl, ?_, ?_⟩
    · simpa using own_ends X3 (own_less ho3 y1.size) (.slice A3 n3 c3) (.int .i64 (l ++ digs x (gsz x)).length) (.int .i64 0) (.int .i64 0)
    · simpa using below_ends y3 (.slice A3 n3 c3) (.int .i64 (l ++ digs x (gsz x)).length) (.int .i64 0) (.int .i64 0)
end PB
end Go.Proofs.Ytlhglomhfbbinaa
