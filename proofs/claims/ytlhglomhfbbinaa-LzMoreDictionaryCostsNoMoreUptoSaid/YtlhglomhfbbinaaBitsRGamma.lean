/-
  bits.ReadGamma reads a gamma code, or tells why it cannot.
-/
import Derived.Test.YtlhglomhfbbinaaRows
import Derived.Test.YtlhglomhfbbinaaBitsBox
import Derived.WalkKit
import Derived.WalkSpells
import Derived.WalkLawsBesides
import Derived.Lib.Hide
import Derived.BigQuiet
namespace Go.Proofs.Ytlhglomhfbbinaa
open Go.RowKit
attribute [local go_sem ↓] Go.wp_at_zero Go.wp_at_succ
set_option linter.unusedVariables false
set_option linter.unusedSimpArgs false
namespace PB
/-- The number of zeros from a position on. -/
def zr (l : List Nat) (f : Nat) : Nat := ((l.drop f).takeWhile (· == 0)).length
theorem zr_le (l : List Nat) (f : Nat) (hf : f ≤ l.length) : f + zr l f ≤ l.length := by
  have := (List.takeWhile_prefix (p := (· == 0)) (l := l.drop f)).length_le
  rw [List.length_drop] at this
  unfold zr; omega
theorem takeWhile_at (m : List Nat) : ∀ k, k < (m.takeWhile (· == 0)).length → m.getD k 0 = 0 := by
  induction m with
  | nil => intro k h; simp at h
  | cons a m ih =>
    intro k h
    by_cases ha : a = 0
    · subst ha
      cases k with
      | zero => rfl
      | succ k => simp at h; simpa using ih k (by omega)
    · simp [ha] at h
theorem takeWhile_stop (m : List Nat) : (m.takeWhile (· == 0)).length < m.length → m.getD (m.takeWhile (· == 0)).length 0 ≠ 0 := by
  induction m with
  | nil => intro h; simp at h
  | cons a m ih =>
    intro h
    by_cases ha : a = 0
    · subst ha
      simp at h ⊢
      simpa using ih h
    · simp [ha]
theorem zr_zero (l : List Nat) (f k : Nat) (h : k < zr l f) : l.getD (f + k) 0 = 0 := by
  have := takeWhile_at (l.drop f) k h
  simpa [List.getD_eq_getElem?_getD] using this
theorem zr_stop (l : List Nat) (f : Nat) (h : f + zr l f < l.length) : l.getD (f + zr l f) 0 ≠ 0 := by
  have := takeWhile_stop (l.drop f) (by unfold zr at h; rw [List.length_drop]; omega)
  unfold zr
  simpa [List.getD_eq_getElem?_getD] using this
set_option maxHeartbeats 800000 in
theorem rgamma_form (A : Option Addr) (n c : Nat) (d : List Nat) (cnt f : Int) (B : Nat) (w : World) (h : Reads w B A n c (bcells d)) (hB : B ≤ w.heap.size) (hno : ¬ Ok d cnt) :
    Calls Try.prog 60 #[.agg #[.slice A n c, .int .i64 cnt], .int .i64 f] w fun e w' => e = .returned (.tuple #[.int .i64 0, .int .i64 0, flt 6 (-1)]) ∧ Below w.heap.size w w' := by
  try unfold noBits
  try unfold flt
  have X0 := Box2.start w (.slice A n c) (.int .i64 cnt)
  have hb0 := below_box2 w (.cells #[.slice A n c, .int .i64 cnt] 43) (.cells #[.int .i64 0, .int .i64 0] 25)
  have hR := h.below (hb0.mono hB)
  go_enter Try.func60, Try.ntmps60
  go_wp2_with (first
    | (go_at_call 46; refine (valid_no A n c d cnt B _ hR (by simp; omega) hno).mono ?_; rintro e w1 ⟨rfl, hb1⟩; have X1 := X0.on hb1; have y1 := hb0.trans (hb1.mono (by simp; omega)); obtain ⟨d0, d1, d2, d3, d4, d5, d6⟩ := X1.facts)
    | (go_at_call 51; refine (fault_any _ _ _).mono ?_; rintro e w2 ⟨rfl, hb2⟩; have X2 := X1.on hb2; have y2 := y1.trans (hb2.mono y1.size); obtain ⟨e0, e1, e2, e3, e4, e5, e6⟩ := X2.facts))
  all_goals
    obtain ⟨r0, r1⟩ := X2.ends (.int .i64 6) (.int .i64 (-1))
    exact bodyPost_ret (v := .tuple #[.int .i64 0, .int .i64 0, .agg #[.int .i64 6, .int .i64 (-1)]]) (by simp [results, Try.results60, go_sem, r0, r1]) rfl ⟨rfl, below_ends2 y2 _ _⟩
set_option maxHeartbeats 800000 in
theorem rgamma_low (A : Option Addr) (n c : Nat) (l : List Nat) (f : Int) (B : Nat) (w : World) (h : Reads w B A n c (bcells (pack l))) (hB : B ≤ w.heap.size) (h01 : Is01 l) (hl : l.length ≤ 131072) (hf : f < 0) :
    Calls Try.prog 60 #[.agg #[.slice A n c, .int .i64 l.length], .int .i64 f] w fun e w' => e = .returned (.tuple #[.int .i64 0, .int .i64 0, flt 4 (-2)]) ∧ Below w.heap.size w w' := by
  try unfold noBits
  try unfold flt
  have X0 := Box2.start w (.slice A n c) (.int .i64 l.length)
  have hb0 := below_box2 w (.cells #[.slice A n c, .int .i64 l.length] 43) (.cells #[.int .i64 0, .int .i64 0] 25)
  have hR := h.below (hb0.mono hB)
  have H01 := Lib.hid h01
  clear h01
  go_enter Try.func60, Try.ntmps60
  go_wp2_with (first
    | (go_at_call 46; refine (valid_list A n c l B _ hR (by simp; omega) H01.out hl).mono ?_; rintro e w1 ⟨rfl, hb1⟩; have X1 := X0.on hb1; have y1 := hb0.trans (hb1.mono (by simp; omega)); obtain ⟨d0, d1, d2, d3, d4, d5, d6⟩ := X1.facts)
    | (go_at_call 51; refine (fault_any _ _ _).mono ?_; rintro e w2 ⟨rfl, hb2⟩; have X2 := X1.on hb2; have y2 := y1.trans (hb2.mono y1.size); obtain ⟨e0, e1, e2, e3, e4, e5, e6⟩ := X2.facts))
  all_goals
    obtain ⟨r0, r1⟩ := X2.ends (.int .i64 4) (.int .i64 (-2))
    exact bodyPost_ret (v := .tuple #[.int .i64 0, .int .i64 0, .agg #[.int .i64 4, .int .i64 (-2)]]) (by simp [results, Try.results60, go_sem, r0, r1]) rfl ⟨rfl, below_ends2 y2 _ _⟩
set_option maxHeartbeats 800000 in
theorem rgamma_high (A : Option Addr) (n c : Nat) (l : List Nat) (f : Int) (B : Nat) (w : World) (h : Reads w B A n c (bcells (pack l))) (hB : B ≤ w.heap.size) (h01 : Is01 l) (hl : l.length ≤ 131072) (hf : (l.length : Int) < f) :
    Calls Try.prog 60 #[.agg #[.slice A n c, .int .i64 l.length], .int .i64 f] w fun e w' => e = .returned (.tuple #[.int .i64 0, .int .i64 0, flt 4 (-2)]) ∧ Below w.heap.size w w' := by
  try unfold noBits
  try unfold flt
  have X0 := Box2.start w (.slice A n c) (.int .i64 l.length)
  have hb0 := below_box2 w (.cells #[.slice A n c, .int .i64 l.length] 43) (.cells #[.int .i64 0, .int .i64 0] 25)
  have hR := h.below (hb0.mono hB)
  have H01 := Lib.hid h01
  clear h01
  go_enter Try.func60, Try.ntmps60
  go_wp2_with (first
    | (go_at_call 46; refine (valid_list A n c l B _ hR (by simp; omega) H01.out hl).mono ?_; rintro e w1 ⟨rfl, hb1⟩; have X1 := X0.on hb1; have y1 := hb0.trans (hb1.mono (by simp; omega)); obtain ⟨d0, d1, d2, d3, d4, d5, d6⟩ := X1.facts)
    | (go_at_call 51; refine (fault_any _ _ _).mono ?_; rintro e w2 ⟨rfl, hb2⟩; have X2 := X1.on hb2; have y2 := y1.trans (hb2.mono y1.size); obtain ⟨e0, e1, e2, e3, e4, e5, e6⟩ := X2.facts))
  all_goals
    obtain ⟨r0, r1⟩ := X2.ends (.int .i64 4) (.int .i64 (-2))
    exact bodyPost_ret (v := .tuple #[.int .i64 0, .int .i64 0, .agg #[.int .i64 4, .int .i64 (-2)]]) (by simp [results, Try.results60, go_sem, r0, r1]) rfl ⟨rfl, below_ends2 y2 _ _⟩
set_option maxHeartbeats 800000 in
theorem rgamma_corrupt (A : Option Addr) (n c : Nat) (l : List Nat) (f : Nat) (B : Nat) (w : World) (h : Reads w B A n c (bcells (pack l))) (hB : B ≤ w.heap.size) (h01 : Is01 l) (hl : l.length ≤ 131072) (hf : f ≤ l.length) (hz : 31 ≤ zr l f) :
    Calls Try.prog 60 #[.agg #[.slice A n c, .int .i64 l.length], .int .i64 f] w fun e w' => e = .returned (.tuple #[.int .i64 0, .int .i64 0, flt 16 (-2)]) ∧ Below w.heap.size w w' := by
  try unfold noBits
  try unfold flt
  have X0 := Box2.start w (.slice A n c) (.int .i64 l.length)
  have hb0 := below_box2 w (.cells #[.slice A n c, .int .i64 l.length] 43) (.cells #[.int .i64 0, .int .i64 0] 25)
  have hR := h.below (hb0.mono hB)
  have H01 := Lib.hid h01
  clear h01
  have hz0 := zr_le l f hf
  have q1 : decide ((f : Int) < 0) = false := by simp
  have q2 : decide (l.length < f) = false := by simp; omega
  go_enter Try.func60, Try.ntmps60
  go_wp2_with (first
    | (go_at_call 46; refine (valid_list A n c l B _ hR (by simp; omega) H01.out hl).mono ?_; rintro e w1 ⟨rfl, hb1⟩; have X1 := X0.on hb1; have y1 := hb0.trans (hb1.mono (by simp; omega)); obtain ⟨d0, d1, d2, d3, d4, d5, d6⟩ := X1.facts))
  go_loopw [7] (fun z wr => ∃ k : Nat, k ≤ zr l f ∧ k ≤ 30 ∧ z = .int .i64 k ∧ Box2 wr w.heap.size (.slice A n c) (.int .i64 l.length) ∧ Below w.heap.size w wr) (fun z _ => 31 - (intOf z).toNat)
  case atStart => exact ⟨0, Nat.zero_le _, by omega, rfl, X1, y1⟩
  case round =>
    obtain ⟨k, hk, hk30, rfl, XR, yr⟩ := hrel
    clear d0 d1 d2 d3 d4 d5 X0
    obtain ⟨m0, m1, m2, m3, m4, m5, m6⟩ := XR.facts
    by_cases hlt : k < zr l f
    · have hlen : f + k < l.length := by omega
      have hzk : l[f + k] = 0 := by rw [← getD_lt hlen]; exact zr_zero l f k hlt
      go_wp2_with (first
        | (go_at_call 53; refine (at_list A n c l (f + k) B _ (h.below (yr.mono hB)) H01.out hlen (by omega)).mono ?_; rintro e w3 ⟨rfl, hb3⟩; have X3 := XR.on hb3; have y3 := yr.trans (hb3.mono yr.size); obtain ⟨g0, g1, g2, g3, g4, g5, g6⟩ := X3.facts)
        | (go_at_call 51; refine (fault_any _ _ _).mono ?_; rintro e w2 ⟨rfl, hb2⟩; have X2 := X3.on hb2; have y2 := y3.trans (hb2.mono y3.size); obtain ⟨e0, e1, e2, e3, e4, e5, e6⟩ := X2.facts))
      all_goals first
        | (obtain ⟨r0, r1⟩ := X2.ends (.int .i64 16) (.int .i64 (-2))
           exact bodyPost_ret (v := .tuple #[.int .i64 0, .int .i64 0, .agg #[.int .i64 16, .int .i64 (-2)]]) (by simp [results, Try.results60, go_sem, r0, r1]) rfl ⟨rfl, below_ends2 y2 _ _⟩)
        | (go_roundw
           case rel => exact ⟨k + 1, by omega, by omega, by go_num, X3, y3⟩
           case measure => simp [intOf]; omega)
    · omega
set_option maxHeartbeats 800000 in
theorem rgamma_trunc (A : Option Addr) (n c : Nat) (l : List Nat) (f : Nat) (B : Nat) (w : World) (h : Reads w B A n c (bcells (pack l))) (hB : B ≤ w.heap.size) (h01 : Is01 l) (hl : l.length ≤ 131072) (hf : f ≤ l.length) (hz : zr l f ≤ 30) (hs : l.length < f + 2 * zr l f + 1) :
    Calls Try.prog 60 #[.agg #[.slice A n c, .int .i64 l.length], .int .i64 f] w fun e w' => e = .returned (.tuple #[.int .i64 0, .int .i64 0, flt 15 (-2)]) ∧ Below w.heap.size w w' := by
  try unfold noBits
  try unfold flt
  have X0 := Box2.start w (.slice A n c) (.int .i64 l.length)
  have hb0 := below_box2 w (.cells #[.slice A n c, .int .i64 l.length] 43) (.cells #[.int .i64 0, .int .i64 0] 25)
  have hR := h.below (hb0.mono hB)
  have H01 := Lib.hid h01
  clear h01
  have hz0 := zr_le l f hf
  have q1 : decide ((f : Int) < 0) = false := by simp
  have q2 : decide (l.length < f) = false := by simp; omega
  go_enter Try.func60, Try.ntmps60
  go_wp2_with (first
    | (go_at_call 46; refine (valid_list A n c l B _ hR (by simp; omega) H01.out hl).mono ?_; rintro e w1 ⟨rfl, hb1⟩; have X1 := X0.on hb1; have y1 := hb0.trans (hb1.mono (by simp; omega)); obtain ⟨d0, d1, d2, d3, d4, d5, d6⟩ := X1.facts))
  go_loopw [7] (fun z wr => ∃ k : Nat, k ≤ zr l f ∧ k ≤ 30 ∧ z = .int .i64 k ∧ Box2 wr w.heap.size (.slice A n c) (.int .i64 l.length) ∧ Below w.heap.size w wr) (fun z _ => 31 - (intOf z).toNat)
  case atStart => exact ⟨0, Nat.zero_le _, by omega, rfl, X1, y1⟩
  case round =>
    obtain ⟨k, hk, hk30, rfl, XR, yr⟩ := hrel
    clear d0 d1 d2 d3 d4 d5 X0
    obtain ⟨m0, m1, m2, m3, m4, m5, m6⟩ := XR.facts
    by_cases hlt : k < zr l f
    · have hlen : f + k < l.length := by omega
      have hzk : l[f + k] = 0 := by rw [← getD_lt hlen]; exact zr_zero l f k hlt
      go_wp2_with (first
        | (go_at_call 53; refine (at_list A n c l (f + k) B _ (h.below (yr.mono hB)) H01.out hlen (by omega)).mono ?_; rintro e w3 ⟨rfl, hb3⟩; have X3 := XR.on hb3; have y3 := yr.trans (hb3.mono yr.size); obtain ⟨g0, g1, g2, g3, g4, g5, g6⟩ := X3.facts))
      go_roundw
      case rel => exact ⟨k + 1, by omega, by omega, by go_num, X3, y3⟩
      case measure => simp [intOf]; omega
    · have hkz : k = zr l f := by omega
      have HKZ := Lib.hid hkz
      by_cases hend : f + k < l.length
      · have hz1 : l[f + k] = 1 := by
          have h1 := zr_stop l f (by omega)
          have h2 := H01.out (f + k)
          rw [← hkz] at h1
          rw [getD_lt hend] at h1 h2
          omega
        clear hkz
        go_wp2_with (first
          | (go_at_call 53; refine (at_list A n c l (f + k) B _ (h.below (yr.mono hB)) H01.out hend (by omega)).mono ?_; rintro e w3 ⟨rfl, hb3⟩; have X3 := XR.on hb3; have y3 := yr.trans (hb3.mono yr.size); obtain ⟨g0, g1, g2, g3, g4, g5, g6⟩ := X3.facts)
          | (go_at_call 51; refine (fault_any _ _ _).mono ?_; rintro e w2 ⟨rfl, hb2⟩; have X2 := X3.on hb2; have y2 := y3.trans (hb2.mono y3.size); obtain ⟨e0, e1, e2, e3, e4, e5, e6⟩ := X2.facts))
        obtain ⟨r0, r1⟩ := X2.ends (.int .i64 15) (.int .i64 (-2))
        exact bodyPost_ret (v := .tuple #[.int .i64 0, .int .i64 0, .agg #[.int .i64 15, .int .i64 (-2)]]) (by simp [results, Try.results60, go_sem, r0, r1]) rfl ⟨rfl, below_ends2 y2 _ _⟩
      · clear hkz
        go_wp2_with (first
          | (go_at_call 51; refine (fault_any _ _ _).mono ?_; rintro e w2 ⟨rfl, hb2⟩; have X2 := XR.on hb2; have y2 := yr.trans (hb2.mono yr.size); obtain ⟨e0, e1, e2, e3, e4, e5, e6⟩ := X2.facts))
        obtain ⟨r0, r1⟩ := X2.ends (.int .i64 15) (.int .i64 (-2))
        exact bodyPost_ret (v := .tuple #[.int .i64 0, .int .i64 0, .agg #[.int .i64 15, .int .i64 (-2)]]) (by simp [results, Try.results60, go_sem, r0, r1]) rfl ⟨rfl, below_ends2 y2 _ _⟩
set_option maxHeartbeats 800000 in
theorem rgamma_ok (A : Option Addr) (n c : Nat) (l : List Nat) (f : Nat) (B : Nat) (w : World) (h : Reads w B A n c (bcells (pack l))) (hB : B ≤ w.heap.size) (h01 : Is01 l) (hl : l.length ≤ 131072) (hf : f ≤ l.length) (hz : zr l f ≤ 30) (hs : f + 2 * zr l f + 1 ≤ l.length) :
    Calls Try.prog 60 #[.agg #[.slice A n c, .int .i64 l.length], .int .i64 f] w fun e w' => e = .returned (.tuple #[.int .i64 (num ((l.drop (f + zr l f)).take (zr l f + 1)) : Nat), .int .i64 (f + 2 * zr l f + 1 : Nat), flt 0 0]) ∧ Below w.heap.size w w' := by
  try unfold noBits
  try unfold flt
  have X0 := Box2.start w (.slice A n c) (.int .i64 l.length)
  have hb0 := below_box2 w (.cells #[.slice A n c, .int .i64 l.length] 43) (.cells #[.int .i64 0, .int .i64 0] 25)
  have hR := h.below (hb0.mono hB)
  have H01 := Lib.hid h01
  clear h01
  have hz0 := zr_le l f hf
  have q1 : decide ((f : Int) < 0) = false := by simp
  have q2 : decide (l.length < f) = false := by simp; omega
  go_enter Try.func60, Try.ntmps60
  go_wp2_with (first
    | (go_at_call 46; refine (valid_list A n c l B _ hR (by simp; omega) H01.out hl).mono ?_; rintro e w1 ⟨rfl, hb1⟩; have X1 := X0.on hb1; have y1 := hb0.trans (hb1.mono (by simp; omega)); obtain ⟨d0, d1, d2, d3, d4, d5, d6⟩ := X1.facts))
  go_loopw [7] (fun z wr => ∃ k : Nat, k ≤ zr l f ∧ k ≤ 30 ∧ z = .int .i64 k ∧ Box2 wr w.heap.size (.slice A n c) (.int .i64 l.length) ∧ Below w.heap.size w wr) (fun z _ => 31 - (intOf z).toNat)
  case atStart => exact ⟨0, Nat.zero_le _, by omega, rfl, X1, y1⟩
  case round =>
    obtain ⟨k, hk, hk30, rfl, XR, yr⟩ := hrel
    clear d0 d1 d2 d3 d4 d5 X0
    obtain ⟨m0, m1, m2, m3, m4, m5, m6⟩ := XR.facts
    by_cases hlt : k < zr l f
    · have hlen : f + k < l.length := by omega
      have hzk : l[f + k] = 0 := by rw [← getD_lt hlen]; exact zr_zero l f k hlt
      go_wp2_with (first
        | (go_at_call 53; refine (at_list A n c l (f + k) B _ (h.below (yr.mono hB)) H01.out hlen (by omega)).mono ?_; rintro e w3 ⟨rfl, hb3⟩; have X3 := XR.on hb3; have y3 := yr.trans (hb3.mono yr.size); obtain ⟨g0, g1, g2, g3, g4, g5, g6⟩ := X3.facts))
      go_roundw
      case rel => exact ⟨k + 1, by omega, by omega, by go_num, X3, y3⟩
      case measure => simp [intOf]; omega
    · have hkz : k = zr l f := by omega
      have HKZ := Lib.hid hkz
      have hend : f + k < l.length := by omega
      have hz1 : l[f + k] = 1 := by
        have h1 := zr_stop l f (by omega)
        have h2 := H01.out (f + k)
        rw [← hkz] at h1
        rw [getD_lt hend] at h1 h2
        omega
      rw [← hkz] at hs
      clear hkz
      go_wp2_with (first
        | (go_at_call 53; refine (at_list A n c l (f + k) B _ (h.below (yr.mono hB)) H01.out hend (by omega)).mono ?_; rintro e w3 ⟨rfl, hb3⟩; have X3 := XR.on hb3; have y3 := yr.trans (hb3.mono yr.size); obtain ⟨g0, g1, g2, g3, g4, g5, g6⟩ := X3.facts)
        | (go_at_call 63; refine (number_list A n c l (f + k) (k + 1) B _ (h.below (y3.mono hB)) H01.out hl (by omega) (by omega) (by omega)).mono ?_; rintro e w2 ⟨rfl, hb2⟩; have X2 := X3.on hb2; have y2 := y3.trans (hb2.mono y3.size); obtain ⟨e0, e1, e2, e3, e4, e5, e6⟩ := X2.facts))
      obtain ⟨r0, r1⟩ := X2.ends (.int .i64 0) (.int .i64 0)
      refine bodyPost_ret (v := .tuple #[.int .i64 (num ((l.drop (f + k)).take (k + 1)) : Nat), .int .i64 (f + 2 * k + 1 : Nat), .agg #[.int .i64 0, .int .i64 0]]) (by simp [results, Try.results60, go_sem, r0, r1]) rfl ⟨?_, below_ends2 y2 _ _⟩
      rw [HKZ.out]
end PB
end Go.Proofs.Ytlhglomhfbbinaa
