/-
  The closed examples of package bits answer true (the helper strings of the statements); SameBytes, SameBits, In, At of the reference.
-/
import Derived.Test.YtcmglfgibedpbaaRows
import Derived.Test.YtcmglfgibedpbaaBitsMake
import Derived.Test.YtcmglfgibedpbaaBitsText
import Derived.Test.YtcmglfgibedpbaaBitsGamma
import Derived.Test.YtcmglfgibedpbaaBitsRGamma
import Derived.Test.YtcmglfgibedpbaaBitsAppend
import Derived.WalkKit
import Derived.WalkSpells
import Derived.WalkLawsBesides
import Derived.Lib.Hide
namespace Go.Proofs.Ytcmglfgibedpbaa
open Go.RowKit
set_option linter.unusedVariables false
set_option linter.unusedSimpArgs false
namespace PB
/-- A slice that can be read, somewhere in memory. -/
def Rd (w : World) (A : Option Addr) (n c : Nat) (xs : List Value) : Prop := Reads w w.heap.size A n c xs
section
variable {w w' : World} {A : Option Addr} {n c : Nat} {xs : List Value}
theorem Rd.on (h : Rd w A n c xs) (hb : Below w.heap.size w w') : Rd w' A n c xs := (Reads.on h (Nat.le_refl _) hb).more hb.size
theorem Rd.alloc (h : Rd w A n c xs) (o : Obj) : Rd (w.alloc o) A n c xs := (Reads.alloc h (Nat.le_refl _) o).more (by simp)
theorem Rd.drew (h : Rd w A n c xs) : Rd w.drew A n c xs := h
theorem Rd.own {base : Nat} {e : TypeId} (h : w.ownsRow base e 1 (.slice A n c) n xs) : Rd w A n c xs := by
  obtain ⟨A', c', hv, hr⟩ := Reads.of_own h
  cases hv
  exact hr
theorem Two.new1 (w : World) (o : Obj) (t : TypeId) (v0 v1 : Value) : Two ((w.alloc o).alloc (.cells #[v0, v1] t)) (w.heap.size + 1) t v0 v1 := by
  simpa using Two.new (w.alloc o) t v0 v1
end
theorem in_yes (n low high : Int) (w : World) (h1 : low ≤ n) (h2 : n ≤ high) :
    Calls Try.prog 24 #[.int .i64 n, .int .i64 low, .int .i64 high] w fun e w' => e = .returned (.bool true) ∧ w = w' := by
  go_enter Try.func24, Try.ntmps24
  go_wp2
  go_ret
  exact ⟨by simp [h2], rfl⟩
theorem in_no (n low high : Int) (w : World) (h1 : n < low ∨ high < n) :
    Calls Try.prog 24 #[.int .i64 n, .int .i64 low, .int .i64 high] w fun e w' => e = .returned (.bool false) ∧ w = w' := by
  by_cases hl : n < low
  · have q : decide (low ≤ n) = false := by simpa using hl
    go_enter Try.func24, Try.ntmps24
    go_wp2
    go_ret
    exact ⟨rfl, rfl⟩
  · have q : decide (low ≤ n) = true := by simp; omega
    have q2 : decide (n ≤ high) = false := by simp; omega
    go_enter Try.func24, Try.ntmps24
    go_wp2
    go_ret
    exact ⟨rfl, rfl⟩
theorem refat_any (code index : Int) (w : World) :
    Calls Try.prog 16 #[.int .i64 code, .int .i64 index] w fun e w' => e = .returned (.agg #[.int .i64 code, .int .i64 index]) ∧ Below w.heap.size w w' := by
  go_enter Try.func16, Try.ntmps16
  go_wp2
  refine bodyPost_ret (v := .agg #[.int .i64 code, .int .i64 index]) (by simp [results, Try.results16, go_sem]) rfl ⟨rfl, ?_⟩
  exact (Below.refl _ _).alloc (Nat.le_refl _) _
theorem samebytes_any (A : Option Addr) (n c : Nat) (d : List Nat) (A2 : Option Addr) (n2 c2 : Nat) (d2 : List Nat) (w : World) (h : Rd w A n c (bcells d)) (h2 : Rd w A2 n2 c2 (bcells d2))
    (hd : ∀ k, d.getD k 0 < 256) (hd2 : ∀ k, d2.getD k 0 < 256) :
    Calls Try.prog 40 #[.slice A n c, .slice A2 n2 c2] w fun e w' => e = .returned (.bool (decide (d = d2))) ∧ w = w' := by
  have hcv := run_bytes_str (P := Try.prog) 22 9 5 Try.underlying22 Try.underlying5 Try.underlying9 h
  have hcv2 := run_bytes_str (P := Try.prog) 22 9 5 Try.underlying22 Try.underlying5 Try.underlying9 h2
  go_enter Try.func40, Try.ntmps40
  go_wp2
  go_ret
  refine ⟨ret_bool ?_, rfl⟩
  rw [bstr_toList, bstr_toList, Bool.eq_iff_iff]
  simp only [beq_iff_eq, decide_eq_true_eq]
  exact ⟨map_ofNat_inj d d2 hd hd2, fun h => by rw [h]⟩
theorem samebits_any (A : Option Addr) (n c : Nat) (d : List Nat) (cnt : Int) (A2 : Option Addr) (n2 c2 : Nat) (d2 : List Nat) (cnt2 : Int) (w : World) (h : Rd w A n c (bcells d)) (h2 : Rd w A2 n2 c2 (bcells d2))
    (hd : ∀ k, d.getD k 0 < 256) (hd2 : ∀ k, d2.getD k 0 < 256) (r : Bool) (hr : r = (decide (cnt = cnt2) && decide (d = d2))) :
    Calls Try.prog 17 #[.agg #[.slice A n c, .int .i64 cnt], .agg #[.slice A2 n2 c2, .int .i64 cnt2]] w fun e w' => e = .returned (.bool r) ∧ Below w.heap.size w w' := by
  by_cases hc : cnt = cnt2
  · have q : (cnt == cnt2) = true := by simpa using hc
    have HR := Lib.hid hr
    have HC := Lib.hid hc
    clear hr hc
    go_enter Try.func17, Try.ntmps17
    go_wp2_with (go_at_call 40; refine (samebytes_any A n c d A2 n2 c2 d2 _ ((h.alloc _).alloc _) ((h2.alloc _).alloc _) hd hd2).mono ?_; rintro e w' ⟨rfl, rfl⟩)
    go_ret
    refine ⟨ret_bool ?_, ((Below.refl _ _).alloc (Nat.le_refl _) _).alloc (by simp) _⟩
    rw [HR.out, HC.out]; simp
  · have q : (cnt == cnt2) = false := by simpa using hc
    have HR := Lib.hid hr
    have HC := Lib.hid hc
    clear hr hc
    go_enter Try.func17, Try.ntmps17
    go_wp2
    go_ret
    refine ⟨ret_bool ?_, ((Below.refl _ _).alloc (Nat.le_refl _) _).alloc (by simp) _⟩
    rw [HR.out]; simp [HC.out]

theorem make_ex (w : World) :
    Calls Try.prog 11 #[.string ⟨#[49, 48, 48, 49, 48, 49]⟩] w fun e w' => ∃ A n c, e = .returned (.tuple #[.agg #[.slice A n c, .int .i64 6], .agg #[.int .i64 0, .int .i64 0]]) ∧ Rd w' A n c (bcells (pack [1, 0, 0, 1, 0, 1])) ∧ Below w.heap.size w w' := by
  refine (make_upto ⟨#[49, 48, 48, 49, 48, 49]⟩ 6 w (by decide) (by intro i h; revert i; decide) (by decide) (fun h => absurd h (by decide))).mono ?_
  rintro e w' (⟨h, _⟩ | ⟨_, A, n, c, rfl, ho, hb⟩)
  · exact absurd h (by decide)
  · exact ⟨A, n, c, rfl, Rd.own ho, hb⟩
theorem rgamma_ex (A : Option Addr) (n c : Nat) (w : World) (h : Rd w A n c (bcells (pack [1, 0, 0, 1, 0, 1]))) :
    Calls Try.prog 20 #[.agg #[.slice A n c, .int .i64 6], .int .i64 1] w fun e w' => e = .returned (.tuple #[.int .i64 5, .int .i64 6, .agg #[.int .i64 0, .int .i64 0]]) ∧ Below w.heap.size w w' :=
  rgamma_ok A n c [1, 0, 0, 1, 0, 1] 1 _ w h (Nat.le_refl _) (Is01.of_mem (by decide)) (by decide) (by decide) (by decide) (by decide)
theorem append_ex (w : World) :
    Calls Try.prog 26 #[.agg #[.slice none 0 0, .int .i64 0], .int .i64 5, .int .i64 4] w fun e w' => ∃ A n c, e = .returned (.tuple #[.agg #[.slice A n c, .int .i64 4], .agg #[.int .i64 0, .int .i64 0]]) ∧ Rd w' A n c (bcells (pack [0, 1, 0, 1])) ∧ Below w.heap.size w w' := by
  refine (append_ok none 0 0 [] 5 4 _ w (Reads.nil w w.heap.size none 0 (Nat.zero_le _)) (Nat.le_refl _) Is01.nil (by decide) (by decide) (by decide) (by decide)).mono ?_
  rintro e w' ⟨A, n, c, rfl, ho, hb⟩
  exact ⟨A, n, c, rfl, Rd.own ho, hb⟩
theorem agamma_ex (A : Option Addr) (n c : Nat) (w : World) (h : Rd w A n c (bcells (pack [0, 1, 0, 1]))) :
    Calls Try.prog 19 #[.agg #[.slice A n c, .int .i64 4], .int .i64 2] w fun e w' => ∃ A n c, e = .returned (.tuple #[.agg #[.slice A n c, .int .i64 7], .agg #[.int .i64 0, .int .i64 0]]) ∧ Rd w' A n c (bcells (pack [0, 1, 0, 1, 0, 1, 0])) ∧ Below w.heap.size w w' := by
  refine (agamma_ok A n c [0, 1, 0, 1] 2 _ w h (Nat.le_refl _) (Is01.of_mem (by decide)) (by decide) (by decide) (by decide) (by decide)).mono ?_
  rintro e w' ⟨A, n, c, rfl, ho, hb⟩
  exact ⟨A, n, c, rfl, Rd.own ho, hb⟩
theorem text_ex (A : Option Addr) (n c : Nat) (w : World) (h : Rd w A n c (bcells (pack [0, 1, 0, 1, 0, 1, 0]))) :
    Calls Try.prog 12 #[.agg #[.slice A n c, .int .i64 7]] w fun e w' => e = .returned (.tuple #[.string ⟨#[48, 49, 48, 49, 48, 49, 48]⟩, .agg #[.int .i64 0, .int .i64 0]]) ∧ Below w.heap.size w w' :=
  text_ok A n c [0, 1, 0, 1, 0, 1, 0] _ w h (Nat.le_refl _) (Is01.of_mem (by decide)) (by decide)
theorem gsize_ex (w : World) : Calls Try.prog 21 #[.int .i64 4] w fun e w' => e = .returned (.int .i64 5) ∧ w = w' :=
  (gsize_pos 4 w (by decide) (by decide)).mono fun e w' h => ⟨h.1, h.2.symm⟩
theorem valid_ex (A : Option Addr) (n c : Nat) (w : World) (h : Rd w A n c (bcells (pack [1, 0, 0, 1, 0, 1]))) :
    Calls Try.prog 15 #[.agg #[.slice A n c, .int .i64 6]] w fun e w' => e = .returned (.bool true) ∧ Below w.heap.size w w' :=
  valid_list A n c [1, 0, 0, 1, 0, 1] _ w h (Nat.le_refl _) (Is01.of_mem (by decide)) (by decide)
theorem valid_ex2 (A : Option Addr) (n c : Nat) (w : World) (h : Rd w A n c (bcells [16])) :
    Calls Try.prog 15 #[.agg #[.slice A n c, .int .i64 3]] w fun e w' => e = .returned (.bool false) ∧ Below w.heap.size w w' :=
  valid_no A n c [16] 3 _ w h (Nat.le_refl _) (by unfold Ok; decide)
set_option maxHeartbeats 1600000 in
theorem strings_true (w : World) : Calls Try.prog 14 #[] w fun e w' => e = .returned (.bool true) ∧ Below w.heap.size w w' := by
  go_enter Try.func14, Try.ntmps14
  go_wp2_with fail
  refine (make_ex _).mono ?_
  rintro e w1 ⟨Ab, nb, cb, rfl, Rb, y1⟩
  have B1 := (Two.new w1 24 (.slice Ab nb cb) (.int .i64 6)).alloc (.cells #[.int .i64 0, .int .i64 0] 26)
  have F1 := Two.new1 w1 (.cells #[.slice Ab nb cb, .int .i64 6] 24) 26 (.int .i64 0) (.int .i64 0)
  have Y1 := (y1.alloc y1.size (.cells #[.slice Ab nb cb, .int .i64 6] 24)).alloc (by simp; have := y1.size; omega) (.cells #[.int .i64 0, .int .i64 0] 26)
  go_wp2_with fail
  refine (rgamma_ex _ _ _ _ ((Rb.alloc _).alloc _)).mono ?_
  rintro e w2 ⟨rfl, y2⟩
  have B2 := (B1.on y2).alloc (.cells #[.int .i64 0, .int .i64 0] 26)
  have F2 := (F1.on y2).alloc (.cells #[.int .i64 0, .int .i64 0] 26)
  have R2 := (((Rb.alloc _).alloc _).on y2).alloc (.cells #[.int .i64 0, .int .i64 0] 26)
  have G2 := Two.new w2 26 (.int .i64 0) (.int .i64 0)
  have Z2 := Y1.trans (y2.mono Y1.size)
  have Y2 := Z2.alloc Z2.size (.cells #[.int .i64 0, .int .i64 0] 26)
  clear B1 F1 Rb
  go_wp2_with fail
  refine (append_ex _).mono ?_
  rintro e w3 ⟨Ac, nc, cc, rfl, Rc, y3⟩
  have B3 := ((B2.on y3).alloc (.cells #[.slice Ac nc cc, .int .i64 4] 24)).alloc (.cells #[.int .i64 0, .int .i64 0] 26)
  have F3 := ((F2.on y3).alloc (.cells #[.slice Ac nc cc, .int .i64 4] 24)).alloc (.cells #[.int .i64 0, .int .i64 0] 26)
  have R3 := ((R2.on y3).alloc (.cells #[.slice Ac nc cc, .int .i64 4] 24)).alloc (.cells #[.int .i64 0, .int .i64 0] 26)
  have G3 := ((G2.on y3).alloc (.cells #[.slice Ac nc cc, .int .i64 4] 24)).alloc (.cells #[.int .i64 0, .int .i64 0] 26)
  have E3 := Two.new1 w3 (.cells #[.slice Ac nc cc, .int .i64 4] 24) 26 (.int .i64 0) (.int .i64 0)
  have Z3 := Y2.trans (y3.mono Y2.size)
  have Y3 := (Z3.alloc Z3.size (.cells #[.slice Ac nc cc, .int .i64 4] 24)).alloc (by simp; have := Z3.size; omega) (.cells #[.int .i64 0, .int .i64 0] 26)
  clear B2 F2 R2 G2
  go_wp2_with fail
  refine (agamma_ex _ _ _ _ ((Rc.alloc _).alloc _)).mono ?_
  rintro e w4 ⟨Ad, nd, cd, rfl, Rd4, y4⟩
  have B4 := ((B3.on y4).alloc (.cells #[.slice Ad nd cd, .int .i64 7] 24)).alloc (.cells #[.int .i64 0, .int .i64 0] 26)
  have F4 := ((F3.on y4).alloc (.cells #[.slice Ad nd cd, .int .i64 7] 24)).alloc (.cells #[.int .i64 0, .int .i64 0] 26)
  have R4 := ((R3.on y4).alloc (.cells #[.slice Ad nd cd, .int .i64 7] 24)).alloc (.cells #[.int .i64 0, .int .i64 0] 26)
  have G4 := ((G3.on y4).alloc (.cells #[.slice Ad nd cd, .int .i64 7] 24)).alloc (.cells #[.int .i64 0, .int .i64 0] 26)
  have E4 := ((E3.on y4).alloc (.cells #[.slice Ad nd cd, .int .i64 7] 24)).alloc (.cells #[.int .i64 0, .int .i64 0] 26)
  have K4 := Two.new1 w4 (.cells #[.slice Ad nd cd, .int .i64 7] 24) 26 (.int .i64 0) (.int .i64 0)
  have Z4 := Y3.trans (y4.mono Y3.size)
  have Y4 := (Z4.alloc Z4.size (.cells #[.slice Ad nd cd, .int .i64 7] 24)).alloc (by simp; have := Z4.size; omega) (.cells #[.int .i64 0, .int .i64 0] 26)
  clear B3 F3 R3 G3 E3
  go_wp2_with fail
  refine (text_ex _ _ _ _ ((Rd4.alloc _).alloc _)).mono ?_
  rintro e w5 ⟨rfl, y5⟩
  have B5 := (B4.on y5).alloc (.cells #[.int .i64 0, .int .i64 0] 26)
  have F5 := (F4.on y5).alloc (.cells #[.int .i64 0, .int .i64 0] 26)
  have R5 := (R4.on y5).alloc (.cells #[.int .i64 0, .int .i64 0] 26)
  have G5 := (G4.on y5).alloc (.cells #[.int .i64 0, .int .i64 0] 26)
  have E5 := (E4.on y5).alloc (.cells #[.int .i64 0, .int .i64 0] 26)
  have K5 := (K4.on y5).alloc (.cells #[.int .i64 0, .int .i64 0] 26)
  have Z5 := Y4.trans (y5.mono Y4.size)
  have Y5 := Z5.alloc Z5.size (.cells #[.int .i64 0, .int .i64 0] 26)
  have f0 := F5.c0
  have g0 := G5.c0
  have e0 := E5.c0
  have k0 := K5.c0
  have b0 := B5.c0
  have b1 := B5.c1
  clear B4 F4 R4 G4 E4 K4
  go_wp2_with fail
  refine (gsize_ex _).mono ?_
  rintro e w9 ⟨rfl, rfl⟩
  go_wp2_with fail
  refine (valid_ex _ _ _ _ R5).mono ?_
  rintro e w7 ⟨rfl, y7⟩
  have Z7 := Y5.trans (y7.mono Y5.size)
  go_wp2_with fail
  refine (valid_ex2 _ _ _ _ (Rd.own (World.ownsRow_lit (base := 0) (e := 5) (size := 1) w7 #[.int .u8 16] 1 (Nat.zero_le _) (by decide) rfl))).mono ?_
  rintro e w8 ⟨rfl, y8⟩
  go_wp2
  go_ret
  exact ⟨rfl, (Z7.alloc Z7.size _).trans (y8.mono (by simp; have := Z7.size; omega))⟩
end PB
end Go.Proofs.Ytcmglfgibedpbaa
