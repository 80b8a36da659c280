/-
  The closed examples of package bits answer true (the helper strings of the statements); SameBytes, SameBits, In, At of the reference.
-/
import Derived.Test.YtnnpkajmheglgaaRows
import Derived.Test.YtnnpkajmheglgaaBitsMake
import Derived.Test.YtnnpkajmheglgaaBitsText
import Derived.Test.YtnnpkajmheglgaaBitsGamma
import Derived.Test.YtnnpkajmheglgaaBitsRGamma
import Derived.Test.YtnnpkajmheglgaaBitsAppend
import Derived.WalkKit
import Derived.WalkSpells
import Derived.WalkLawsBesides
import Derived.Lib.Hide
namespace Go.Proofs.Ytnnpkajmheglgaa
open Go.RowKit
set_option linter.unusedVariables false
set_option linter.unusedSimpArgs false
namespace PB
/-- A slice that can be read, somewhere in memory. -/
def Rd (w : World) (A : Option Addr) (n c : Nat) (xs : List Value) : Prop := Reads w w.heap.size A n c xs
section
variable {w w' : World} {A : Option Addr} {n c : Nat} {xs : List Value}
theorem Rd.on (h : Rd w A n c xs) (hb : Below w.heap.size w w') : Rd w' A n c xs := (Reads.on h (Nat.le_refl _) hb).more hb.size
theorem Rd.alloc (h : Rd w A n c xs) (o : Obj) : Rd (w.alloc o) A n c xs := (Reads.alloc h (Nat.le_refl _) o).more (by simp)
theorem Rd.drew (h : Rd w A n c xs) : Rd w.drew A n c xs := h
theorem Rd.own {base : Nat} {e : TypeId} (h : w.ownsRow base e 1 (.slice A n c) n xs) : Rd w A n c xs := by
  obtain ⟨A', c', hv, hr⟩ := Reads.of_own h
  cases hv
  exact hr
theorem Two.new1 (w : World) (o : Obj) (t : TypeId) (v0 v1 : Value) : Two ((w.alloc o).alloc (.cells #[v0, v1] t)) (w.heap.size + 1) t v0 v1 := by
  simpa using Two.new (w.alloc o) t v0 v1
end
theorem in_yes (n low high : Int) (w : World) (h1 : low ≤ n) (h2 : n ≤ high) :
    Calls Try.prog 20 #[.int .i64 n, .int .i64 low, .int .i64 high] w fun e w' => e = .returned (.bool true) ∧ w = w' := by
  go_enter Try.func20, Try.ntmps20
  go_wp2
  go_ret
  exact ⟨by simp [h2], rfl⟩
theorem in_no (n low high : Int) (w : World) (h1 : n < low ∨ high < n) :
    Calls Try.prog 20 #[.int .i64 n, .int .i64 low, .int .i64 high] w fun e w' => e = .returned (.bool false) ∧ w = w' := by
  by_cases hl : n < low
  · have q : decide (low ≤ n) = false := by simpa using hl
    go_enter Try.func20, Try.ntmps20
    go_wp2
    go_ret
    exact ⟨rfl, rfl⟩
  · have q : decide (low ≤ n) = true := by simp; omega
    have q2 : decide (n ≤ high) = false := by simp; omega
    go_enter Try.func20, Try.ntmps20
    go_wp2
    go_ret
    exact ⟨rfl, rfl⟩
theorem refat_any (code index : Int) (w : World) :
    Calls Try.prog 19 #[.int .i64 code, .int .i64 index] w fun e w' => e = .returned (.agg #[.int .i64 code, .int .i64 index]) ∧ Below w.heap.size w w' := by
  go_enter Try.func19, Try.ntmps19
  go_wp2
  refine bodyPost_ret (v := .agg #[.int .i64 code, .int .i64 index]) (by simp [results, Try.results19, go_sem]) rfl ⟨rfl, ?_⟩
  exact (Below.refl _ _).alloc (Nat.le_refl _) _
theorem samebytes_any (A : Option Addr) (n c : Nat) (d : List Nat) (A2 : Option Addr) (n2 c2 : Nat) (d2 : List Nat) (w : World) (h : Rd w A n c (bcells d)) (h2 : Rd w A2 n2 c2 (bcells d2))
    (hd : ∀ k, d.getD k 0 < 256) (hd2 : ∀ k, d2.getD k 0 < 256) :
    Calls Try.prog 45 #[.slice A n c, .slice A2 n2 c2] w fun e w' => e = .returned (.bool (decide (d = d2))) ∧ w = w' := by
  have hcv := run_bytes_str (P := Try.prog) 23 9 5 Try.underlying23 Try.underlying5 Try.underlying9 h
  have hcv2 := run_bytes_str (P := Try.prog) 23 9 5 Try.underlying23 Try.underlying5 Try.underlying9 h2
  go_enter Try.func45, Try.ntmps45
  go_wp2
  go_ret
  refine ⟨ret_bool ?_, rfl⟩
  rw [bstr_toList, bstr_toList, Bool.eq_iff_iff]
  simp only [beq_iff_eq, decide_eq_true_eq]
  exact ⟨map_ofNat_inj d d2 hd hd2, fun h => by rw [h]⟩
theorem samebits_any (A : Option Addr) (n c : Nat) (d : List Nat) (cnt : Int) (A2 : Option Addr) (n2 c2 : Nat) (d2 : List Nat) (cnt2 : Int) (w : World) (h : Rd w A n c (bcells d)) (h2 : Rd w A2 n2 c2 (bcells d2))
    (hd : ∀ k, d.getD k 0 < 256) (hd2 : ∀ k, d2.getD k 0 < 256) (r : Bool) (hr : r = (decide (cnt = cnt2) && decide (d = d2))) :
    Calls Try.prog 14 #[.agg #[.slice A n c, .int .i64 cnt], .agg #[.slice A2 n2 c2, .int .i64 cnt2]] w fun e w' => e = .returned (.bool r) ∧ Below w.heap.size w w' := by
  by_cases hc : cnt = cnt2
  · have q : (cnt == cnt2) = true := by simpa using hc
    have HR := Lib.hid hr
    have HC := Lib.hid hc
    clear hr hc
    go_enter Try.func14, Try.ntmps14
    go_wp2_with (go_at_call 45; refine (samebytes_any A n c d A2 n2 c2 d2 _ ((h.alloc _).alloc _) ((h2.alloc _).alloc _) hd hd2).mono ?_; rintro e w' ⟨rfl, rfl⟩)
    go_ret
    refine ⟨ret_bool ?_, ((Below.refl _ _).alloc (Nat.le_refl _) _).alloc (by simp) _⟩
    rw [HR.out, HC.out]; simp
  · have q : (cnt == cnt2) = false := by simpa using hc
    have HR := Lib.hid hr
    have HC := Lib.hid hc
    clear hr hc
    go_enter Try.func14, Try.ntmps14
    go_wp2
    go_ret
    refine ⟨ret_bool ?_, ((Below.refl _ _).alloc (Nat.le_refl _) _).alloc (by simp) _⟩
    rw [HR.out]; simp [HC.out]

theorem make_ex (w : World) :
    Calls Try.prog 42 #[.string ⟨#[49, 48, 48, 49, 48, 49]⟩] w fun e w' => ∃ A n c, e = .returned (.tuple #[.agg #[.slice A n c, .int .i64 6], .agg #[.int .i64 0, .int .i64 0]]) ∧ Rd w' A n c (bcells (pack [1, 0, 0, 1, 0, 1])) ∧ Below w.heap.size w w' := by
  refine (make_upto ⟨#[49, 48, 48, 49, 48, 49]⟩ 6 w (by decide) (by intro i h; revert i; decide) (by decide) (fun h => absurd h (by decide))).mono ?_
  rintro e w' (⟨h, _⟩ | ⟨_, A, n, c, rfl, ho, hb⟩)
  · exact absurd h (by decide)
  · exact ⟨A, n, c, rfl, Rd.own ho, hb⟩
theorem text_ex (A : Option Addr) (n c : Nat) (w : World) (h : Rd w A n c (bcells (pack [0, 1, 0, 1, 0, 1, 0]))) :
    Calls Try.prog 44 #[.agg #[.slice A n c, .int .i64 7]] w fun e w' => e = .returned (.tuple #[.string ⟨#[48, 49, 48, 49, 48, 49, 48]⟩, .agg #[.int .i64 0, .int .i64 0]]) ∧ Below w.heap.size w w' :=
  text_ok A n c [0, 1, 0, 1, 0, 1, 0] _ w h (Nat.le_refl _) (Is01.of_mem (by decide)) (by decide)
theorem valid_ex (A : Option Addr) (n c : Nat) (w : World) (h : Rd w A n c (bcells (pack [1, 0, 0, 1, 0, 1]))) :
    Calls Try.prog 46 #[.agg #[.slice A n c, .int .i64 6]] w fun e w' => e = .returned (.bool true) ∧ Below w.heap.size w w' :=
  valid_list A n c [1, 0, 0, 1, 0, 1] _ w h (Nat.le_refl _) (Is01.of_mem (by decide)) (by decide)
theorem valid_ex2 (A : Option Addr) (n c : Nat) (w : World) (h : Rd w A n c (bcells [16])) :
    Calls Try.prog 46 #[.agg #[.slice A n c, .int .i64 3]] w fun e w' => e = .returned (.bool false) ∧ Below w.heap.size w w' :=
  valid_no A n c [16] 3 _ w h (Nat.le_refl _) (by unfold Ok; decide)
end PB
end Go.Proofs.Ytnnpkajmheglgaa
