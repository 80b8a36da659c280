/-
  package rank: rank, Validate, Build; the reference's VectorOf, SameVector, VectorOk.
-/
import Derived.Test.YtckimocmppdecaaRows
import Derived.Test.YtckimocmppdecaaRankA
import Derived.Deep.RegionHeld3
import Derived.Deep.DrawnRows
namespace Go.Proofs.Ytckimocmppdecaa
open Go.RowKit
attribute [local go_sem ↓] Go.wp_at_zero Go.wp_at_succ
set_option linter.unusedVariables false
set_option linter.unusedSimpArgs false
namespace PB
/-- rank.fault. -/
theorem rfault_any (code index : Int) (w : World) :
    Calls Try.prog 30 #[.int .i64 code, .int .i64 index] w fun e w' => e = .returned (.agg #[.int .i64 code, .int .i64 index]) ∧ Below w.heap.size w w' := by
  go_enter Try.func30, Try.ntmps30
  go_wp2
  refine bodyPost_ret (v := .agg #[.int .i64 code, .int .i64 index]) (by simp [results, Try.results30, go_sem]) rfl ⟨rfl, ?_⟩
  exact (Below.refl _ _).alloc (Nat.le_refl _) _
theorem ncells_icells (l : List Nat) : ncells l = icells (l.map fun x : Nat => (x : Int)) := by simp [ncells, icells]
/-- The sums of a vector, as ints. -/
def isums (l : List Nat) : List Int := (sumsL l).map fun x : Nat => (x : Int)
theorem isums_cells (l : List Nat) : ncells (sumsL l) = icells (isums l) := ncells_icells _
set_option maxHeartbeats 800000 in
/-- rank.rank: the ones before a position, from the sums. -/
theorem rrank_any {A : Option Addr} {n c : Nat} {l : List Nat} {A2 : Option Addr} {n2 c2 : Nat} {w : World} (h : Rd w A n c (bcells (pack l))) (h2 : Rd w A2 n2 c2 (ncells (sumsL l))) (h01 : Is01 l) (hl : l.length ≤ 131072) (i : Nat) (ii : Int) (hii : ii = (i : Nat)) (hi : i ≤ l.length) (ci : Int) (r : Nat) (hr : r = ones (l.take i)) :
    Calls Try.prog 36 #[.agg #[.slice A n c, .int .i64 ci], .slice A2 n2 c2, .int .i64 ii] w fun e w' => e = .returned (.int .i64 (r : Nat)) ∧ Below w.heap.size w w' := by
  subst hii
  have hn2 := h2.len
  rw [ncells_length, sumsL_length] at hn2
  have hcap := Reads.cap h2
  have hcm := Reads.capMax h2
  unfold maxLen at hcm
  have B0 := Two.new w 24 (.slice A n c) (.int .i64 ci)
  have y0 : Below w.heap.size w (w.alloc (.cells #[.slice A n c, .int .i64 ci] 24)) := (Below.refl _ _).alloc (Nat.le_refl _) _
  obtain ⟨g, off, rfl, hg, hc⟩ := (h2.alloc (.cells #[.slice A n c, .int .i64 ci] 24)).2.2.2 (by omega)
  have hcell := hc (i / 64) _ (ncells_get _ (i / 64) (by rw [sumsL_length]; omega))
  rw [sumsL_getD l (i / 64) (by omega)] at hcell
  obtain ⟨T0, hT0⟩ : ∃ T0, T0 = ones (l.take (64 * (i / 64))) := ⟨_, rfl⟩
  rw [← hT0] at hcell
  have HT0 := Lib.hid hT0
  have H01 := Lib.hid h01
  have HON := Lib.hid (fun k => ones_take_le2 h01 k)
  have HR := Lib.hid hr
  have hidx : i / 64 < n2 := by omega
  obtain ⟨n2', hn2'⟩ : ∃ m, m = n2 := ⟨_, rfl⟩
  have HN2 := Lib.hid hn2
  clear hc hT0 h01 hr h2 hn2
  go_enter Try.func36, Try.ntmps36
  go_wp2
  go_loopw [7, 8] (fun t k wr => ∃ j : Nat, 64 * (i / 64) + j ≤ i ∧ k = .int .i64 ((64 * (i / 64) + j : Nat) : Int) ∧ t = .int .i64 (ones (l.take (64 * (i / 64) + j)) : Nat) ∧ Two wr w.heap.size 24 (.slice A n c) (.int .i64 ci) ∧ Below w.heap.size w wr) (fun _ k _ => i - (intOf k).toNat)
  case atStart => exact ⟨0, by omega, congrArg (Value.int .i64) (by omega), congrArg (Value.int .i64) (by rw [HT0.out]; rfl), B0, y0⟩
  case round =>
    obtain ⟨j, hj, rfl, rfl, BR, yr⟩ := hrel
    clear B0 y0 hcell
    obtain ⟨k, hk⟩ : ∃ k, k = 64 * (i / 64) + j := ⟨_, rfl⟩
    rw [← hk] at hj ⊢
    have HK := Lib.hid hk
    clear hk
    have hT := HON.out k
    obtain ⟨T, hTT⟩ : ∃ T, T = ones (l.take k) := ⟨_, rfl⟩
    rw [← hTT] at hT ⊢
    have HT := Lib.hid hTT
    clear hTT
    have m0 := BR.c0
    have m1 := BR.c1
    by_cases hlt : k < i
    · obtain ⟨b, hb⟩ : ∃ b, b = l.getD k 0 := ⟨_, rfl⟩
      have hb2 : b < 2 := by rw [hb]; exact H01.out _
      have hkl : k < l.length := by omega
      have HO := Lib.hid (show ones (l.take (k + 1)) = T + b by rw [ones_take_succ l k hkl, HT.out, hb])
      have HBit := Lib.hid (fun W (hW : Rd W A n c (bcells (pack l))) => rbit_any A n c l ci k b _ rfl W hW H01.out hkl hb)
      have R4 : Rd wr A n c (bcells (pack l)) := h.on yr
      clear hb
      go_wp2_with fail
      refine (HBit.out _ R4).mono ?_
      rintro e w5 ⟨rfl, y5⟩
      go_wp2
      go_roundw
      case rel => exact ⟨j + 1, by have := HK.out; omega, congrArg (Value.int .i64) (by have := HK.out; omega), congrArg (Value.int .i64) (by rw [show 64 * (i / 64) + (j + 1) = k + 1 by have := HK.out; omega, HO.out]; omega), BR.on y5, yr.trans (y5.mono yr.size)⟩
      case measure => simp [intOf]; omega
    · obtain rfl : k = i := by omega
      go_wp2
      go_ret
      exact ⟨ret_int (by rw [HR.out, HT.out]), yr⟩
/-- A variable of type api.Vector. -/
def VOk (d : List Nat) (cnt : Int) (zs : List Int) : Prop := ∃ l : List Nat, Is01 l ∧ l.length ≤ 131072 ∧ d = pack l ∧ cnt = (l.length : Nat) ∧ zs = isums l
set_option maxHeartbeats 1600000 in
theorem validate_ok {A : Option Addr} {n c : Nat} {l : List Nat} {A2 : Option Addr} {n2 c2 : Nat} {zs : List Int} {w : World} (h : Rd w A n c (bcells (pack l))) (h2 : Rd w A2 n2 c2 (icells zs)) (h01 : Is01 l) (hl : l.length ≤ 131072) (code idx : Int) (hr : (zs = isums l ∧ code = 0 ∧ idx = 0) ∨ (zs ≠ isums l ∧ code = 6 ∧ idx = -1)) :
    Calls Try.prog 9 #[.agg #[.slice A n c, .int .i64 (l.length : Nat), .slice A2 n2 c2]] w fun e w' => e = .returned (.agg #[.int .i64 code, .int .i64 idx]) ∧ Below w.heap.size w w' := by
  have V0 := (Three.new w 27 (.slice A n c) (.int .i64 (l.length : Nat)) (.slice A2 n2 c2)).alloc (.cells #[.int .i64 0, .int .i64 0] 29)
  have F0 := Two.new1 w (.cells #[.slice A n c, .int .i64 (l.length : Nat), .slice A2 n2 c2] 27) 29 (.int .i64 0) (.int .i64 0)
  have y0 : Below w.heap.size w ((w.alloc (.cells #[.slice A n c, .int .i64 (l.length : Nat), .slice A2 n2 c2] 27)).alloc (.cells #[.int .i64 0, .int .i64 0] 29)) := ((Below.refl _ _).alloc (Nat.le_refl _) _).alloc (by simp) _
  have R0 := (h.alloc (.cells #[.slice A n c, .int .i64 (l.length : Nat), .slice A2 n2 c2] 27)).alloc (.cells #[.int .i64 0, .int .i64 0] 29)
  have S0 := (h2.alloc (.cells #[.slice A n c, .int .i64 (l.length : Nat), .slice A2 n2 c2] 27)).alloc (.cells #[.int .i64 0, .int .i64 0] 29)
  have H01 := Lib.hid h01
  obtain ⟨r, hrr⟩ : ∃ r : Bool, r = decide (zs = isums l) := ⟨_, rfl⟩
  have HRR := Lib.hid hrr
  have HSM := Lib.hid (fun W (hW : Rd W A n c (bcells (pack l))) => sums_any hW H01.out hl (l.length : Nat) rfl)
  rw [isums_cells] at HSM
  have HR := Lib.hid hr
  have b0 := V0.c0
  have b1 := V0.c1
  have b2 := V0.c2
  clear h01 hrr hr
  go_enter Try.func9, Try.ntmps9
  go_wp2_with fail
  go_region_held3 (fun w' => w'.cell? ⟨w.heap.size, 0, none⟩ = some (.slice A n c) ∧ w'.cell? ⟨w.heap.size, 1, none⟩ = some (.int .i64 (l.length : Nat)) ∧ w'.cell? ⟨w.heap.size, 2, none⟩ = some (.slice A2 n2 c2)) (go_keep)
    (first
      | (go_at_call 29; refine (valid_list A n c l _ _ (Rd.drew R0) (Nat.le_refl _) H01.out hl).mono ?_; rintro e w1 ⟨rfl, y1⟩; have V1 := Three.on (w := ((w.alloc (.cells #[.slice A n c, .int .i64 (l.length : Nat), .slice A2 n2 c2] 27)).alloc (.cells #[.int .i64 0, .int .i64 0] 29)).drew) V0 y1; have p0 := V1.c0; have p1 := V1.c1; have p2 := V1.c2)
      | (go_at_call 32; refine (HSM.out _ (Rd.on (w := ((w.alloc (.cells #[.slice A n c, .int .i64 (l.length : Nat), .slice A2 n2 c2] 27)).alloc (.cells #[.int .i64 0, .int .i64 0] 29)).drew) R0 y1)).mono ?_; rintro e w2 ⟨As, cs, rfl, os, y2⟩; have V2 := V1.on y2; have q0 := V2.c0; have q1 := V2.c1; have q2 := V2.c2)
      | (go_at_call 33; refine (equal_any ((Rd.on (w := ((w.alloc (.cells #[.slice A n c, .int .i64 (l.length : Nat), .slice A2 n2 c2] 27)).alloc (.cells #[.int .i64 0, .int .i64 0] 29)).drew) S0 y1).on y2) (Rd.own os) r HRR.out).mono ?_; rintro e w3 ⟨rfl, y3⟩; have V3 := V2.on y3; have s0 := V3.c0; have s1 := V3.c1; have s2 := V3.c2))
  have Y1 := (belowD y0).trans (y1.mono (belowD y0).size)
  have Y2 := Y1.trans (y2.mono Y1.size)
  have Y3 := Y2.trans (y3.mono Y2.size)
  have F1 := Two.on (w := ((w.alloc (.cells #[.slice A n c, .int .i64 (l.length : Nat), .slice A2 n2 c2] 27)).alloc (.cells #[.int .i64 0, .int .i64 0] 29)).drew) F0 y1
  have F3 := (F1.on y2).on y3
  clear p0 p1 p2 q0 q1 q2 V1 V2 b0 b1 b2 y0
  obtain ⟨f0, f1, f2, f3, f4⟩ := F3.facts
  rcases HR.out with ⟨hz, rfl, rfl⟩ | ⟨hz, rfl, rfl⟩
  · have hrt : r = true := by rw [HRR.out]; simpa using hz
    clear hz
    subst hrt
    go_wp2
    have hB := (F3.set0 (.int .i64 0)).set1 (.int .i64 0)
    have r0 := hB.c0
    have r1 := hB.c1
    exact bodyPost_ret (v := .agg #[.int .i64 0, .int .i64 0]) (by simp [results, Try.results9, go_sem, r0, r1]) rfl ⟨rfl, (Y3.setCell (by simp) _).setCell (by simp) _⟩
  · have hrt : r = false := by rw [HRR.out]; simpa using hz
    clear hz
    subst hrt
    go_wp2_with fail
    refine (rfault_any _ _ _).mono ?_
    rintro e w4 ⟨rfl, y4⟩
    have Y4 := Y3.trans (y4.mono Y3.size)
    have F4 := F3.on y4
    clear f0 f1 f2 f3 f4
    obtain ⟨f0, f1, f2, f3, f4⟩ := F4.facts
    go_wp2
    have hB := (F4.set0 (.int .i64 6)).set1 (.int .i64 (-1))
    have r0 := hB.c0
    have r1 := hB.c1
    exact bodyPost_ret (v := .agg #[.int .i64 6, .int .i64 (-1)]) (by simp [results, Try.results9, go_sem, r0, r1]) rfl ⟨rfl, (Y4.setCell (by simp) _).setCell (by simp) _⟩
end PB
end Go.Proofs.Ytckimocmppdecaa
