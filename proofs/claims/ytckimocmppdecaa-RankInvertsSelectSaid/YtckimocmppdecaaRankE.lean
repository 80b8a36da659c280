/-
  package rank: Rank, find, Select, SelectZero.
-/
import Derived.Test.YtckimocmppdecaaRows
import Derived.Test.YtckimocmppdecaaRankD
import Derived.RegionTactic
import Derived.BigRegion
namespace Go.Proofs.Ytckimocmppdecaa
open Go.RowKit
attribute [local go_sem ↓] Go.wp_at_zero Go.wp_at_succ
set_option linter.unusedVariables false
set_option linter.unusedSimpArgs false
namespace PB
/-- A vector that is not valid. -/
def VNo (d : List Nat) (cnt : Int) (zs : List Int) : Prop := ¬ Ok d cnt ∨ ∃ l : List Nat, Is01 l ∧ l.length ≤ 131072 ∧ d = pack l ∧ cnt = (l.length : Nat) ∧ zs ≠ isums l
theorem vector_cases (d : List Nat) (cnt : Int) (zs : List Int) (hd : ∀ k, d.getD k 0 < 256) : VNo d cnt zs ∨ VOk d cnt zs := by
  by_cases h : Ok d cnt
  · obtain ⟨l, g1, g2, g3, g4⟩ := h.list hd
    by_cases hz : zs = isums l
    · exact .inr ⟨l, g1, g2, g3, g4, hz⟩
    · exact .inl (.inr ⟨l, g1, g2, g3, g4, hz⟩)
  · exact .inl (.inl h)
theorem validate_bad {A : Option Addr} {n c : Nat} {d : List Nat} {cnt : Int} {A2 : Option Addr} {n2 c2 : Nat} {zs : List Int} {w : World} (h : Rd w A n c (bcells d)) (h2 : Rd w A2 n2 c2 (icells zs)) (hV : VNo d cnt zs) :
    Calls Try.prog 9 #[.agg #[.slice A n c, .int .i64 cnt, .slice A2 n2 c2]] w fun e w' => e = .returned (.agg #[.int .i64 6, .int .i64 (-1)]) ∧ Below w.heap.size w w' := by
  rcases hV with h0 | ⟨l, g1, g2, rfl, rfl, hz⟩
  · exact validate_no h h0
  · exact validate_ok h h2 g1 g2 6 (-1) (.inr ⟨hz, rfl, rfl⟩)
theorem validate_good {A : Option Addr} {n c : Nat} {l : List Nat} {A2 : Option Addr} {n2 c2 : Nat} {w : World} (h : Rd w A n c (bcells (pack l))) (h2 : Rd w A2 n2 c2 (ncells (sumsL l))) (h01 : Is01 l) (hl : l.length ≤ 131072) :
    Calls Try.prog 9 #[.agg #[.slice A n c, .int .i64 (l.length : Nat), .slice A2 n2 c2]] w fun e w' => e = .returned (.agg #[.int .i64 0, .int .i64 0]) ∧ Below w.heap.size w w' := by
  rw [isums_cells] at h2
  exact validate_ok h h2 h01 hl 0 0 (.inl ⟨rfl, rfl, rfl⟩)
set_option maxHeartbeats 1600000 in
theorem rk_bad {A : Option Addr} {n c : Nat} {d : List Nat} {cnt : Int} {A2 : Option Addr} {n2 c2 : Nat} {zs : List Int} {i : Int} {w : World} (h : Rd w A n c (bcells d)) (h2 : Rd w A2 n2 c2 (icells zs)) (hV : VNo d cnt zs) :
    Calls Try.prog 16 #[.agg #[.slice A n c, .int .i64 cnt, .slice A2 n2 c2], .int .i64 i] w fun e w' => e = .returned (.tuple #[.int .i64 0, .agg #[.int .i64 6, .int .i64 (-1)]]) ∧ Below w.heap.size w w' := by
  have V0 := (Three.new w 27 (.slice A n c) (.int .i64 cnt) (.slice A2 n2 c2)).alloc (.cells #[.int .i64 0, .int .i64 0] 29)
  have F0 := Two.new1 w (.cells #[.slice A n c, .int .i64 cnt, .slice A2 n2 c2] 27) 29 (.int .i64 0) (.int .i64 0)
  have y0 : Below w.heap.size w ((w.alloc (.cells #[.slice A n c, .int .i64 cnt, .slice A2 n2 c2] 27)).alloc (.cells #[.int .i64 0, .int .i64 0] 29)) := ((Below.refl _ _).alloc (Nat.le_refl _) _).alloc (by simp) _
  have R0 := (h.alloc (.cells #[.slice A n c, .int .i64 cnt, .slice A2 n2 c2] 27)).alloc (.cells #[.int .i64 0, .int .i64 0] 29)
  have S0 := (h2.alloc (.cells #[.slice A n c, .int .i64 cnt, .slice A2 n2 c2] 27)).alloc (.cells #[.int .i64 0, .int .i64 0] 29)
  have HV := Lib.hid hV
  clear hV
  go_enter Try.func16, Try.ntmps16
  go_wp2_with fail
  refine (validate_bad R0 S0 HV.out).mono ?_
  rintro e w1 ⟨rfl, y1⟩
  have Y1 := y0.trans (y1.mono y0.size)
  have F1 := (F0.on y1).alloc (.cells #[.int .i64 6, .int .i64 (-1)] 29)
  have G1 := Two.new w1 29 (.int .i64 6) (.int .i64 (-1))
  have Y1a := Y1.alloc Y1.size (.cells #[.int .i64 6, .int .i64 (-1)] 29)
  have hs := y1.size
  simp at hs
  obtain ⟨f0, f1, f2, f3, f4⟩ := F1.facts
  obtain ⟨g0, g1, g2, g3, g4⟩ := G1.facts
  have ne1 : w1.heap.size ≠ w.heap.size + 1 := by omega
  have ne2 : w.heap.size + 1 ≠ w1.heap.size := by omega
  go_wp2_with fail
  go_region
  go_wp2
  have hF := (F1.set0 (.int .i64 6)).set1 (.int .i64 (-1))
  have r0 := hF.c0
  have r1 := hF.c1
  exact bodyPost_ret (v := .tuple #[.int .i64 0, .agg #[.int .i64 6, .int .i64 (-1)]]) (by simp [results, Try.results16, go_sem, r0, r1]) rfl ⟨rfl, belowD ((Y1a.setCell (p := ⟨w.heap.size + 1, 0, none⟩) (by simp) (.int .i64 6)).setCell (p := ⟨w.heap.size + 1, 1, none⟩) (by simp) (.int .i64 (-1)))⟩
set_option maxHeartbeats 1600000 in
theorem fd_bad {A : Option Addr} {n c : Nat} {d : List Nat} {cnt : Int} {A2 : Option Addr} {n2 c2 : Nat} {zs : List Int} {k v : Int} {w : World} (h : Rd w A n c (bcells d)) (h2 : Rd w A2 n2 c2 (icells zs)) (hV : VNo d cnt zs) :
    Calls Try.prog 37 #[.agg #[.slice A n c, .int .i64 cnt, .slice A2 n2 c2], .int .i64 k, .int .i64 v] w fun e w' => e = .returned (.tuple #[.int .i64 0, .agg #[.int .i64 6, .int .i64 (-1)]]) ∧ Below w.heap.size w w' := by
  have V0 := (Three.new w 27 (.slice A n c) (.int .i64 cnt) (.slice A2 n2 c2)).alloc (.cells #[.int .i64 0, .int .i64 0] 29)
  have F0 := Two.new1 w (.cells #[.slice A n c, .int .i64 cnt, .slice A2 n2 c2] 27) 29 (.int .i64 0) (.int .i64 0)
  have y0 : Below w.heap.size w ((w.alloc (.cells #[.slice A n c, .int .i64 cnt, .slice A2 n2 c2] 27)).alloc (.cells #[.int .i64 0, .int .i64 0] 29)) := ((Below.refl _ _).alloc (Nat.le_refl _) _).alloc (by simp) _
  have R0 := (h.alloc (.cells #[.slice A n c, .int .i64 cnt, .slice A2 n2 c2] 27)).alloc (.cells #[.int .i64 0, .int .i64 0] 29)
  have S0 := (h2.alloc (.cells #[.slice A n c, .int .i64 cnt, .slice A2 n2 c2] 27)).alloc (.cells #[.int .i64 0, .int .i64 0] 29)
  have HV := Lib.hid hV
  clear hV
  go_enter Try.func37, Try.ntmps37
  go_wp2_with fail
  refine (validate_bad R0 S0 HV.out).mono ?_
  rintro e w1 ⟨rfl, y1⟩
  have Y1 := y0.trans (y1.mono y0.size)
  have F1 := (F0.on y1).alloc (.cells #[.int .i64 6, .int .i64 (-1)] 29)
  have G1 := Two.new w1 29 (.int .i64 6) (.int .i64 (-1))
  have Y1a := Y1.alloc Y1.size (.cells #[.int .i64 6, .int .i64 (-1)] 29)
  have hs := y1.size
  simp at hs
  obtain ⟨f0, f1, f2, f3, f4⟩ := F1.facts
  obtain ⟨g0, g1, g2, g3, g4⟩ := G1.facts
  have ne1 : w1.heap.size ≠ w.heap.size + 1 := by omega
  have ne2 : w.heap.size + 1 ≠ w1.heap.size := by omega
  go_wp2_with fail
  go_region
  go_wp2
  have hF := (F1.set0 (.int .i64 6)).set1 (.int .i64 (-1))
  have r0 := hF.c0
  have r1 := hF.c1
  exact bodyPost_ret (v := .tuple #[.int .i64 0, .agg #[.int .i64 6, .int .i64 (-1)]]) (by simp [results, Try.results37, go_sem, r0, r1]) rfl ⟨rfl, belowD ((Y1a.setCell (p := ⟨w.heap.size + 1, 0, none⟩) (by simp) (.int .i64 6)).setCell (p := ⟨w.heap.size + 1, 1, none⟩) (by simp) (.int .i64 (-1)))⟩
set_option maxHeartbeats 1600000 in
theorem rk_out {A : Option Addr} {n c : Nat} {l : List Nat} {A2 : Option Addr} {n2 c2 : Nat} {i : Int} (hi : i < 0 ∨ (l.length : Int) < i) {w : World} (h : Rd w A n c (bcells (pack l))) (h2 : Rd w A2 n2 c2 (ncells (sumsL l))) (h01 : Is01 l) (hl : l.length ≤ 131072) :
    Calls Try.prog 16 #[.agg #[.slice A n c, .int .i64 (l.length : Nat), .slice A2 n2 c2], .int .i64 i] w fun e w' => e = .returned (.tuple #[.int .i64 0, .agg #[.int .i64 4, .int .i64 (-2)]]) ∧ Below w.heap.size w w' := by
  have V0 := (Three.new w 27 (.slice A n c) (.int .i64 (l.length : Nat)) (.slice A2 n2 c2)).alloc (.cells #[.int .i64 0, .int .i64 0] 29)
  have F0 := Two.new1 w (.cells #[.slice A n c, .int .i64 (l.length : Nat), .slice A2 n2 c2] 27) 29 (.int .i64 0) (.int .i64 0)
  have y0 : Below w.heap.size w ((w.alloc (.cells #[.slice A n c, .int .i64 (l.length : Nat), .slice A2 n2 c2] 27)).alloc (.cells #[.int .i64 0, .int .i64 0] 29)) := ((Below.refl _ _).alloc (Nat.le_refl _) _).alloc (by simp) _
  have R0 := (h.alloc (.cells #[.slice A n c, .int .i64 (l.length : Nat), .slice A2 n2 c2] 27)).alloc (.cells #[.int .i64 0, .int .i64 0] 29)
  have S0 := (h2.alloc (.cells #[.slice A n c, .int .i64 (l.length : Nat), .slice A2 n2 c2] 27)).alloc (.cells #[.int .i64 0, .int .i64 0] 29)
  have H01 := Lib.hid h01
  clear h01
  go_enter Try.func16, Try.ntmps16
  go_wp2_with fail
  refine (validate_good R0 S0 H01.out hl).mono ?_
  rintro e w1 ⟨rfl, y1⟩
  have Y1 := (y0.trans (y1.mono y0.size)).alloc (Below.size (y0.trans (y1.mono y0.size))) (.cells #[.int .i64 0, .int .i64 0] 29)
  have V1 := (V0.on y1).alloc (.cells #[.int .i64 0, .int .i64 0] 29)
  have F1 := (F0.on y1).alloc (.cells #[.int .i64 0, .int .i64 0] 29)
  have R1 := (R0.on y1).alloc (.cells #[.int .i64 0, .int .i64 0] 29)
  have S1 := (S0.on y1).alloc (.cells #[.int .i64 0, .int .i64 0] 29)
  have v0 := V1.c0
  have v1 := V1.c1
  have v2 := V1.c2
  by_cases hi0 : i < 0
  · have q1 : decide (i < 0) = true := by simpa using hi0
    go_wp2_with fail
    refine (rfault_any _ _ _).mono ?_
    rintro e w2 ⟨rfl, y2⟩
    have Y2 := Y1.trans (y2.mono Y1.size)
    have F2 := F1.on y2
    obtain ⟨f0, f1, f2, f3, f4⟩ := F2.facts
    go_wp2
    have hF := (F2.set0 (.int .i64 4)).set1 (.int .i64 (-2))
    have r0 := hF.c0
    have r1 := hF.c1
    exact bodyPost_ret (v := .tuple #[.int .i64 0, .agg #[.int .i64 4, .int .i64 (-2)]]) (by simp [results, Try.results16, go_sem, r0, r1]) rfl ⟨rfl, (Y2.setCell (by simp) _).setCell (by simp) _⟩
  · have hi1 : (l.length : Int) < i := by omega
    have q1 : decide (i < 0) = false := by simpa using hi0
    go_wp2_with fail
    refine (rfault_any _ _ _).mono ?_
    rintro e w2 ⟨rfl, y2⟩
    have Y2 := Y1.trans (y2.mono Y1.size)
    have F2 := F1.on y2
    obtain ⟨f0, f1, f2, f3, f4⟩ := F2.facts
    go_wp2
    have hF := (F2.set0 (.int .i64 4)).set1 (.int .i64 (-2))
    have r0 := hF.c0
    have r1 := hF.c1
    exact bodyPost_ret (v := .tuple #[.int .i64 0, .agg #[.int .i64 4, .int .i64 (-2)]]) (by simp [results, Try.results16, go_sem, r0, r1]) rfl ⟨rfl, (Y2.setCell (by simp) _).setCell (by simp) _⟩
set_option maxHeartbeats 1600000 in
theorem rk_ok {A : Option Addr} {n c : Nat} {l : List Nat} {A2 : Option Addr} {n2 c2 : Nat} {i r : Nat} (hi : i ≤ l.length) (hr : r = ones (l.take i)) {w : World} (h : Rd w A n c (bcells (pack l))) (h2 : Rd w A2 n2 c2 (ncells (sumsL l))) (h01 : Is01 l) (hl : l.length ≤ 131072) :
    Calls Try.prog 16 #[.agg #[.slice A n c, .int .i64 (l.length : Nat), .slice A2 n2 c2], .int .i64 (i : Nat)] w fun e w' => e = .returned (.tuple #[.int .i64 (r : Nat), .agg #[.int .i64 0, .int .i64 0]]) ∧ Below w.heap.size w w' := by
  have V0 := (Three.new w 27 (.slice A n c) (.int .i64 (l.length : Nat)) (.slice A2 n2 c2)).alloc (.cells #[.int .i64 0, .int .i64 0] 29)
  have F0 := Two.new1 w (.cells #[.slice A n c, .int .i64 (l.length : Nat), .slice A2 n2 c2] 27) 29 (.int .i64 0) (.int .i64 0)
  have y0 : Below w.heap.size w ((w.alloc (.cells #[.slice A n c, .int .i64 (l.length : Nat), .slice A2 n2 c2] 27)).alloc (.cells #[.int .i64 0, .int .i64 0] 29)) := ((Below.refl _ _).alloc (Nat.le_refl _) _).alloc (by simp) _
  have R0 := (h.alloc (.cells #[.slice A n c, .int .i64 (l.length : Nat), .slice A2 n2 c2] 27)).alloc (.cells #[.int .i64 0, .int .i64 0] 29)
  have S0 := (h2.alloc (.cells #[.slice A n c, .int .i64 (l.length : Nat), .slice A2 n2 c2] 27)).alloc (.cells #[.int .i64 0, .int .i64 0] 29)
  have H01 := Lib.hid h01
  clear h01
  have HR := Lib.hid hr
  clear hr
  go_enter Try.func16, Try.ntmps16
  go_wp2_with fail
  refine (validate_good R0 S0 H01.out hl).mono ?_
  rintro e w1 ⟨rfl, y1⟩
  have Y1 := (y0.trans (y1.mono y0.size)).alloc (Below.size (y0.trans (y1.mono y0.size))) (.cells #[.int .i64 0, .int .i64 0] 29)
  have V1 := (V0.on y1).alloc (.cells #[.int .i64 0, .int .i64 0] 29)
  have F1 := (F0.on y1).alloc (.cells #[.int .i64 0, .int .i64 0] 29)
  have R1 := (R0.on y1).alloc (.cells #[.int .i64 0, .int .i64 0] 29)
  have S1 := (S0.on y1).alloc (.cells #[.int .i64 0, .int .i64 0] 29)
  have v0 := V1.c0
  have v1 := V1.c1
  have v2 := V1.c2
  go_wp2_with fail
  refine (rrank_any R1 S1 H01.out hl i _ rfl hi _ r HR.out).mono ?_
  rintro e w2 ⟨rfl, y2⟩
  have Y2 := Y1.trans (y2.mono Y1.size)
  have F2 := F1.on y2
  obtain ⟨f0, f1, f2, f3, f4⟩ := F2.facts
  go_wp2
  have hF := (F2.set0 (.int .i64 0)).set1 (.int .i64 0)
  have r0 := hF.c0
  have r1 := hF.c1
  exact bodyPost_ret (v := .tuple #[.int .i64 (r : Nat), .agg #[.int .i64 0, .int .i64 0]]) (by simp [results, Try.results16, go_sem, r0, r1]) rfl ⟨rfl, (Y2.setCell (by simp) _).setCell (by simp) _⟩
set_option maxHeartbeats 1600000 in
theorem fd_neg {A : Option Addr} {n c : Nat} {l : List Nat} {A2 : Option Addr} {n2 c2 : Nat} {k v : Int} (hk : k < 0) {w : World} (h : Rd w A n c (bcells (pack l))) (h2 : Rd w A2 n2 c2 (ncells (sumsL l))) (h01 : Is01 l) (hl : l.length ≤ 131072) :
    Calls Try.prog 37 #[.agg #[.slice A n c, .int .i64 (l.length : Nat), .slice A2 n2 c2], .int .i64 k, .int .i64 v] w fun e w' => e = .returned (.tuple #[.int .i64 0, .agg #[.int .i64 4, .int .i64 (-2)]]) ∧ Below w.heap.size w w' := by
  have V0 := (Three.new w 27 (.slice A n c) (.int .i64 (l.length : Nat)) (.slice A2 n2 c2)).alloc (.cells #[.int .i64 0, .int .i64 0] 29)
  have F0 := Two.new1 w (.cells #[.slice A n c, .int .i64 (l.length : Nat), .slice A2 n2 c2] 27) 29 (.int .i64 0) (.int .i64 0)
  have y0 : Below w.heap.size w ((w.alloc (.cells #[.slice A n c, .int .i64 (l.length : Nat), .slice A2 n2 c2] 27)).alloc (.cells #[.int .i64 0, .int .i64 0] 29)) := ((Below.refl _ _).alloc (Nat.le_refl _) _).alloc (by simp) _
  have R0 := (h.alloc (.cells #[.slice A n c, .int .i64 (l.length : Nat), .slice A2 n2 c2] 27)).alloc (.cells #[.int .i64 0, .int .i64 0] 29)
  have S0 := (h2.alloc (.cells #[.slice A n c, .int .i64 (l.length : Nat), .slice A2 n2 c2] 27)).alloc (.cells #[.int .i64 0, .int .i64 0] 29)
  have H01 := Lib.hid h01
  clear h01
  go_enter Try.func37, Try.ntmps37
  go_wp2_with fail
  refine (validate_good R0 S0 H01.out hl).mono ?_
  rintro e w1 ⟨rfl, y1⟩
  have Y1 := (y0.trans (y1.mono y0.size)).alloc (Below.size (y0.trans (y1.mono y0.size))) (.cells #[.int .i64 0, .int .i64 0] 29)
  have V1 := (V0.on y1).alloc (.cells #[.int .i64 0, .int .i64 0] 29)
  have F1 := (F0.on y1).alloc (.cells #[.int .i64 0, .int .i64 0] 29)
  have R1 := (R0.on y1).alloc (.cells #[.int .i64 0, .int .i64 0] 29)
  have S1 := (S0.on y1).alloc (.cells #[.int .i64 0, .int .i64 0] 29)
  have v0 := V1.c0
  have v1 := V1.c1
  have v2 := V1.c2
  go_wp2_with fail
  refine (rfault_any _ _ _).mono ?_
  rintro e w2 ⟨rfl, y2⟩
  have Y2 := Y1.trans (y2.mono Y1.size)
  have F2 := F1.on y2
  obtain ⟨f0, f1, f2, f3, f4⟩ := F2.facts
  go_wp2
  have hF := (F2.set0 (.int .i64 4)).set1 (.int .i64 (-2))
  have r0 := hF.c0
  have r1 := hF.c1
  exact bodyPost_ret (v := .tuple #[.int .i64 0, .agg #[.int .i64 4, .int .i64 (-2)]]) (by simp [results, Try.results37, go_sem, r0, r1]) rfl ⟨rfl, (Y2.setCell (by simp) _).setCell (by simp) _⟩
set_option maxHeartbeats 1600000 in
theorem fd_any {A : Option Addr} {n c : Nat} {l : List Nat} {A2 : Option Addr} {n2 c2 : Nat} {k v p : Nat} {code idx : Int} (hk : k < 9223372036854775808) (hr : (NoPlace l k v ∧ p = 0 ∧ code = 4 ∧ idx = -2) ∨ (PlaceAt l k v p ∧ code = 0 ∧ idx = 0)) {w : World} (h : Rd w A n c (bcells (pack l))) (h2 : Rd w A2 n2 c2 (ncells (sumsL l))) (h01 : Is01 l) (hl : l.length ≤ 131072) :
    Calls Try.prog 37 #[.agg #[.slice A n c, .int .i64 (l.length : Nat), .slice A2 n2 c2], .int .i64 (k : Nat), .int .i64 (v : Nat)] w fun e w' => e = .returned (.tuple #[.int .i64 (p : Nat), .agg #[.int .i64 code, .int .i64 idx]]) ∧ Below w.heap.size w w' := by
  have V0 := (Three.new w 27 (.slice A n c) (.int .i64 (l.length : Nat)) (.slice A2 n2 c2)).alloc (.cells #[.int .i64 0, .int .i64 0] 29)
  have F0 := Two.new1 w (.cells #[.slice A n c, .int .i64 (l.length : Nat), .slice A2 n2 c2] 27) 29 (.int .i64 0) (.int .i64 0)
  have y0 : Below w.heap.size w ((w.alloc (.cells #[.slice A n c, .int .i64 (l.length : Nat), .slice A2 n2 c2] 27)).alloc (.cells #[.int .i64 0, .int .i64 0] 29)) := ((Below.refl _ _).alloc (Nat.le_refl _) _).alloc (by simp) _
  have R0 := (h.alloc (.cells #[.slice A n c, .int .i64 (l.length : Nat), .slice A2 n2 c2] 27)).alloc (.cells #[.int .i64 0, .int .i64 0] 29)
  have S0 := (h2.alloc (.cells #[.slice A n c, .int .i64 (l.length : Nat), .slice A2 n2 c2] 27)).alloc (.cells #[.int .i64 0, .int .i64 0] 29)
  have H01 := Lib.hid h01
  clear h01
  obtain ⟨q, hq, hle, hbef, hend⟩ : ∃ q, q ≤ l.length ∧ (∀ i, i ≤ q → cntv v (l.take i) ≤ k) ∧ (∀ i, i < q → l.getD i 0 = v → cntv v (l.take i) < k) ∧ ((q = l.length ∧ p = 0 ∧ code = 4 ∧ idx = -2) ∨ (q < l.length ∧ l.getD q 0 = v ∧ cntv v (l.take q) = k ∧ p = q ∧ code = 0 ∧ idx = 0)) := by
    rcases hr with ⟨h1, h2⟩ | ⟨h1, h2⟩
    · refine ⟨l.length, Nat.le_refl _, fun i _ => h1.at i, fun i hi hv => ?_, .inl ⟨rfl, h2⟩⟩
      have := cntv_take_succ v l i hi
      rw [if_pos hv] at this
      have := h1.at (i + 1)
      omega
    · exact ⟨p, by have := h1.1; omega, fun i hi => h1.le i hi, fun i hi hv => h1.before i hi hv, .inr ⟨h1.1, h1.2.1, h1.2.2, rfl, h2⟩⟩
  have HLE := Lib.hid hle
  have HB := Lib.hid hbef
  have HE := Lib.hid hend
  clear hr hle hbef hend
  go_enter Try.func37, Try.ntmps37
  go_wp2_with fail
  refine (validate_good R0 S0 H01.out hl).mono ?_
  rintro e w1 ⟨rfl, y1⟩
  have Y1 := (y0.trans (y1.mono y0.size)).alloc (Below.size (y0.trans (y1.mono y0.size))) (.cells #[.int .i64 0, .int .i64 0] 29)
  have V1 := (V0.on y1).alloc (.cells #[.int .i64 0, .int .i64 0] 29)
  have F1 := (F0.on y1).alloc (.cells #[.int .i64 0, .int .i64 0] 29)
  have R1 := (R0.on y1).alloc (.cells #[.int .i64 0, .int .i64 0] 29)
  have S1 := (S0.on y1).alloc (.cells #[.int .i64 0, .int .i64 0] 29)
  have v0 := V1.c0
  have v1 := V1.c1
  have v2 := V1.c2
  go_wp2_with fail
  obtain ⟨wa, hwa⟩ : ∃ wa, wa = w1.alloc (.cells #[.int .i64 0, .int .i64 0] 29) := ⟨_, rfl⟩
  rw [← hwa] at Y1 V1 F1 R1 S1 v0 v1 v2
  rw [← hwa]
  clear hwa V0 F0 R0 S0 y0 y1
  go_loopw [1, 21] (fun t i wr => ∃ j m : Nat, j ≤ q ∧ i = .int .i64 j ∧ m + cntv v (l.take j) = k ∧ t = .int .i64 (m : Nat) ∧ Below wa.heap.size wa wr) (fun _ i _ => l.length - (intOf i).toNat)
  case atStart => exact ⟨0, k, Nat.zero_le _, rfl, by simp [cntv], rfl, Below.refl _ _⟩
  case round =>
    obtain ⟨j, m, hj, rfl, hm, rfl, yr⟩ := hrel
    have HM := Lib.hid hm
    have hmk : m ≤ k := by omega
    have Vr := V1.on yr
    have Fr := F1.on yr
    have Rr := R1.on yr
    have Yr := Y1.trans (yr.mono Y1.size)
    have u0 := Vr.c0
    have u1 := Vr.c1
    have u2 := Vr.c2
    clear hm
    by_cases hjl : j < l.length
    · obtain ⟨b, hb⟩ : ∃ b, b = l.getD j 0 := ⟨_, rfl⟩
      have HBB := Lib.hid hb
      have HS := Lib.hid (show cntv v (l.take (j + 1)) = cntv v (l.take j) + if b = v then 1 else 0 by rw [cntv_take_succ v l j hjl, hb])
      have hb2 : b < 2 := by rw [hb]; exact H01.out _
      clear hb
      go_wp2_with fail
      refine (rbit_any A n c l (l.length : Nat) j b _ rfl _ Rr H01.out hjl HBB.out).mono ?_
      rintro e w2 ⟨rfl, y2⟩
      have F2 := Fr.on y2
      have Y2 := Yr.trans (y2.mono Yr.size)
      by_cases hbv : b = v
      · subst hbv
        have hbb : ((b : Int) != (b : Int)) = false := by simp
        rw [if_pos rfl] at HS
        by_cases hjq : j < q
        · have hm1 : 1 ≤ m := by
            have := HB.out j hjq HBB.out.symm
            have := HM.out
            omega
          have hm0 : ((m : Int) == 0) = false := by rw [beq_eq_false_iff_ne]; omega
          go_wp2
          go_roundw
          case rel => exact ⟨j + 1, m - 1, by omega, by go_num, by rw [HS.out]; have := HM.out; omega, congrArg (Value.int .i64) (by omega), yr.trans (y2.mono yr.size)⟩
          case measure => simp [intOf]; omega
        · obtain rfl : j = q := by omega
          rcases HE.out with ⟨h1, _⟩ | ⟨h1, h2, h3, rfl, rfl, rfl⟩
          · omega
          · have hm0 : m ≤ 0 := by have := HM.out; omega
            obtain rfl : m = 0 := by omega
            clear h2 h3
            obtain ⟨f0, f1, f2, f3, f4⟩ := F2.facts
            go_wp2
            have hF := (F2.set0 (.int .i64 0)).set1 (.int .i64 0)
            have r0 := hF.c0
            have r1 := hF.c1
            exact bodyPost_ret (v := .tuple #[.int .i64 (p : Nat), .agg #[.int .i64 0, .int .i64 0]]) (by simp [results, Try.results37, go_sem, r0, r1]) rfl ⟨rfl, (Y2.setCell (by simp) _).setCell (by simp) _⟩
      · have hbb : ((b : Int) != (v : Int)) = true := by rw [bne_iff_ne]; omega
        rw [if_neg hbv] at HS
        have hjq : j < q := by
          rcases Nat.lt_or_ge j q with h | h
          · exact h
          · obtain rfl : j = q := by omega
            rcases HE.out with ⟨h1, _⟩ | ⟨h1, h2, _⟩
            · omega
            · rw [← HBB.out] at h2; exact absurd h2 hbv
        have HBV := Lib.hid hbv
        clear hbv
        go_wp2
        go_roundw
        case rel => exact ⟨j + 1, m, by omega, by go_num, by rw [HS.out]; have := HM.out; omega, rfl, yr.trans (y2.mono yr.size)⟩
        case measure => simp [intOf]; omega
    · obtain rfl : j = q := by omega
      rcases HE.out with ⟨h1, rfl, rfl, rfl⟩ | ⟨h1, _⟩
      · clear h1
        go_wp2_with fail
        refine (rfault_any _ _ _).mono ?_
        rintro e w2 ⟨rfl, y2⟩
        have Y2 := Yr.trans (y2.mono Yr.size)
        have F2 := Fr.on y2
        obtain ⟨f0, f1, f2, f3, f4⟩ := F2.facts
        go_wp2
        have hF := (F2.set0 (.int .i64 4)).set1 (.int .i64 (-2))
        have r0 := hF.c0
        have r1 := hF.c1
        exact bodyPost_ret (v := .tuple #[.int .i64 0, .agg #[.int .i64 4, .int .i64 (-2)]]) (by simp [results, Try.results37, go_sem, r0, r1]) rfl ⟨rfl, (Y2.setCell (by simp) _).setCell (by simp) _⟩
      · omega
set_option maxHeartbeats 800000 in
theorem sel_bad {A : Option Addr} {n c : Nat} {d : List Nat} {cnt : Int} {A2 : Option Addr} {n2 c2 : Nat} {zs : List Int} {k : Int} {w : World} (h : Rd w A n c (bcells d)) (h2 : Rd w A2 n2 c2 (icells zs)) (hV : VNo d cnt zs) :
    Calls Try.prog 17 #[.agg #[.slice A n c, .int .i64 cnt, .slice A2 n2 c2], .int .i64 k] w fun e w' => e = .returned (.tuple #[.int .i64 0, .agg #[.int .i64 6, .int .i64 (-1)]]) ∧ Below w.heap.size w w' := by
  have V0 := (Three.new w 27 (.slice A n c) (.int .i64 cnt) (.slice A2 n2 c2)).alloc (.cells #[.int .i64 0, .int .i64 0] 29)
  have F0 := Two.new1 w (.cells #[.slice A n c, .int .i64 cnt, .slice A2 n2 c2] 27) 29 (.int .i64 0) (.int .i64 0)
  have y0 : Below w.heap.size w ((w.alloc (.cells #[.slice A n c, .int .i64 cnt, .slice A2 n2 c2] 27)).alloc (.cells #[.int .i64 0, .int .i64 0] 29)) := ((Below.refl _ _).alloc (Nat.le_refl _) _).alloc (by simp) _
  have R0 := (h.alloc (.cells #[.slice A n c, .int .i64 cnt, .slice A2 n2 c2] 27)).alloc (.cells #[.int .i64 0, .int .i64 0] 29)
  have S0 := (h2.alloc (.cells #[.slice A n c, .int .i64 cnt, .slice A2 n2 c2] 27)).alloc (.cells #[.int .i64 0, .int .i64 0] 29)
  have HF := Lib.hid (fd_bad (k := k) (v := 1) R0 S0 hV)
  clear hV
  go_enter Try.func17, Try.ntmps17
  go_wp2_with fail
  refine HF.out.mono ?_
  rintro e w1 ⟨rfl, y1⟩
  have Y1 := y0.trans (y1.mono y0.size)
  have F1 := F0.on y1
  obtain ⟨f0, f1, f2, f3, f4⟩ := F1.facts
  go_wp2
  have hF := (F1.set0 (.int .i64 6)).set1 (.int .i64 (-1))
  have r0 := hF.c0
  have r1 := hF.c1
  exact bodyPost_ret (v := .tuple #[.int .i64 0, .agg #[.int .i64 6, .int .i64 (-1)]]) (by simp [results, Try.results17, go_sem, r0, r1]) rfl ⟨rfl, (Y1.setCell (by simp) _).setCell (by simp) _⟩
set_option maxHeartbeats 800000 in
theorem sel_neg {A : Option Addr} {n c : Nat} {l : List Nat} {A2 : Option Addr} {n2 c2 : Nat} {k : Int} (hk : k < 0) {w : World} (h : Rd w A n c (bcells (pack l))) (h2 : Rd w A2 n2 c2 (ncells (sumsL l))) (h01 : Is01 l) (hl : l.length ≤ 131072) :
    Calls Try.prog 17 #[.agg #[.slice A n c, .int .i64 (l.length : Nat), .slice A2 n2 c2], .int .i64 k] w fun e w' => e = .returned (.tuple #[.int .i64 0, .agg #[.int .i64 4, .int .i64 (-2)]]) ∧ Below w.heap.size w w' := by
  have V0 := (Three.new w 27 (.slice A n c) (.int .i64 (l.length : Nat)) (.slice A2 n2 c2)).alloc (.cells #[.int .i64 0, .int .i64 0] 29)
  have F0 := Two.new1 w (.cells #[.slice A n c, .int .i64 (l.length : Nat), .slice A2 n2 c2] 27) 29 (.int .i64 0) (.int .i64 0)
  have y0 : Below w.heap.size w ((w.alloc (.cells #[.slice A n c, .int .i64 (l.length : Nat), .slice A2 n2 c2] 27)).alloc (.cells #[.int .i64 0, .int .i64 0] 29)) := ((Below.refl _ _).alloc (Nat.le_refl _) _).alloc (by simp) _
  have R0 := (h.alloc (.cells #[.slice A n c, .int .i64 (l.length : Nat), .slice A2 n2 c2] 27)).alloc (.cells #[.int .i64 0, .int .i64 0] 29)
  have S0 := (h2.alloc (.cells #[.slice A n c, .int .i64 (l.length : Nat), .slice A2 n2 c2] 27)).alloc (.cells #[.int .i64 0, .int .i64 0] 29)
  have HF := Lib.hid (fd_neg (v := 1) hk R0 S0 h01 hl)
  clear h01
  go_enter Try.func17, Try.ntmps17
  go_wp2_with fail
  refine HF.out.mono ?_
  rintro e w1 ⟨rfl, y1⟩
  have Y1 := y0.trans (y1.mono y0.size)
  have F1 := F0.on y1
  obtain ⟨f0, f1, f2, f3, f4⟩ := F1.facts
  go_wp2
  have hF := (F1.set0 (.int .i64 4)).set1 (.int .i64 (-2))
  have r0 := hF.c0
  have r1 := hF.c1
  exact bodyPost_ret (v := .tuple #[.int .i64 0, .agg #[.int .i64 4, .int .i64 (-2)]]) (by simp [results, Try.results17, go_sem, r0, r1]) rfl ⟨rfl, (Y1.setCell (by simp) _).setCell (by simp) _⟩
set_option maxHeartbeats 800000 in
theorem sel_any {A : Option Addr} {n c : Nat} {l : List Nat} {A2 : Option Addr} {n2 c2 : Nat} {k p : Nat} {code idx : Int} (hk : k < 9223372036854775808) (hr : (NoPlace l k 1 ∧ p = 0 ∧ code = 4 ∧ idx = -2) ∨ (PlaceAt l k 1 p ∧ code = 0 ∧ idx = 0)) {w : World} (h : Rd w A n c (bcells (pack l))) (h2 : Rd w A2 n2 c2 (ncells (sumsL l))) (h01 : Is01 l) (hl : l.length ≤ 131072) :
    Calls Try.prog 17 #[.agg #[.slice A n c, .int .i64 (l.length : Nat), .slice A2 n2 c2], .int .i64 (k : Nat)] w fun e w' => e = .returned (.tuple #[.int .i64 (p : Nat), .agg #[.int .i64 code, .int .i64 idx]]) ∧ Below w.heap.size w w' := by
  have V0 := (Three.new w 27 (.slice A n c) (.int .i64 (l.length : Nat)) (.slice A2 n2 c2)).alloc (.cells #[.int .i64 0, .int .i64 0] 29)
  have F0 := Two.new1 w (.cells #[.slice A n c, .int .i64 (l.length : Nat), .slice A2 n2 c2] 27) 29 (.int .i64 0) (.int .i64 0)
  have y0 : Below w.heap.size w ((w.alloc (.cells #[.slice A n c, .int .i64 (l.length : Nat), .slice A2 n2 c2] 27)).alloc (.cells #[.int .i64 0, .int .i64 0] 29)) := ((Below.refl _ _).alloc (Nat.le_refl _) _).alloc (by simp) _
  have R0 := (h.alloc (.cells #[.slice A n c, .int .i64 (l.length : Nat), .slice A2 n2 c2] 27)).alloc (.cells #[.int .i64 0, .int .i64 0] 29)
  have S0 := (h2.alloc (.cells #[.slice A n c, .int .i64 (l.length : Nat), .slice A2 n2 c2] 27)).alloc (.cells #[.int .i64 0, .int .i64 0] 29)
  have HF := Lib.hid (fd_any (v := 1) hk hr R0 S0 h01 hl)
  clear h01 hr
  go_enter Try.func17, Try.ntmps17
  go_wp2_with fail
  refine HF.out.mono ?_
  rintro e w1 ⟨rfl, y1⟩
  have Y1 := y0.trans (y1.mono y0.size)
  have F1 := F0.on y1
  obtain ⟨f0, f1, f2, f3, f4⟩ := F1.facts
  go_wp2
  have hF := (F1.set0 (.int .i64 code)).set1 (.int .i64 idx)
  have r0 := hF.c0
  have r1 := hF.c1
  exact bodyPost_ret (v := .tuple #[.int .i64 (p : Nat), .agg #[.int .i64 code, .int .i64 idx]]) (by simp [results, Try.results17, go_sem, r0, r1]) rfl ⟨rfl, (Y1.setCell (by simp) _).setCell (by simp) _⟩
set_option maxHeartbeats 800000 in
theorem selz_bad {A : Option Addr} {n c : Nat} {d : List Nat} {cnt : Int} {A2 : Option Addr} {n2 c2 : Nat} {zs : List Int} {k : Int} {w : World} (h : Rd w A n c (bcells d)) (h2 : Rd w A2 n2 c2 (icells zs)) (hV : VNo d cnt zs) :
    Calls Try.prog 18 #[.agg #[.slice A n c, .int .i64 cnt, .slice A2 n2 c2], .int .i64 k] w fun e w' => e = .returned (.tuple #[.int .i64 0, .agg #[.int .i64 6, .int .i64 (-1)]]) ∧ Below w.heap.size w w' := by
  have V0 := (Three.new w 27 (.slice A n c) (.int .i64 cnt) (.slice A2 n2 c2)).alloc (.cells #[.int .i64 0, .int .i64 0] 29)
  have F0 := Two.new1 w (.cells #[.slice A n c, .int .i64 cnt, .slice A2 n2 c2] 27) 29 (.int .i64 0) (.int .i64 0)
  have y0 : Below w.heap.size w ((w.alloc (.cells #[.slice A n c, .int .i64 cnt, .slice A2 n2 c2] 27)).alloc (.cells #[.int .i64 0, .int .i64 0] 29)) := ((Below.refl _ _).alloc (Nat.le_refl _) _).alloc (by simp) _
  have R0 := (h.alloc (.cells #[.slice A n c, .int .i64 cnt, .slice A2 n2 c2] 27)).alloc (.cells #[.int .i64 0, .int .i64 0] 29)
  have S0 := (h2.alloc (.cells #[.slice A n c, .int .i64 cnt, .slice A2 n2 c2] 27)).alloc (.cells #[.int .i64 0, .int .i64 0] 29)
  have HF := Lib.hid (fd_bad (k := k) (v := 0) R0 S0 hV)
  clear hV
  go_enter Try.func18, Try.ntmps18
  go_wp2_with fail
  refine HF.out.mono ?_
  rintro e w1 ⟨rfl, y1⟩
  have Y1 := y0.trans (y1.mono y0.size)
  have F1 := F0.on y1
  obtain ⟨f0, f1, f2, f3, f4⟩ := F1.facts
  go_wp2
  have hF := (F1.set0 (.int .i64 6)).set1 (.int .i64 (-1))
  have r0 := hF.c0
  have r1 := hF.c1
  exact bodyPost_ret (v := .tuple #[.int .i64 0, .agg #[.int .i64 6, .int .i64 (-1)]]) (by simp [results, Try.results18, go_sem, r0, r1]) rfl ⟨rfl, (Y1.setCell (by simp) _).setCell (by simp) _⟩
set_option maxHeartbeats 800000 in
theorem selz_neg {A : Option Addr} {n c : Nat} {l : List Nat} {A2 : Option Addr} {n2 c2 : Nat} {k : Int} (hk : k < 0) {w : World} (h : Rd w A n c (bcells (pack l))) (h2 : Rd w A2 n2 c2 (ncells (sumsL l))) (h01 : Is01 l) (hl : l.length ≤ 131072) :
    Calls Try.prog 18 #[.agg #[.slice A n c, .int .i64 (l.length : Nat), .slice A2 n2 c2], .int .i64 k] w fun e w' => e = .returned (.tuple #[.int .i64 0, .agg #[.int .i64 4, .int .i64 (-2)]]) ∧ Below w.heap.size w w' := by
  have V0 := (Three.new w 27 (.slice A n c) (.int .i64 (l.length : Nat)) (.slice A2 n2 c2)).alloc (.cells #[.int .i64 0, .int .i64 0] 29)
  have F0 := Two.new1 w (.cells #[.slice A n c, .int .i64 (l.length : Nat), .slice A2 n2 c2] 27) 29 (.int .i64 0) (.int .i64 0)
  have y0 : Below w.heap.size w ((w.alloc (.cells #[.slice A n c, .int .i64 (l.length : Nat), .slice A2 n2 c2] 27)).alloc (.cells #[.int .i64 0, .int .i64 0] 29)) := ((Below.refl _ _).alloc (Nat.le_refl _) _).alloc (by simp) _
  have R0 := (h.alloc (.cells #[.slice A n c, .int .i64 (l.length : Nat), .slice A2 n2 c2] 27)).alloc (.cells #[.int .i64 0, .int .i64 0] 29)
  have S0 := (h2.alloc (.cells #[.slice A n c, .int .i64 (l.length : Nat), .slice A2 n2 c2] 27)).alloc (.cells #[.int .i64 0, .int .i64 0] 29)
  have HF := Lib.hid (fd_neg (v := 0) hk R0 S0 h01 hl)
  clear h01
  go_enter Try.func18, Try.ntmps18
  go_wp2_with fail
  refine HF.out.mono ?_
  rintro e w1 ⟨rfl, y1⟩
  have Y1 := y0.trans (y1.mono y0.size)
  have F1 := F0.on y1
  obtain ⟨f0, f1, f2, f3, f4⟩ := F1.facts
  go_wp2
  have hF := (F1.set0 (.int .i64 4)).set1 (.int .i64 (-2))
  have r0 := hF.c0
  have r1 := hF.c1
  exact bodyPost_ret (v := .tuple #[.int .i64 0, .agg #[.int .i64 4, .int .i64 (-2)]]) (by simp [results, Try.results18, go_sem, r0, r1]) rfl ⟨rfl, (Y1.setCell (by simp) _).setCell (by simp) _⟩
set_option maxHeartbeats 800000 in
theorem selz_any {A : Option Addr} {n c : Nat} {l : List Nat} {A2 : Option Addr} {n2 c2 : Nat} {k p : Nat} {code idx : Int} (hk : k < 9223372036854775808) (hr : (NoPlace l k 0 ∧ p = 0 ∧ code = 4 ∧ idx = -2) ∨ (PlaceAt l k 0 p ∧ code = 0 ∧ idx = 0)) {w : World} (h : Rd w A n c (bcells (pack l))) (h2 : Rd w A2 n2 c2 (ncells (sumsL l))) (h01 : Is01 l) (hl : l.length ≤ 131072) :
    Calls Try.prog 18 #[.agg #[.slice A n c, .int .i64 (l.length : Nat), .slice A2 n2 c2], .int .i64 (k : Nat)] w fun e w' => e = .returned (.tuple #[.int .i64 (p : Nat), .agg #[.int .i64 code, .int .i64 idx]]) ∧ Below w.heap.size w w' := by
  have V0 := (Three.new w 27 (.slice A n c) (.int .i64 (l.length : Nat)) (.slice A2 n2 c2)).alloc (.cells #[.int .i64 0, .int .i64 0] 29)
  have F0 := Two.new1 w (.cells #[.slice A n c, .int .i64 (l.length : Nat), .slice A2 n2 c2] 27) 29 (.int .i64 0) (.int .i64 0)
  have y0 : Below w.heap.size w ((w.alloc (.cells #[.slice A n c, .int .i64 (l.length : Nat), .slice A2 n2 c2] 27)).alloc (.cells #[.int .i64 0, .int .i64 0] 29)) := ((Below.refl _ _).alloc (Nat.le_refl _) _).alloc (by simp) _
  have R0 := (h.alloc (.cells #[.slice A n c, .int .i64 (l.length : Nat), .slice A2 n2 c2] 27)).alloc (.cells #[.int .i64 0, .int .i64 0] 29)
  have S0 := (h2.alloc (.cells #[.slice A n c, .int .i64 (l.length : Nat), .slice A2 n2 c2] 27)).alloc (.cells #[.int .i64 0, .int .i64 0] 29)
  have HF := Lib.hid (fd_any (v := 0) hk hr R0 S0 h01 hl)
  clear h01 hr
  go_enter Try.func18, Try.ntmps18
  go_wp2_with fail
  refine HF.out.mono ?_
  rintro e w1 ⟨rfl, y1⟩
  have Y1 := y0.trans (y1.mono y0.size)
  have F1 := F0.on y1
  obtain ⟨f0, f1, f2, f3, f4⟩ := F1.facts
  go_wp2
  have hF := (F1.set0 (.int .i64 code)).set1 (.int .i64 idx)
  have r0 := hF.c0
  have r1 := hF.c1
  exact bodyPost_ret (v := .tuple #[.int .i64 (p : Nat), .agg #[.int .i64 code, .int .i64 idx]]) (by simp [results, Try.results18, go_sem, r0, r1]) rfl ⟨rfl, (Y1.setCell (by simp) _).setCell (by simp) _⟩
end PB
end Go.Proofs.Ytckimocmppdecaa
