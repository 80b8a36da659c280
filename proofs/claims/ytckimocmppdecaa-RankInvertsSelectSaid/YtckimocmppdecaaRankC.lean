/-
  package rank: Validate of a vector whose bits are not valid; Build; the reference's VectorOf, SameVector, VectorOk.
-/
import Derived.Test.YtckimocmppdecaaRows
import Derived.Test.YtckimocmppdecaaRankB
namespace Go.Proofs.Ytckimocmppdecaa
open Go.RowKit
attribute [local go_sem ↓] Go.wp_at_zero Go.wp_at_succ
set_option linter.unusedVariables false
set_option linter.unusedSimpArgs false
namespace PB
/-- What a call boxes at its start: a vector, and a fault. -/
def vbox (w : World) (a b c : Value) : World := (w.alloc (.cells #[a, b, c] 27)).alloc (.cells #[.int .i64 0, .int .i64 0] 29)
set_option maxHeartbeats 1600000 in
theorem validate_no {A : Option Addr} {n c : Nat} {d : List Nat} {cnt : Int} {v2 : Value} {w : World} (h : Rd w A n c (bcells d)) (hno : ¬ Ok d cnt) :
    Calls Try.prog 9 #[.agg #[.slice A n c, .int .i64 cnt, v2]] w fun e w' => e = .returned (.agg #[.int .i64 6, .int .i64 (-1)]) ∧ Below w.heap.size w w' := by
  obtain ⟨W, hW⟩ : ∃ W, W = (w.alloc (.cells #[.slice A n c, .int .i64 cnt, v2] 27)).alloc (.cells #[.int .i64 0, .int .i64 0] 29) := ⟨_, rfl⟩
  have V0 := (Three.new w 27 (.slice A n c) (.int .i64 cnt) v2).alloc (.cells #[.int .i64 0, .int .i64 0] 29)
  have F0 := Two.new1 w (.cells #[.slice A n c, .int .i64 cnt, v2] 27) 29 (.int .i64 0) (.int .i64 0)
  have y0 : Below w.heap.size w ((w.alloc (.cells #[.slice A n c, .int .i64 cnt, v2] 27)).alloc (.cells #[.int .i64 0, .int .i64 0] 29)) := ((Below.refl _ _).alloc (Nat.le_refl _) _).alloc (by simp) _
  have R0 := (h.alloc (.cells #[.slice A n c, .int .i64 cnt, v2] 27)).alloc (.cells #[.int .i64 0, .int .i64 0] 29)
  have HNO := Lib.hid hno
  clear hno
  go_enter Try.func9, Try.ntmps9
  go_wp2_with fail
  rw [← hW] at V0 F0 y0 R0
  rw [← hW]
  clear hW
  have b0 := V0.c0
  have b1 := V0.c1
  have b2 := V0.c2
  first | go_region_with ((go_at_call 29; refine (valid_no A n c d cnt _ _ (Rd.drew R0) (Nat.le_refl _) HNO.out).mono ?_; rintro e w1 ⟨rfl, y1⟩; have V1 := Three.on (w := W.drew) V0 y1; have p0 := V1.c0; have p1 := V1.c1; have p2 := V1.c2)) | fail
  all_goals
    have Y1 := (belowD y0).trans (y1.mono (belowD y0).size)
    have F1 := Two.on (w := W.drew) F0 y1
    go_wp2_with fail
    refine (rfault_any _ _ _).mono ?_
    rintro e w4 ⟨rfl, y4⟩
    have Y4 := Y1.trans (y4.mono Y1.size)
    have F4 := F1.on y4
    obtain ⟨f0, f1, f2, f3, f4⟩ := F4.facts
    go_wp2
    have hB := (F4.set0 (.int .i64 6)).set1 (.int .i64 (-1))
    have r0 := hB.c0
    have r1 := hB.c1
    exact bodyPost_ret (v := .agg #[.int .i64 6, .int .i64 (-1)]) (by simp [results, Try.results9, go_sem, r0, r1]) rfl ⟨rfl, (Y4.setCell (by simp) _).setCell (by simp) _⟩
/-- A slice of no address has no element. -/
theorem Rd.none_zero {w : World} {A : Option Addr} {n c : Nat} {xs : List Value} (h : Rd w A n c xs) (hA : A = none) : n = 0 := by
  rcases Nat.eq_zero_or_pos n with h0 | h0
  · exact h0
  · obtain ⟨b, off, e, _⟩ := h.2.2.2 h0
    rw [hA] at e; cases e
set_option maxHeartbeats 1600000 in
theorem build_no {A : Option Addr} {n c : Nat} {d : List Nat} {cnt : Int} {w : World} (h : Rd w A n c (bcells d)) (hno : ¬ Ok d cnt) :
    Calls Try.prog 8 #[.agg #[.slice A n c, .int .i64 cnt]] w fun e w' => e = .returned (.tuple #[.agg #[.slice none 0 0, .int .i64 0, .slice none 0 0], .agg #[.int .i64 6, .int .i64 (-1)]]) ∧ Below w.heap.size w w' := by
  have V0 := (Three.new1 w (.cells #[.slice A n c, .int .i64 cnt] 24) 27 (.slice none 0 0) (.int .i64 0) (.slice none 0 0)).alloc (.cells #[.int .i64 0, .int .i64 0] 29)
  have F0 := Two.new2 w (.cells #[.slice A n c, .int .i64 cnt] 24) (.cells #[.slice none 0 0, .int .i64 0, .slice none 0 0] 27) 29 (.int .i64 0) (.int .i64 0)
  have y0 : Below w.heap.size w (((w.alloc (.cells #[.slice A n c, .int .i64 cnt] 24)).alloc (.cells #[.slice none 0 0, .int .i64 0, .slice none 0 0] 27)).alloc (.cells #[.int .i64 0, .int .i64 0] 29)) := (((Below.refl _ _).alloc (Nat.le_refl _) _).alloc (by simp) _).alloc (by simp; omega) _
  have R0 := ((h.alloc (.cells #[.slice A n c, .int .i64 cnt] 24)).alloc (.cells #[.slice none 0 0, .int .i64 0, .slice none 0 0] 27)).alloc (.cells #[.int .i64 0, .int .i64 0] 29)
  have HNO := Lib.hid hno
  clear hno
  go_enter Try.func8, Try.ntmps8
  go_wp2_with fail
  refine (valid_no A n c d cnt _ _ R0 (Nat.le_refl _) HNO.out).mono ?_
  rintro e w1 ⟨rfl, y1⟩
  have Y1 := y0.trans (y1.mono y0.size)
  have V1 := V0.on y1
  have F1 := F0.on y1
  go_wp2_with fail
  refine (rfault_any _ _ _).mono ?_
  rintro e w2 ⟨rfl, y2⟩
  have Y2 := Y1.trans (y2.mono Y1.size)
  have V2 := V1.on y2
  have F2 := F1.on y2
  obtain ⟨f0, f1, f2, f3, f4⟩ := F2.facts
  have g0 := V2.c0
  have g1 := V2.c1
  have g2 := V2.c2
  have g3 := V2.f0
  have g4 := V2.f1
  have g5 := V2.f2
  go_wp2
  have hV := ((((V2.set0 (.slice none 0 0)).set1 (.int .i64 0)).set2 (.slice none 0 0)).far (p := ⟨w.heap.size + 2, 0, none⟩) (by simp) (.int .i64 6)).far (p := ⟨w.heap.size + 2, 1, none⟩) (by simp) (.int .i64 (-1))
  have hF := ((((F2.far (p := ⟨w.heap.size + 1, 0, none⟩) (by simp) (.slice none 0 0)).far (p := ⟨w.heap.size + 1, 1, none⟩) (by simp) (.int .i64 0)).far (p := ⟨w.heap.size + 1, 2, none⟩) (by simp) (.slice none 0 0)).set0 (.int .i64 6)).set1 (.int .i64 (-1))
  have r0 := hV.c0
  have r1 := hV.c1
  have r2 := hV.c2
  have r3 := hF.c0
  have r4 := hF.c1
  exact bodyPost_ret (v := .tuple #[.agg #[.slice none 0 0, .int .i64 0, .slice none 0 0], .agg #[.int .i64 6, .int .i64 (-1)]]) (by simp [results, Try.results8, go_sem, r0, r1, r2, r3, r4]) rfl ⟨rfl, ((((Y2.setCell (by dsimp only; omega) _).setCell (by dsimp only; omega) _).setCell (by dsimp only; omega) _).setCell (by dsimp only; omega) _).setCell (by dsimp only; omega) _⟩
set_option maxHeartbeats 1600000 in
theorem build_own {A : Option Addr} {n c : Nat} {l : List Nat} {w : World} (h : Rd w A n c (bcells (pack l))) (h01 : Is01 l) (hl : l.length ≤ 131072) :
    Calls Try.prog 8 #[.agg #[.slice A n c, .int .i64 (l.length : Nat)]] w fun e w' => ∃ A1 c1 A2 n2 c2, e = .returned (.tuple #[.agg #[.slice A1 n c1, .int .i64 (l.length : Nat), .slice A2 n2 c2], .agg #[.int .i64 0, .int .i64 0]]) ∧
      w'.ownsRow w.heap.size 5 1 (.slice A1 n c1) n (bcells (pack l)) ∧ w'.ownsRow w.heap.size 3 1 (.slice A2 n2 c2) n2 (ncells (sumsL l)) ∧ Below w.heap.size w w' := by
  obtain ⟨W, hW⟩ : ∃ W, W = ((w.alloc (.cells #[.slice A n c, .int .i64 (l.length : Nat)] 24)).alloc (.cells #[.slice none 0 0, .int .i64 0, .slice none 0 0] 27)).alloc (.cells #[.int .i64 0, .int .i64 0] 29) := ⟨_, rfl⟩
  have B0 := ((Two.new w 24 (.slice A n c) (.int .i64 (l.length : Nat))).alloc (.cells #[.slice none 0 0, .int .i64 0, .slice none 0 0] 27)).alloc (.cells #[.int .i64 0, .int .i64 0] 29)
  have V0 := (Three.new1 w (.cells #[.slice A n c, .int .i64 (l.length : Nat)] 24) 27 (.slice none 0 0) (.int .i64 0) (.slice none 0 0)).alloc (.cells #[.int .i64 0, .int .i64 0] 29)
  have F0 := Two.new2 w (.cells #[.slice A n c, .int .i64 (l.length : Nat)] 24) (.cells #[.slice none 0 0, .int .i64 0, .slice none 0 0] 27) 29 (.int .i64 0) (.int .i64 0)
  have y0 : Below w.heap.size w (((w.alloc (.cells #[.slice A n c, .int .i64 (l.length : Nat)] 24)).alloc (.cells #[.slice none 0 0, .int .i64 0, .slice none 0 0] 27)).alloc (.cells #[.int .i64 0, .int .i64 0] 29)) := (((Below.refl _ _).alloc (Nat.le_refl _) _).alloc (by simp) _).alloc (by simp; omega) _
  have R0 := ((h.alloc (.cells #[.slice A n c, .int .i64 (l.length : Nat)] 24)).alloc (.cells #[.slice none 0 0, .int .i64 0, .slice none 0 0] 27)).alloc (.cells #[.int .i64 0, .int .i64 0] 29)
  have hn := h.len
  rw [bcells_length, pack_length] at hn
  have hn2 : n ≤ 200000 := by omega
  have H01 := Lib.hid h01
  have HSM := Lib.hid (fun W (hW : Rd W A n c (bcells (pack l))) => sums_any hW H01.out hl (l.length : Nat) rfl)
  obtain ⟨ns, hns⟩ : ∃ ns, ns = l.length / 64 + 1 := ⟨_, rfl⟩
  rw [← hns] at HSM
  have HCL := Lib.hid (fun W (hW : Rd W A n c (bcells (pack l))) => clone_any hW (Rd.none_zero hW) hn2)
  clear h01 hn hns
  go_enter Try.func8, Try.ntmps8
  go_wp2_with fail
  rw [← hW] at B0 V0 F0 y0 R0
  rw [← hW]
  refine (valid_list A n c l _ _ R0 (Nat.le_refl _) H01.out hl).mono ?_
  rintro e w1 ⟨rfl, y1⟩
  have Y1 := y0.trans (y1.mono y0.size)
  have B1 := B0.on y1
  have V1 := V0.on y1
  have F1 := F0.on y1
  have R1 := R0.on y1
  have b0 := B1.c0
  have b1 := B1.c1
  have ne1 : w.heap.size + 1 ≠ w.heap.size := by omega
  have ne2 : w.heap.size + 1 + 1 ≠ w.heap.size := by omega
  clear B0 V0 F0 R0 hW
  go_wp2_with fail
  go_region_held3 (fun w' => w'.cell? ⟨w.heap.size, 0, none⟩ = some (.slice A n c) ∧ w'.cell? ⟨w.heap.size, 1, none⟩ = some (.int .i64 (l.length : Nat))) (go_keep)
    (first
      | (go_at_call 31; refine (HCL.out _ (Rd.drew R1)).mono ?_; rintro e w2 ⟨Ac, cc, rfl, oc, y2⟩; have B2 := Two.on (w := w1.drew) B1 y2; have p0 := B2.c0; have p1 := B2.c1)
      | (go_at_call 32; refine (HSM.out _ (Rd.on (w := w1.drew) R1 y2)).mono ?_; rintro e w3 ⟨As, cs, rfl, os, y3⟩; have B3 := B2.on y3; have q0 := B3.c0; have q1 := B3.c1; have V3 := (Three.on (w := w1.drew) V1 y2).on y3; have F3 := (Two.on (w := w1.drew) F1 y2).on y3; obtain ⟨f0, f1, f2, f3, f4⟩ := F3.facts; have g0 := V3.c0; have g1 := V3.c1; have g2 := V3.c2; have g3 := V3.f0; have g4 := V3.f1; have g5 := V3.f2))
  have Y2 := (belowD Y1).trans (y2.mono (belowD Y1).size)
  have Y3 := Y2.trans (y3.mono Y2.size)
  have oc3 := own_on oc y3
  go_wp2
  have hV := ((((V3.set0 (.slice Ac n cc)).set1 (.int .i64 (l.length : Nat))).set2 (.slice As ns cs)).far (p := ⟨w.heap.size + 2, 0, none⟩) (by simp) (.int .i64 0)).far (p := ⟨w.heap.size + 2, 1, none⟩) (by simp) (.int .i64 0)
  have hF := ((((F3.far (p := ⟨w.heap.size + 1, 0, none⟩) (by simp) (.slice Ac n cc)).far (p := ⟨w.heap.size + 1, 1, none⟩) (by simp) (.int .i64 (l.length : Nat))).far (p := ⟨w.heap.size + 1, 2, none⟩) (by simp) (.slice As ns cs)).set0 (.int .i64 0)).set1 (.int .i64 0)
  have r0 := hV.c0
  have r1 := hV.c1
  have r2 := hV.c2
  have r3 := hF.c0
  have r4 := hF.c1
  have nc1 := own_three_ne oc3 V3 (by decide)
  have nc2 := own_two_ne oc3 F3 (by decide)
  have ns1 := own_three_ne os V3 (by decide)
  have ns2 := own_two_ne os F3 (by decide)
  refine bodyPost_ret (v := .tuple #[.agg #[.slice Ac n cc, .int .i64 (l.length : Nat), .slice As ns cs], .agg #[.int .i64 0, .int .i64 0]]) (by simp [results, Try.results8, go_sem, r0, r1, r2, r3, r4]) rfl ⟨Ac, cc, As, ns, cs, rfl, ?_, ?_, ((((Y3.setCell (by dsimp only; omega) _).setCell (by dsimp only; omega) _).setCell (by dsimp only; omega) _).setCell (by dsimp only; omega) _).setCell (by dsimp only; omega) _⟩
  · exact own_less (own_far_any (own_far_any (own_far_any (own_far_any (own_far_any oc3 nc1 _) nc1 _) nc1 _) nc2 _) nc2 _) Y1.size
  · exact own_less (own_far_any (own_far_any (own_far_any (own_far_any (own_far_any os ns1 _) ns1 _) ns1 _) ns2 _) ns2 _) Y2.size
theorem build_ok {A : Option Addr} {n c : Nat} {l : List Nat} {w : World} (h : Rd w A n c (bcells (pack l))) (h01 : Is01 l) (hl : l.length ≤ 131072) :
    Calls Try.prog 8 #[.agg #[.slice A n c, .int .i64 (l.length : Nat)]] w fun e w' => ∃ A1 c1 A2 n2 c2, e = .returned (.tuple #[.agg #[.slice A1 n c1, .int .i64 (l.length : Nat), .slice A2 n2 c2], .agg #[.int .i64 0, .int .i64 0]]) ∧
      Rd w' A1 n c1 (bcells (pack l)) ∧ Rd w' A2 n2 c2 (ncells (sumsL l)) ∧ Below w.heap.size w w' :=
  (build_own h h01 hl).mono fun e w' ⟨A1, c1, A2, n2, c2, h1, h2, h3, h4⟩ => ⟨A1, c1, A2, n2, c2, h1, Rd.own h2, Rd.own h3, h4⟩
end PB
end Go.Proofs.Ytckimocmppdecaa
