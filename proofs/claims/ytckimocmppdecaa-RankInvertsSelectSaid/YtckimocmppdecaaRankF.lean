/-
  package rank: Open and the methods of Reader.
-/
import Derived.Test.YtckimocmppdecaaRows
import Derived.Test.YtckimocmppdecaaRankE
namespace Go.Proofs.Ytckimocmppdecaa
open Go.RowKit
attribute [local go_sem ↓] Go.wp_at_zero Go.wp_at_succ
set_option linter.unusedVariables false
set_option linter.unusedSimpArgs false
namespace PB
set_option maxHeartbeats 1600000 in
theorem open_no {A : Option Addr} {n c : Nat} {d : List Nat} {cnt : Int} {w : World} (h : Rd w A n c (bcells d)) (hno : ¬ Ok d cnt) :
    Calls Try.prog 23 #[.agg #[.slice A n c, .int .i64 cnt]] w fun e w' => e = .returned (.tuple #[.agg #[.slice none 0 0, .int .i64 0, .slice none 0 0], .agg #[.int .i64 6, .int .i64 (-1)]]) ∧ Below w.heap.size w w' := by
  have V0 := (Three.new1 w (.cells #[.slice A n c, .int .i64 cnt] 24) 48 (.slice none 0 0) (.int .i64 0) (.slice none 0 0)).alloc (.cells #[.int .i64 0, .int .i64 0] 29)
  have F0 := Two.new2 w (.cells #[.slice A n c, .int .i64 cnt] 24) (.cells #[.slice none 0 0, .int .i64 0, .slice none 0 0] 48) 29 (.int .i64 0) (.int .i64 0)
  have y0 : Below w.heap.size w (((w.alloc (.cells #[.slice A n c, .int .i64 cnt] 24)).alloc (.cells #[.slice none 0 0, .int .i64 0, .slice none 0 0] 48)).alloc (.cells #[.int .i64 0, .int .i64 0] 29)) := (((Below.refl _ _).alloc (Nat.le_refl _) _).alloc (by simp) _).alloc (by simp; omega) _
  have R0 := ((h.alloc (.cells #[.slice A n c, .int .i64 cnt] 24)).alloc (.cells #[.slice none 0 0, .int .i64 0, .slice none 0 0] 48)).alloc (.cells #[.int .i64 0, .int .i64 0] 29)
  have HNO := Lib.hid hno
  clear hno
  go_enter Try.func23, Try.ntmps23
  go_wp2_with fail
  refine (build_no R0 HNO.out).mono ?_
  rintro e w1 ⟨rfl, y1⟩
  have Y1 := y0.trans (y1.mono y0.size)
  have V1 := ((V0.on y1).alloc (.cells #[.slice none 0 0, .int .i64 0, .slice none 0 0] 27)).alloc (.cells #[.int .i64 6, .int .i64 (-1)] 29)
  have F1 := ((F0.on y1).alloc (.cells #[.slice none 0 0, .int .i64 0, .slice none 0 0] 27)).alloc (.cells #[.int .i64 6, .int .i64 (-1)] 29)
  have G1 := Two.new1 w1 (.cells #[.slice none 0 0, .int .i64 0, .slice none 0 0] 27) 29 (.int .i64 6) (.int .i64 (-1))
  have Y1a := (Y1.alloc Y1.size (.cells #[.slice none 0 0, .int .i64 0, .slice none 0 0] 27)).alloc (by have := Y1.size; simp; omega) (.cells #[.int .i64 6, .int .i64 (-1)] 29)
  have hs := y1.size
  simp at hs
  obtain ⟨f0, f1, f2, f3, f4⟩ := F1.facts
  obtain ⟨g0, g1, g2, g3, g4⟩ := G1.facts
  have v0 := V1.c0
  have v1 := V1.c1
  have v2 := V1.c2
  have v3 := V1.f0
  have v4 := V1.f1
  have v5 := V1.f2
  have ne1 : w1.heap.size + 1 ≠ w.heap.size + 1 := by omega
  have ne2 : w.heap.size + 1 ≠ w1.heap.size + 1 := by omega
  have ne3 : w1.heap.size + 1 ≠ w.heap.size + 1 + 1 := by omega
  have ne4 : w.heap.size + 1 + 1 ≠ w1.heap.size + 1 := by omega
  have ne5 : w.heap.size ≠ w1.heap.size := by omega
  have ne6 : w1.heap.size ≠ w.heap.size := by omega
  have ne7 : w1.heap.size ≠ w.heap.size + 1 := by omega
  have ne8 : w.heap.size + 1 ≠ w1.heap.size := by omega
  go_wp2_with fail
  go_region
  go_wp2
  have hV := ((((V1.set0 (.slice none 0 0)).set1 (.int .i64 0)).set2 (.slice none 0 0)).far (p := ⟨w.heap.size + 2, 0, none⟩) (by simp) (.int .i64 6)).far (p := ⟨w.heap.size + 2, 1, none⟩) (by simp) (.int .i64 (-1))
  have hF := ((((F1.far (p := ⟨w.heap.size + 1, 0, none⟩) (by simp) (.slice none 0 0)).far (p := ⟨w.heap.size + 1, 1, none⟩) (by simp) (.int .i64 0)).far (p := ⟨w.heap.size + 1, 2, none⟩) (by simp) (.slice none 0 0)).set0 (.int .i64 6)).set1 (.int .i64 (-1))
  have r0 := hV.c0
  have r1 := hV.c1
  have r2 := hV.c2
  have r3 := hF.c0
  have r4 := hF.c1
  refine bodyPost_ret (v := .tuple #[.agg #[.slice none 0 0, .int .i64 0, .slice none 0 0], .agg #[.int .i64 6, .int .i64 (-1)]]) (by simp [results, Try.results23, go_sem, r0, r1, r2, r3, r4]) rfl ⟨rfl, ?_⟩
  exact belowD (((((Y1a.setCell (p := ⟨w.heap.size + 1, 0, none⟩) (by dsimp only; omega) (.slice none 0 0)).setCell (p := ⟨w.heap.size + 1, 1, none⟩) (by dsimp only; omega) (.int .i64 0)).setCell (p := ⟨w.heap.size + 1, 2, none⟩) (by dsimp only; omega) (.slice none 0 0)).setCell (p := ⟨w.heap.size + 2, 0, none⟩) (by dsimp only; omega) (.int .i64 6)).setCell (p := ⟨w.heap.size + 2, 1, none⟩) (by dsimp only; omega) (.int .i64 (-1)))
set_option maxHeartbeats 1600000 in
theorem open_ok {A : Option Addr} {n c : Nat} {l : List Nat} {w : World} (h : Rd w A n c (bcells (pack l))) (h01 : Is01 l) (hl : l.length ≤ 131072) :
    Calls Try.prog 23 #[.agg #[.slice A n c, .int .i64 (l.length : Nat)]] w fun e w' => ∃ A1 c1 A2 n2 c2, e = .returned (.tuple #[.agg #[.slice A1 n c1, .int .i64 (l.length : Nat), .slice A2 n2 c2], .agg #[.int .i64 0, .int .i64 0]]) ∧
      Rd w' A1 n c1 (bcells (pack l)) ∧ Rd w' A2 n2 c2 (ncells (sumsL l)) ∧ Below w.heap.size w w' := by
  have V0 := (Three.new1 w (.cells #[.slice A n c, .int .i64 (l.length : Nat)] 24) 48 (.slice none 0 0) (.int .i64 0) (.slice none 0 0)).alloc (.cells #[.int .i64 0, .int .i64 0] 29)
  have F0 := Two.new2 w (.cells #[.slice A n c, .int .i64 (l.length : Nat)] 24) (.cells #[.slice none 0 0, .int .i64 0, .slice none 0 0] 48) 29 (.int .i64 0) (.int .i64 0)
  have y0 : Below w.heap.size w (((w.alloc (.cells #[.slice A n c, .int .i64 (l.length : Nat)] 24)).alloc (.cells #[.slice none 0 0, .int .i64 0, .slice none 0 0] 48)).alloc (.cells #[.int .i64 0, .int .i64 0] 29)) := (((Below.refl _ _).alloc (Nat.le_refl _) _).alloc (by simp) _).alloc (by simp; omega) _
  have R0 := ((h.alloc (.cells #[.slice A n c, .int .i64 (l.length : Nat)] 24)).alloc (.cells #[.slice none 0 0, .int .i64 0, .slice none 0 0] 48)).alloc (.cells #[.int .i64 0, .int .i64 0] 29)
  have H01 := Lib.hid h01
  clear h01
  go_enter Try.func23, Try.ntmps23
  go_wp2_with fail
  refine (build_own R0 H01.out hl).mono ?_
  rintro e w1 ⟨A1, c1, A2, n2, c2, rfl, X1, S1, y1⟩
  have X1a := (X1.alloc (.cells #[.slice A1 n c1, .int .i64 (l.length : Nat), .slice A2 n2 c2] 27)).alloc (.cells #[.int .i64 0, .int .i64 0] 29)
  have S1a := (S1.alloc (.cells #[.slice A1 n c1, .int .i64 (l.length : Nat), .slice A2 n2 c2] 27)).alloc (.cells #[.int .i64 0, .int .i64 0] 29)
  have Y1 := y0.trans (y1.mono y0.size)
  have V1 := ((V0.on y1).alloc (.cells #[.slice A1 n c1, .int .i64 (l.length : Nat), .slice A2 n2 c2] 27)).alloc (.cells #[.int .i64 0, .int .i64 0] 29)
  have F1 := ((F0.on y1).alloc (.cells #[.slice A1 n c1, .int .i64 (l.length : Nat), .slice A2 n2 c2] 27)).alloc (.cells #[.int .i64 0, .int .i64 0] 29)
  have U1 := (Three.new w1 27 (.slice A1 n c1) (.int .i64 (l.length : Nat)) (.slice A2 n2 c2)).alloc (.cells #[.int .i64 0, .int .i64 0] 29)
  have Y1a := (Y1.alloc Y1.size (.cells #[.slice A1 n c1, .int .i64 (l.length : Nat), .slice A2 n2 c2] 27)).alloc (by have := Y1.size; simp; omega) (.cells #[.int .i64 0, .int .i64 0] 29)
  obtain ⟨f0, f1, f2, f3, f4⟩ := F1.facts
  have v0 := V1.c0
  have v1 := V1.c1
  have v2 := V1.c2
  have v3 := V1.f0
  have v4 := V1.f1
  have v5 := V1.f2
  have u0 := U1.c0
  have u1 := U1.c1
  have u2 := U1.c2
  go_wp2_with fail
  have hV := ((((V1.set0 (.slice A1 n c1)).set1 (.int .i64 (l.length : Nat))).set2 (.slice A2 n2 c2)).far (p := ⟨w.heap.size + 2, 0, none⟩) (by simp) (.int .i64 0)).far (p := ⟨w.heap.size + 2, 1, none⟩) (by simp) (.int .i64 0)
  have hF := ((((F1.far (p := ⟨w.heap.size + 1, 0, none⟩) (by simp) (.slice A1 n c1)).far (p := ⟨w.heap.size + 1, 1, none⟩) (by simp) (.int .i64 (l.length : Nat))).far (p := ⟨w.heap.size + 1, 2, none⟩) (by simp) (.slice A2 n2 c2)).set0 (.int .i64 0)).set1 (.int .i64 0)
  have r0 := hV.c0
  have r1 := hV.c1
  have r2 := hV.c2
  have r3 := hF.c0
  have r4 := hF.c1
  refine bodyPost_ret (v := .tuple #[.agg #[.slice A1 n c1, .int .i64 (l.length : Nat), .slice A2 n2 c2], .agg #[.int .i64 0, .int .i64 0]]) (by simp [results, Try.results23, go_sem, r0, r1, r2, r3, r4]) rfl ⟨A1, c1, A2, n2, c2, rfl, ?_, ?_, ((((Y1a.setCell (by dsimp only; omega) _).setCell (by dsimp only; omega) _).setCell (by dsimp only; omega) _).setCell (by dsimp only; omega) _).setCell (by dsimp only; omega) _⟩
  · have n1 := own_three_ne X1a V1 (by decide)
    have n2 := own_two_ne X1a F1 (by decide)
    exact Rd.own (own_far_any (own_far_any (own_far_any (own_far_any (own_far_any X1a n1 _) n1 _) n1 _) n2 _) n2 _)
  · have n1 := own_three_ne S1a V1 (by decide)
    have n2 := own_two_ne S1a F1 (by decide)
    exact Rd.own (own_far_any (own_far_any (own_far_any (own_far_any (own_far_any S1a n1 _) n1 _) n1 _) n2 _) n2 _)
set_option maxHeartbeats 800000 in
theorem rlen_any {v0 v2 : Value} {cnt : Int} (w : World) :
    Calls Try.prog 26 #[.agg #[v0, .int .i64 cnt, v2]] w fun e w' => e = .returned (.int .i64 cnt) ∧ Below w.heap.size w w' := by
  have V0 := Three.new w 48 v0 (.int .i64 cnt) v2
  have b1 := V0.c1
  go_enter Try.func26, Try.ntmps26
  go_wp2
  go_ret
  exact ⟨rfl, (Below.refl _ _).alloc (Nat.le_refl _) _⟩
set_option maxHeartbeats 800000 in
theorem rrank_meth {A : Option Addr} {n c : Nat} {l : List Nat} {A2 : Option Addr} {n2 c2 : Nat} {ii : Int} {r : Nat} {w : World} (h : Rd w A n c (bcells (pack l))) (h2 : Rd w A2 n2 c2 (ncells (sumsL l))) (h01 : Is01 l) (hl : l.length ≤ 131072) (hlo : -9223372036854775808 ≤ ii) (hhi : ii ≤ 9223372036854775807) (hr : r = ones (l.take ii.toNat)) :
    Calls Try.prog 25 #[.agg #[.slice A n c, .int .i64 (l.length : Nat), .slice A2 n2 c2], .int .i64 ii] w fun e w' => e = .returned (.int .i64 (r : Nat)) ∧ Below w.heap.size w w' := by
  have V0 := Three.new w 48 (.slice A n c) (.int .i64 (l.length : Nat)) (.slice A2 n2 c2)
  have y0 : Below w.heap.size w (w.alloc (.cells #[.slice A n c, .int .i64 (l.length : Nat), .slice A2 n2 c2] 48)) := (Below.refl _ _).alloc (Nat.le_refl _) _
  have R0 := h.alloc (.cells #[.slice A n c, .int .i64 (l.length : Nat), .slice A2 n2 c2] 48)
  have S0 := h2.alloc (.cells #[.slice A n c, .int .i64 (l.length : Nat), .slice A2 n2 c2] 48)
  have H01 := Lib.hid h01
  have HR := Lib.hid hr
  clear h01 hr
  by_cases hneg : ii ≤ 0 ∨ l.length = 0
  · have hr0 : r = 0 := by
      rw [HR.out]
      rcases hneg with h1 | h1
      · rw [show ii.toNat = 0 by omega]; rfl
      · rw [List.eq_nil_of_length_eq_zero h1]; simp [ones]
    have HR0 := Lib.hid hr0
    clear hr0
    rcases hneg with hneg | hneg
    · rcases (by omega : ii < 0 ∨ ii = 0) with hn | rfl
      · go_enter Try.func25, Try.ntmps25
        go_wp2_with fail
        refine (rlen_any _).mono ?_
        rintro e w1 ⟨rfl, y1⟩
        have Y1 := y0.trans (y1.mono y0.size)
        go_wp2
        go_ret
        exact ⟨ret_int (by rw [HR0.out]; rfl), Y1⟩
      · go_enter Try.func25, Try.ntmps25
        go_wp2_with fail
        refine (rlen_any _).mono ?_
        rintro e w1 ⟨rfl, y1⟩
        have Y1 := y0.trans (y1.mono y0.size)
        go_wp2
        go_ret
        exact ⟨ret_int (by rw [HR0.out]; rfl), Y1⟩
    · obtain rfl := List.eq_nil_of_length_eq_zero hneg
      clear hneg
      have hz : ((([] : List Nat).length : Nat) : Int) = 0 := rfl
      rw [hz] at V0 y0 R0 S0 ⊢
      clear hz
      rcases (by omega : ii < 0 ∨ ii = 0 ∨ 0 < ii) with hn | rfl | hn
      · go_enter Try.func25, Try.ntmps25
        go_wp2_with fail
        refine (rlen_any _).mono ?_
        rintro e w1 ⟨rfl, y1⟩
        have Y1 := y0.trans (y1.mono y0.size)
        go_wp2
        go_ret
        exact ⟨ret_int (by rw [HR0.out]; rfl), Y1⟩
      · go_enter Try.func25, Try.ntmps25
        go_wp2_with fail
        refine (rlen_any _).mono ?_
        rintro e w1 ⟨rfl, y1⟩
        have Y1 := y0.trans (y1.mono y0.size)
        go_wp2
        go_ret
        exact ⟨ret_int (by rw [HR0.out]; rfl), Y1⟩
      · go_enter Try.func25, Try.ntmps25
        go_wp2_with fail
        refine (rlen_any _).mono ?_
        rintro e w1 ⟨rfl, y1⟩
        have Y1 := y0.trans (y1.mono y0.size)
        go_wp2
        go_ret
        exact ⟨ret_int (by rw [HR0.out]; rfl), Y1⟩
  · have hpos : 0 < ii := by omega
    have hlen : 0 < l.length := by omega
    by_cases hin : ii ≤ (l.length : Int)
    · obtain ⟨q, rfl⟩ := Int.eq_ofNat_of_zero_le (show 0 ≤ ii by omega)
      rw [Int.toNat_natCast] at HR
      have hq1 : 0 < q := by omega
      have hq2 : q ≤ l.length := by omega
      have hq3 : ((q : Int) == 0) = false := by rw [beq_eq_false_iff_ne]; omega
      go_enter Try.func25, Try.ntmps25
      go_wp2_with fail
      refine (rlen_any _).mono ?_
      rintro e w1 ⟨rfl, y1⟩
      have Y1 := y0.trans (y1.mono y0.size)
      have V1 := V0.on y1
      have R1 := R0.on y1
      have S1 := S0.on y1
      have v0 := V1.c0
      have v1 := V1.c1
      have v2 := V1.c2
      go_wp2_with fail
      refine (rrank_any R1 S1 H01.out hl q _ rfl hq2 _ r HR.out).mono ?_
      rintro e w2 ⟨rfl, y2⟩
      go_wp2
      go_ret
      exact ⟨rfl, Y1.trans (y2.mono Y1.size)⟩
    · have hout : (l.length : Int) < ii := by omega
      have hq3 : (((l.length : Nat) : Int) == 0) = false := by rw [beq_eq_false_iff_ne]; omega
      have HR2 := Lib.hid (show r = ones (l.take l.length) by rw [HR.out, List.take_of_length_le (by omega), List.take_of_length_le (Nat.le_refl _)])
      go_enter Try.func25, Try.ntmps25
      go_wp2_with fail
      refine (rlen_any _).mono ?_
      rintro e w1 ⟨rfl, y1⟩
      have Y1 := y0.trans (y1.mono y0.size)
      have V1 := V0.on y1
      have R1 := R0.on y1
      have S1 := S0.on y1
      have v0 := V1.c0
      have v1 := V1.c1
      have v2 := V1.c2
      go_wp2_with fail
      refine (rrank_any R1 S1 H01.out hl l.length _ rfl (Nat.le_refl _) _ r HR2.out).mono ?_
      rintro e w2 ⟨rfl, y2⟩
      go_wp2
      go_ret
      exact ⟨rfl, Y1.trans (y2.mono Y1.size)⟩
/-- Whether a bit is a one: what Bit says. -/
def BitIs (l : List Nat) (ii : Int) : Bool := decide (0 ≤ ii ∧ ii < (l.length : Int) ∧ l.getD ii.toNat 0 = 1)
set_option maxHeartbeats 1600000 in
theorem rbit_meth {A : Option Addr} {n c : Nat} {l : List Nat} {A2 : Option Addr} {n2 c2 : Nat} {ii : Int} {r : Bool} {w : World} (h : Rd w A n c (bcells (pack l))) (h2 : Rd w A2 n2 c2 (ncells (sumsL l))) (h01 : Is01 l) (hl : l.length ≤ 131072) (hlo : -9223372036854775808 ≤ ii) (hhi : ii ≤ 9223372036854775807) (hr : r = BitIs l ii) :
    Calls Try.prog 24 #[.agg #[.slice A n c, .int .i64 (l.length : Nat), .slice A2 n2 c2], .int .i64 ii] w fun e w' => e = .returned (.bool r) ∧ Below w.heap.size w w' := by
  have V0 := Three.new w 48 (.slice A n c) (.int .i64 (l.length : Nat)) (.slice A2 n2 c2)
  have y0 : Below w.heap.size w (w.alloc (.cells #[.slice A n c, .int .i64 (l.length : Nat), .slice A2 n2 c2] 48)) := (Below.refl _ _).alloc (Nat.le_refl _) _
  have R0 := h.alloc (.cells #[.slice A n c, .int .i64 (l.length : Nat), .slice A2 n2 c2] 48)
  have S0 := h2.alloc (.cells #[.slice A n c, .int .i64 (l.length : Nat), .slice A2 n2 c2] 48)
  have H01 := Lib.hid h01
  unfold BitIs at hr
  by_cases hneg : ii < 0
  · obtain rfl : r = false := by rw [hr, decide_eq_false_iff_not]; omega
    have q1 : decide (0 ≤ ii) = false := by simp; omega
    clear hr
    go_enter Try.func24, Try.ntmps24
    go_wp2
    go_ret
    exact ⟨rfl, y0⟩
  have q1 : decide (0 ≤ ii) = true := by simp; omega
  by_cases hout : (l.length : Int) ≤ ii
  · obtain rfl : r = false := by rw [hr, decide_eq_false_iff_not]; omega
    have q2 : decide (ii < ((l.length : Nat) : Int)) = false := by simp; omega
    clear hr
    go_enter Try.func24, Try.ntmps24
    go_wp2_with fail
    refine (rlen_any _).mono ?_
    rintro e w1 ⟨rfl, y1⟩
    go_wp2
    go_ret
    exact ⟨rfl, y0.trans (y1.mono y0.size)⟩
  obtain ⟨q, rfl⟩ := Int.eq_ofNat_of_zero_le (show 0 ≤ ii by omega)
  have hql : q < l.length := by omega
  obtain ⟨T, hT⟩ : ∃ T, T = ones (l.take q) := ⟨_, rfl⟩
  obtain ⟨b, hb⟩ : ∃ b, b = l.getD q 0 := ⟨_, rfl⟩
  have hT2 : ones (l.take (q + 1)) = T + b := by rw [ones_take_succ l q hql, hT, hb]
  obtain ⟨T1, hT1⟩ : ∃ T1, T1 = ones (l.take (q + 1)) := ⟨_, rfl⟩
  have hTT : decide (T < T1) = r := by
    rw [hr, hT1, hT2, Int.toNat_natCast, ← hb]
    have : b < 2 := by rw [hb]; exact h01 _
    rw [Bool.eq_iff_iff]
    simp only [decide_eq_true_eq]
    omega
  have HTT := Lib.hid hTT
  have HT := Lib.hid (show T = ones (l.take ((q : Nat) : Int).toNat) by rw [Int.toNat_natCast]; exact hT)
  have HT1 := Lib.hid (show T1 = ones (l.take (((q : Nat) : Int) + 1).toNat) by rw [show (((q : Nat) : Int) + 1).toNat = q + 1 by omega]; exact hT1)
  clear hr h01 hT hb hT2 hT1 hTT
  go_enter Try.func24, Try.ntmps24
  go_wp2_with fail
  refine (rlen_any _).mono ?_
  rintro e w1 ⟨rfl, y1⟩
  have Y1 := y0.trans (y1.mono y0.size)
  go_wp2_with fail
  refine (rrank_meth (R0.on y1) (S0.on y1) H01.out hl (by omega) (by omega) HT1.out).mono ?_
  rintro e w2 ⟨rfl, y2⟩
  have Y2 := Y1.trans (y2.mono Y1.size)
  go_wp2_with fail
  refine (rrank_meth ((R0.on y1).on y2) ((S0.on y1).on y2) H01.out hl (by omega) (by omega) HT.out).mono ?_
  rintro e w3 ⟨rfl, y3⟩
  have Y3 := Y2.trans (y3.mono Y2.size)
  go_wp2
  all_goals
    go_ret
    exact ⟨ret_bool HTT.out, Y3⟩
end PB
end Go.Proofs.Ytckimocmppdecaa
