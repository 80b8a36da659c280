/-
  What model.Predict and the law-side predictFault answer, for every argument; the closed examples of package model.
-/
import Derived.Test.YtmkkbedbgkhbpaaRows
import Derived.Test.YtmkkbedbgkhbpaaMdCounts
import Derived.Deep.RegionHeld3
import Derived.Deep.DrawnRows
import Derived.Deep.Cut
namespace Go.Proofs.Ytmkkbedbgkhbpaa
open Go.RowKit
attribute [local go_sem ↓] Go.wp_at_zero Go.wp_at_succ
set_option linter.unusedVariables false
set_option linter.unusedSimpArgs false
namespace PB
theorem icells_length (l : List Int) : (icells l).length = l.length := by simp [icells]
/-- Up to where two lists agree. -/
theorem same_upto (xs ys : List Int) (hl : xs.length = ys.length) : ∃ q, q ≤ xs.length ∧ (∀ i, i < q → xs[i]? = ys[i]?) ∧ (q < xs.length → xs[q]? ≠ ys[q]?) := by
  by_cases h : ∃ i, i < xs.length ∧ xs[i]? ≠ ys[i]?
  · obtain ⟨i0, h0⟩ := h
    induction i0 using Nat.strongRecOn with
    | _ i0 ih =>
      by_cases h1 : ∃ i, i < i0 ∧ i < xs.length ∧ xs[i]? ≠ ys[i]?
      · obtain ⟨i, hi, hh⟩ := h1
        exact ih i hi hh
      · refine ⟨i0, by omega, fun i hi => ?_, fun _ => h0.2⟩
        by_cases h4 : xs[i]? = ys[i]?
        · exact h4
        · exact absurd ⟨i, hi, by omega, h4⟩ h1
  · refine ⟨xs.length, Nat.le_refl _, fun i hi => ?_, fun h => absurd h (by omega)⟩
    by_cases h4 : xs[i]? = ys[i]?
    · exact h4
    · exact absurd ⟨i, hi, h4⟩ h
set_option maxHeartbeats 400000 in
/-- Ints: whether two lists are equal. -/
theorem ints_any {A : Option Addr} {n c : Nat} {xs : List Int} {A2 : Option Addr} {n2 c2 : Nat} {ys : List Int} {w : World} (h : Rd w A n c (icells xs)) (h2 : Rd w A2 n2 c2 (icells ys)) (r : Bool) (hr : r = decide (xs = ys)) :
    Calls Try.prog 13 #[.slice A n c, .slice A2 n2 c2] w fun e w' => e = .returned (.bool r) ∧ Below w.heap.size w w' := by
  have hn := h.len
  have hn2 := h2.len
  have hcap := Reads.cap h
  have hcm := Reads.capMax h
  have hcap2 := Reads.cap h2
  have hcm2 := Reads.capMax h2
  unfold maxLen at hcm hcm2
  rw [icells_length] at hn hn2
  by_cases hnn : n = n2
  case neg =>
    obtain rfl : r = false := by
      rw [hr, decide_eq_false_iff_not]
      rintro rfl
      omega
    have hne : ((n : Int) != (n2 : Int)) = true := by rw [bne_iff_ne]; omega
    clear hr hnn
    go_enter Try.func13, Try.ntmps13
    go_wp2
    go_ret
    exact ⟨rfl, Below.refl _ _⟩
  obtain ⟨q, hq, hsame, hend⟩ := same_upto xs ys (by omega)
  subst hnn
  have HS := Lib.hid hsame
  have HE := Lib.hid hend
  have HR := Lib.hid hr
  have HN := Lib.hid hn
  have HN2 := Lib.hid hn2
  have hqn : q ≤ n := by omega
  have hne : ((n : Int) != (n : Int)) = false := by simp
  clear hsame hend hr hn hn2 hq
  go_enter Try.func13, Try.ntmps13
  go_wp2
  go_loopw [5] (fun i wr => ∃ k : Nat, k ≤ q ∧ i = .int .i64 k ∧ Below w.heap.size w wr) (fun i _ => n - (intOf i).toNat)
  case atStart => exact ⟨0, Nat.zero_le _, rfl, Below.refl _ _⟩
  case round =>
    obtain ⟨k, hk, rfl, yr⟩ := hrel
    by_cases hlt : k < n
    · obtain ⟨g, off, rfl, hg, hc⟩ := (h.on yr).2.2.2 (by omega)
      obtain ⟨g2, off2, rfl, hg2, hc2⟩ := (h2.on yr).2.2.2 (by omega)
      obtain ⟨x, hx, cx⟩ : ∃ x, xs[k]? = some x ∧ wr.cell? ⟨g, off + k, none⟩ = some (.int .i64 x) := by
        have e : xs[k]? = some (xs[k]'(by rw [HN.out]; exact hlt)) := List.getElem?_eq_getElem _
        exact ⟨_, e, hc k _ (by rw [icells, List.getElem?_map, e]; rfl)⟩
      obtain ⟨y, hy, cy⟩ : ∃ y, ys[k]? = some y ∧ wr.cell? ⟨g2, off2 + k, none⟩ = some (.int .i64 y) := by
        have e : ys[k]? = some (ys[k]'(by rw [HN2.out]; exact hlt)) := List.getElem?_eq_getElem _
        exact ⟨_, e, hc2 k _ (by rw [icells, List.getElem?_map, e]; rfl)⟩
      have HX := Lib.hid hx
      have HY := Lib.hid hy
      clear hc hc2 hx hy
      have i1 : (0 : Int) ≤ (k : Int) := by omega
      have i2 : (k : Int) < (n : Int) := by omega
      by_cases hkq : k < q
      · have hxy : x = y := by
          have := HS.out k hkq
          rw [HX.out, HY.out] at this
          injection this
        have hb : (x != y) = false := by rw [hxy]; simp
        have HXY := Lib.hid hxy
        clear hxy
        go_wp2_with fail
        go_quiet (fail)
        go_wp2
        go_roundw
        case rel => exact ⟨k + 1, by omega, by go_num, belowN yr nq⟩
        case measure => simp [intOf]; omega
      · obtain rfl : k = q := by omega
        have hxy : x ≠ y := by
          intro e
          have := HE.out (by rw [HN.out]; exact hlt)
          rw [HX.out, HY.out, e] at this
          exact this rfl
        have hb : (x != y) = true := by rw [bne_iff_ne]; exact hxy
        have hrf : r = false := by
          rw [HR.out, decide_eq_false_iff_not]
          intro e
          have := HX.out
          rw [e, HY.out] at this
          injection this with this
          exact hxy this.symm
        have HRF := Lib.hid hrf
        clear hxy hrf
        go_wp2_with fail
        go_quiet (fail)
        go_wp2
        go_ret
        exact ⟨ret_bool HRF.out.symm, belowN yr nq⟩
    · obtain rfl : k = n := by omega
      have hrt : r = true := by
        rw [HR.out, decide_eq_true_eq]
        refine List.ext_getElem? fun i => ?_
        rcases Nat.lt_or_ge i k with hi | hi
        · exact HS.out i (by omega)
        · rw [List.getElem?_eq_none (by rw [HN.out]; exact hi), List.getElem?_eq_none (by rw [HN2.out]; exact hi)]
      have HRT := Lib.hid hrt
      clear hrt
      go_wp2
      go_ret
      exact ⟨ret_bool HRT.out.symm, yr⟩
/-- The fault of Predict. -/
def POut (oi : Int) (xs : List Int) (code idx : Int) : Prop :=
  (¬ (0 ≤ oi ∧ oi ≤ 2) ∧ code = 4 ∧ idx = -1) ∨ ((0 ≤ oi ∧ oi ≤ 2) ∧ 8192 ≤ xs.length ∧ code = 2 ∧ idx = -2) ∨
  ((0 ≤ oi ∧ oi ≤ 2) ∧ xs.length < 8192 ∧ (∃ q : Nat, q < xs.length ∧ BitsTo xs q ∧ ¬ IsBit (xs.getD q 0) ∧ idx = (q : Nat)) ∧ code = 6) ∨
  ((0 ≤ oi ∧ oi ≤ 2) ∧ xs.length < 8192 ∧ BitsTo xs xs.length ∧ code = 0 ∧ idx = 0)
theorem pout_ex (oi : Int) (xs : List Int) : ∃ code idx, POut oi xs code idx := by
  by_cases h1 : 0 ≤ oi ∧ oi ≤ 2
  · by_cases h2 : xs.length < 8192
    · rcases bits_ex xs with h3 | ⟨q, h3, h4, h5⟩
      · exact ⟨0, 0, .inr (.inr (.inr ⟨h1, h2, h3, rfl, rfl⟩))⟩
      · exact ⟨6, _, .inr (.inr (.inl ⟨h1, h2, ⟨q, h3, h4, h5, rfl⟩, rfl⟩))⟩
    · exact ⟨2, -2, .inr (.inl ⟨h1, by omega, rfl, rfl⟩)⟩
  · exact ⟨4, -1, .inl ⟨h1, rfl, rfl⟩⟩
theorem pout_ok {oi : Int} {xs : List Int} {code idx : Int} (h : POut oi xs code idx) (hc : code = 0) : (0 ≤ oi ∧ oi ≤ 2) ∧ xs.length < 8192 ∧ BitsTo xs xs.length ∧ idx = 0 := by
  rcases h with ⟨_, h, _⟩ | ⟨_, _, h, _⟩ | ⟨_, _, _, h⟩ | ⟨h1, h2, h3, _, h4⟩
  · omega
  · omega
  · omega
  · exact ⟨h1, h2, h3, h4⟩
theorem mpredict_any {A : Option Addr} {n c : Nat} {xs : List Int} {w : World} (h : Rd w A n c (icells xs)) (oi code idx : Int) (hC : POut oi xs code idx) (X : List Nat) (hX : X = if code = 0 then allpreds oi.toNat (toBits xs) else []) (k : Nat) (hk : k = X.length) :
    Calls Try.prog 8 #[.int .i64 oi, .slice A n c] w fun e w' => ∃ A' c', e = .returned (.tuple #[.slice A' k c', .agg #[.int .i64 code, .int .i64 idx]]) ∧ Rd w' A' k c' (ncells X) ∧ Below w.heap.size w w' := by
  rcases hC with ⟨h1, rfl, rfl⟩ | ⟨h1, h2, rfl, rfl⟩ | ⟨h1, h2, ⟨q, h3, h4, h5, rfl⟩, rfl⟩ | ⟨h1, h2, h3, rfl, rfl⟩
  · rw [if_neg (by decide)] at hX
    subst hX hk
    refine (predict_range h oi h1).mono ?_
    rintro e w' ⟨rfl, hb⟩
    exact ⟨none, 0, rfl, Rd.none_ w', hb⟩
  · rw [if_neg (by decide)] at hX
    subst hX hk
    refine (predict_long h oi h1 h2).mono ?_
    rintro e w' ⟨rfl, hb⟩
    exact ⟨none, 0, rfl, Rd.none_ w', hb⟩
  · rw [if_neg (by decide)] at hX
    subst hX hk
    refine (predict_bad h oi h1 h2 q h3 h4 h5).mono ?_
    rintro e w' ⟨rfl, hb⟩
    exact ⟨none, 0, rfl, Rd.none_ w', hb⟩
  · rw [if_pos rfl] at hX
    have hn := h.len
    simp only [icells, List.length_map] at hn
    obtain rfl : k = n + 1 := by rw [hk, hX]; unfold allpreds; rw [List.length_map, List.length_range, toBits_length, hn]
    subst hX
    refine (predict_ok h oi h1 h2 h3).mono ?_
    rintro e w' ⟨A', c', rfl, ho, hb⟩
    exact ⟨A', c', rfl, Rd.own ho, hb⟩
set_option maxRecDepth 100000 in
set_option maxHeartbeats 1600000 in
theorem pfault_range {A : Option Addr} {n c : Nat} {xs : List Int} (w : World) (h : Rd w A n c (icells xs)) (oi : Int) (ho : ¬ (0 ≤ oi ∧ oi ≤ 2)) :
    Calls Try.prog 9 #[.int .i64 oi, .slice A n c] w fun e w' => e = .returned (.agg #[.int .i64 4, .int .i64 (-1)]) ∧ Below w.heap.size w w' := by
  have hn := h.len
  simp only [icells, List.length_map] at hn
  subst hn
  have hcap := Reads.cap h
  have hcm := Reads.capMax h
  unfold maxLen at hcm
  have HO := Lib.hid (show oi < 0 ∨ 2 < oi by omega)
  clear ho
  have R_0 := (h).alloc (.cells #[.int .i64 0, .int .i64 0] 24)
  have M_0 := (Two.new w 24 (.int .i64 0) (.int .i64 0))
  have Z0 := (Below.refl w.heap.size w).alloc (by simp) (.cells #[.int .i64 0, .int .i64 0] 24)
  have M_0_c0 := M_0.c0
  have M_0_c1 := M_0.c1
  have M_0_f0 := M_0.f0
  have M_0_f1 := M_0.f1
  go_enter Try.func9, Try.ntmps9
  go_wp2_with fail
  refine (in_no _ _ _ _ HO.out).mono ?_
  rintro e w9_1 ⟨rfl, rfl⟩
  go_wp2_with fail
  refine (refat_any _ _ _).mono ?_
  rintro e w1 ⟨rfl, y1⟩
  have R_1 := R_0.on y1
  have M_1 := M_0.on y1
  clear R_0 M_0 M_0_c0 M_0_c1 M_0_f0 M_0_f1
  have z1 := Z0.trans (y1.mono Z0.size)
  have Z1 := z1
  have M_1_c0 := M_1.c0
  have M_1_c1 := M_1.c1
  have M_1_f0 := M_1.f0
  have M_1_f1 := M_1.f1
  go_wp2
  have rM := (((M_1.set0 (.int .i64 4)).set1 (.int .i64 (-1))))
  have rM_0 := rM.c0
  have rM_1 := rM.c1
  exact bodyPost_ret (v := .agg #[.int .i64 4, .int .i64 (-1)]) (by simp [results, Try.results9, go_sem, rM_0, rM_1]) rfl ⟨rfl, ((Z1.setCell (p := ⟨w.heap.size, 0, none⟩) (by simp) (.int .i64 4)).setCell (p := ⟨w.heap.size, 1, none⟩) (by simp) (.int .i64 (-1)))⟩
set_option maxRecDepth 100000 in
set_option maxHeartbeats 1600000 in
theorem pfault_long {A : Option Addr} {n c : Nat} {xs : List Int} (w : World) (h : Rd w A n c (icells xs)) (oi : Int) (ho : 0 ≤ oi ∧ oi ≤ 2) (hl : 8192 ≤ xs.length) :
    Calls Try.prog 9 #[.int .i64 oi, .slice A n c] w fun e w' => e = .returned (.agg #[.int .i64 2, .int .i64 (-2)]) ∧ Below w.heap.size w w' := by
  have hn := h.len
  simp only [icells, List.length_map] at hn
  subst hn
  have hcap := Reads.cap h
  have hcm := Reads.capMax h
  unfold maxLen at hcm
  have HO1 := Lib.hid ho.1
  have HO2 := Lib.hid ho.2
  clear ho
  have k2 : decide ((8192 : Int) ≤ (xs.length : Int)) = true := by simp; omega
  clear hl
  have R_0 := (h).alloc (.cells #[.int .i64 0, .int .i64 0] 24)
  have M_0 := (Two.new w 24 (.int .i64 0) (.int .i64 0))
  have Z0 := (Below.refl w.heap.size w).alloc (by simp) (.cells #[.int .i64 0, .int .i64 0] 24)
  have M_0_c0 := M_0.c0
  have M_0_c1 := M_0.c1
  have M_0_f0 := M_0.f0
  have M_0_f1 := M_0.f1
  go_enter Try.func9, Try.ntmps9
  go_wp2_with fail
  refine (in_yes _ _ _ _ HO1.out HO2.out).mono ?_
  rintro e w9_1 ⟨rfl, rfl⟩
  go_wp2_with fail
  refine (refat_any _ _ _).mono ?_
  rintro e w1 ⟨rfl, y1⟩
  have R_1 := R_0.on y1
  have M_1 := M_0.on y1
  clear R_0 M_0 M_0_c0 M_0_c1 M_0_f0 M_0_f1
  have z1 := Z0.trans (y1.mono Z0.size)
  have Z1 := z1
  have M_1_c0 := M_1.c0
  have M_1_c1 := M_1.c1
  have M_1_f0 := M_1.f0
  have M_1_f1 := M_1.f1
  go_wp2
  have rM := (((M_1.set0 (.int .i64 2)).set1 (.int .i64 (-2))))
  have rM_0 := rM.c0
  have rM_1 := rM.c1
  exact bodyPost_ret (v := .agg #[.int .i64 2, .int .i64 (-2)]) (by simp [results, Try.results9, go_sem, rM_0, rM_1]) rfl ⟨rfl, ((Z1.setCell (p := ⟨w.heap.size, 0, none⟩) (by simp) (.int .i64 2)).setCell (p := ⟨w.heap.size, 1, none⟩) (by simp) (.int .i64 (-2)))⟩
set_option maxRecDepth 100000 in
set_option maxHeartbeats 1600000 in
theorem pfault_bad {A : Option Addr} {n c : Nat} {xs : List Int} (w : World) (h : Rd w A n c (icells xs)) (oi : Int) (ho : 0 ≤ oi ∧ oi ≤ 2) (hl : xs.length < 8192) (q : Nat) (hi : q < xs.length) (hb : BitsTo xs q) (hbad : ¬ IsBit (xs.getD q 0)) :
    Calls Try.prog 9 #[.int .i64 oi, .slice A n c] w fun e w' => e = .returned (.agg #[.int .i64 6, .int .i64 (q : Nat)]) ∧ Below w.heap.size w w' := by
  have hn := h.len
  simp only [icells, List.length_map] at hn
  subst hn
  have hcap := Reads.cap h
  have hcm := Reads.capMax h
  unfold maxLen at hcm
  have HO1 := Lib.hid ho.1
  have HO2 := Lib.hid ho.2
  clear ho
  have k2 : decide ((8192 : Int) ≤ (xs.length : Int)) = false := by simp; omega
  clear hl
  have HBL := Lib.hid (fun (W : World) (hW : Rd W A xs.length c (icells xs)) => bitlist_bad hW q hi hb hbad)
  clear hi hb hbad
  have R_0 := (h).alloc (.cells #[.int .i64 0, .int .i64 0] 24)
  have M_0 := (Two.new w 24 (.int .i64 0) (.int .i64 0))
  have Z0 := (Below.refl w.heap.size w).alloc (by simp) (.cells #[.int .i64 0, .int .i64 0] 24)
  have M_0_c0 := M_0.c0
  have M_0_c1 := M_0.c1
  have M_0_f0 := M_0.f0
  have M_0_f1 := M_0.f1
  go_enter Try.func9, Try.ntmps9
  go_wp2_with fail
  refine (in_yes _ _ _ _ HO1.out HO2.out).mono ?_
  rintro e w9_1 ⟨rfl, rfl⟩
  go_wp2_with fail
  refine (HBL.out _ R_0).mono ?_
  rintro e w9_2 ⟨rfl, rfl⟩
  go_wp2_with fail
  refine (refat_any _ _ _).mono ?_
  rintro e w1 ⟨rfl, y1⟩
  have R_1 := R_0.on y1
  have M_1 := M_0.on y1
  clear R_0 M_0 M_0_c0 M_0_c1 M_0_f0 M_0_f1
  have z1 := Z0.trans (y1.mono Z0.size)
  have Z1 := z1
  have M_1_c0 := M_1.c0
  have M_1_c1 := M_1.c1
  have M_1_f0 := M_1.f0
  have M_1_f1 := M_1.f1
  go_wp2
  have rM := (((M_1.set0 (.int .i64 6)).set1 (.int .i64 (q : Nat))))
  have rM_0 := rM.c0
  have rM_1 := rM.c1
  exact bodyPost_ret (v := .agg #[.int .i64 6, .int .i64 (q : Nat)]) (by simp [results, Try.results9, go_sem, rM_0, rM_1]) rfl ⟨rfl, ((Z1.setCell (p := ⟨w.heap.size, 0, none⟩) (by simp) (.int .i64 6)).setCell (p := ⟨w.heap.size, 1, none⟩) (by simp) (.int .i64 (q : Nat)))⟩
set_option maxRecDepth 100000 in
set_option maxHeartbeats 1600000 in
theorem pfault_ok {A : Option Addr} {n c : Nat} {xs : List Int} (w : World) (h : Rd w A n c (icells xs)) (oi : Int) (ho : 0 ≤ oi ∧ oi ≤ 2) (hl : xs.length < 8192) (hb : BitsTo xs xs.length) :
    Calls Try.prog 9 #[.int .i64 oi, .slice A n c] w fun e w' => e = .returned (.agg #[.int .i64 0, .int .i64 0]) ∧ Below w.heap.size w w' := by
  have hn := h.len
  simp only [icells, List.length_map] at hn
  subst hn
  have hcap := Reads.cap h
  have hcm := Reads.capMax h
  unfold maxLen at hcm
  have HO1 := Lib.hid ho.1
  have HO2 := Lib.hid ho.2
  clear ho
  have k2 : decide ((8192 : Int) ≤ (xs.length : Int)) = false := by simp; omega
  clear hl
  have HBL := Lib.hid (fun (W : World) (hW : Rd W A xs.length c (icells xs)) => bitlist_ok hW hb)
  clear hb
  have R_0 := (h).alloc (.cells #[.int .i64 0, .int .i64 0] 24)
  have M_0 := (Two.new w 24 (.int .i64 0) (.int .i64 0))
  have Z0 := (Below.refl w.heap.size w).alloc (by simp) (.cells #[.int .i64 0, .int .i64 0] 24)
  have M_0_c0 := M_0.c0
  have M_0_c1 := M_0.c1
  have M_0_f0 := M_0.f0
  have M_0_f1 := M_0.f1
  go_enter Try.func9, Try.ntmps9
  go_wp2_with fail
  refine (in_yes _ _ _ _ HO1.out HO2.out).mono ?_
  rintro e w9_1 ⟨rfl, rfl⟩
  go_wp2_with fail
  refine (HBL.out _ R_0).mono ?_
  rintro e w9_2 ⟨rfl, rfl⟩
  go_wp2
  have rM := (M_0)
  have rM_0 := rM.c0
  have rM_1 := rM.c1
  exact bodyPost_ret (v := .agg #[.int .i64 0, .int .i64 0]) (by simp [results, Try.results9, go_sem, rM_0, rM_1]) rfl ⟨rfl, Z0⟩
theorem pfault_any {A : Option Addr} {n c : Nat} {xs : List Int} {w : World} (h : Rd w A n c (icells xs)) (oi code idx : Int) (hC : POut oi xs code idx) :
    Calls Try.prog 9 #[.int .i64 oi, .slice A n c] w fun e w' => e = .returned (.agg #[.int .i64 code, .int .i64 idx]) ∧ Below w.heap.size w w' := by
  rcases hC with ⟨h1, rfl, rfl⟩ | ⟨h1, h2, rfl, rfl⟩ | ⟨h1, h2, ⟨q, h3, h4, h5, rfl⟩, rfl⟩ | ⟨h1, h2, h3, rfl, rfl⟩
  · exact pfault_range w h oi h1
  · exact pfault_long w h oi h1 h2
  · exact pfault_bad w h oi h1 h2 q h3 h4 h5
  · exact pfault_ok w h oi h1 h2 h3
theorem Rd.lit8 (w : World) (z : Int) (t : TypeId) : Rd (w.alloc (.cells #[.int .i64 z, .int .i64 z, .int .i64 z, .int .i64 z, .int .i64 z, .int .i64 z, .int .i64 z, .int .i64 z] t)) (some ⟨w.heap.size, 0, none⟩) 8 8 (icells [z, z, z, z, z, z, z, z]) := by
  have hB := Blk.new w t #[.int .i64 z, .int .i64 z, .int .i64 z, .int .i64 z, .int .i64 z, .int .i64 z, .int .i64 z, .int .i64 z]
  refine ⟨rfl, Nat.le_refl _, by decide, fun _ => ⟨w.heap.size, 0, rfl, by simp, fun i x hx => ?_⟩⟩
  have := Blk.cell hB i
  rw [Nat.zero_add, this]
  simpa [icells] using hx
theorem allpreds_getD (ord : Nat) (h : List Nat) (i : Nat) (hi : i ≤ h.length) : (allpreds ord h).getD i 0 = predv h i ord := by
  unfold allpreds
  rw [List.getD_eq_getElem?_getD, List.getElem?_map, List.getElem?_range (by omega)]
  rfl
theorem allpreds_length (ord : Nat) (h : List Nat) : (allpreds ord h).length = h.length + 1 := by
  unfold allpreds
  rw [List.length_map, List.length_range]
theorem ncells_toBits {xs : List Int} (h : BitsTo xs xs.length) : ncells (toBits xs) = icells xs := by
  unfold ncells toBits icells
  rw [List.map_map]
  refine List.map_congr_left fun x hx => ?_
  obtain ⟨i, hi, rfl⟩ := List.getElem_of_mem hx
  have := h i hi
  rw [List.getD_eq_getElem?_getD, List.getElem?_eq_getElem hi] at this
  show Value.int .i64 (((xs[i]).toNat : Nat) : Int) = Value.int .i64 xs[i]
  congr 1
  rcases this with e | e <;> (simp only [Option.getD_some] at e; rw [e]; rfl)
theorem ex_preds : (allpreds 0 (toBits [1, 1, 1, 1, 1, 1, 1, 1])).getD 0 0 = 2048 ∧ (allpreds 0 (toBits [1, 1, 1, 1, 1, 1, 1, 1])).getD 8 0 = 2560 := by
  decide
set_option maxRecDepth 100000 in
set_option maxHeartbeats 1600000 in
theorem predicts_true (w : World) : Calls Try.prog 10 #[] w fun e w' => e = .returned (.bool true) ∧ Below w.heap.size w w' := by
  have Z0 := Below.refl w.heap.size w
  go_enter Try.func10, Try.ntmps10
  have C_1 := (show Rd (w.alloc (.cells #[.int .i64 1, .int .i64 1, .int .i64 1, .int .i64 1, .int .i64 1, .int .i64 1, .int .i64 1, .int .i64 1] 3)) (some ⟨w.heap.size, 0, none⟩) 8 8 (icells [1, 1, 1, 1, 1, 1, 1, 1]) from Rd.lit8 w 1 3)
  have Z1 := Z0.alloc Z0.size (.cells #[.int .i64 1, .int .i64 1, .int .i64 1, .int .i64 1, .int .i64 1, .int .i64 1, .int .i64 1, .int .i64 1] 3)
  obtain ⟨X, hX⟩ : ∃ X, X = allpreds 0 (toBits [1, 1, 1, 1, 1, 1, 1, 1]) := ⟨_, rfl⟩
  have hXl : X.length = 9 := by rw [hX, allpreds_length, toBits_length]; rfl
  have hX0 : X.getD 0 0 = 2048 := by rw [hX]; exact ex_preds.1
  have hX8 : X.getD 8 0 = 2560 := by rw [hX]; exact ex_preds.2
  go_wp2_with fail
  refine (mpredict_any C_1 0 0 0 (.inr (.inr (.inr ⟨by decide, by decide, by intro i hi; rcases i with _ | _ | _ | _ | _ | _ | _ | _ | i <;> first | exact .inr rfl | (simp at hi; omega), rfl, rfl⟩))) X (by rw [if_pos rfl]; exact hX) 9 hXl.symm).mono ?_
  rintro e w2 ⟨A1, c1, rfl, R1, y2⟩
  have R_2 := (R1).alloc (.cells #[.int .i64 0, .int .i64 0] 24)
  have F_2 := (Two.new w2 24 (.int .i64 0) (.int .i64 0))
  clear C_1
  have z2 := Z1.trans (y2.mono Z1.size)
  have Z2 := (z2).alloc (by have := z2.size; omega) (.cells #[.int .i64 0, .int .i64 0] 24)
  have F_2_c0 := F_2.c0
  have F_2_c1 := F_2.c1
  obtain ⟨g, off, rfl, hg, hc⟩ := R_2.2.2.2 (by omega)
  have e0 : ((w2).alloc (.cells #[.int .i64 0, .int .i64 0] 24)).cell? ⟨g, off, none⟩ = some (.int .i64 2048) := by have := hc 0 _ (ncells_get X 0 (by omega)); rw [hX0] at this; exact this
  have e8 : ((w2).alloc (.cells #[.int .i64 0, .int .i64 0] 24)).cell? ⟨g, off + 8, none⟩ = some (.int .i64 2560) := by have := hc 8 _ (ncells_get X 8 (by omega)); rw [hX8] at this; exact this
  clear hc hX hXl hX0 hX8
  go_wp2
  go_ret
  exact ⟨rfl, Z2⟩
end PB
end Go.Proofs.Ytmkkbedbgkhbpaa
