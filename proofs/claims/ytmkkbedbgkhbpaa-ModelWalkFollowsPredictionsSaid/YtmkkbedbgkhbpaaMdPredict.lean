/-
  model.Predict: its faults, and what is predicted ahead of each bit and behind the last one.
-/
import Derived.Test.YtmkkbedbgkhbpaaMdClo
namespace Go.Proofs.Ytmkkbedbgkhbpaa
open Go.RowKit
attribute [local go_sem ↓] Go.wp_at_zero Go.wp_at_succ
set_option linter.unusedVariables false
set_option linter.unusedSimpArgs false
namespace PB
/-- An int that is a bit. -/
def IsBit (x : Int) : Prop := x = 0 ∨ x = 1
/-- All numbers are bits, up to a place. -/
def BitsTo (xs : List Int) (k : Nat) : Prop := ∀ j, j < k → IsBit (xs.getD j 0)
theorem bits_ex (xs : List Int) : BitsTo xs xs.length ∨ ∃ i, i < xs.length ∧ BitsTo xs i ∧ ¬ IsBit (xs.getD i 0) := by
  have key : ∀ k, k ≤ xs.length → BitsTo xs k ∨ ∃ i, i < xs.length ∧ BitsTo xs i ∧ ¬ IsBit (xs.getD i 0) := by
    intro k
    induction k with
    | zero => intro _; left; intro j hj; omega
    | succ k ih =>
      intro hk
      rcases ih (by omega) with h1 | h1
      · by_cases hc : IsBit (xs.getD k 0)
        · left
          intro j hj
          rcases (by omega : j < k ∨ j = k) with h2 | rfl
          · exact h1 j h2
          · exact hc
        · exact .inr ⟨k, by omega, h1, hc⟩
      · exact .inr h1
  exact key xs.length (Nat.le_refl _)
/-- Bits as natural numbers. -/
def toBits (xs : List Int) : List Nat := xs.map Int.toNat
theorem toBits_length (xs : List Int) : (toBits xs).length = xs.length := by simp [toBits]
theorem toBits_getD (xs : List Int) (j : Nat) : (toBits xs).getD j 0 = (xs.getD j 0).toNat := by
  unfold toBits
  rw [List.getD_eq_getElem?_getD, List.getD_eq_getElem?_getD, List.getElem?_map]
  cases xs[j]? <;> rfl
theorem toBits_01 {xs : List Int} (h : BitsTo xs xs.length) : Is01 (toBits xs) := by
  intro i
  rw [toBits_getD]
  rcases Nat.lt_or_ge i xs.length with hi | hi
  · have := h i hi
    unfold IsBit at this
    omega
  · rw [List.getD_eq_getElem?_getD, List.getElem?_eq_none hi]
    decide
theorem bit_test {x : Int} (h : IsBit x) : (x != 0) = false ∨ ((x != 0) = true ∧ (x != 1) = false) := by
  rcases h with rfl | rfl
  · left; rfl
  · right; exact ⟨rfl, rfl⟩
theorem bit_bad {x : Int} (h : ¬ IsBit x) : (x != 0) = true ∧ (x != 1) = true := by
  unfold IsBit at h
  constructor
  · rw [bne_iff_ne]; omega
  · rw [bne_iff_ne]; omega
theorem icells_get {xs : List Int} {k : Nat} (h : k < xs.length) : (icells xs)[k]? = some (.int .i64 (xs.getD k 0)) := by
  unfold icells
  rw [List.getElem?_map, List.getElem?_eq_getElem h, List.getD_eq_getElem?_getD, List.getElem?_eq_getElem h]
  rfl
/-- What all predictions are. -/
def allpreds (ord : Nat) (h : List Nat) : List Nat := (List.range (h.length + 1)).map fun i => predv h i ord
theorem preds_last (ord : Nat) (h : List Nat) (b : Nat) : preds ord (h ++ [b]) = allpreds ord h := by
  unfold preds allpreds
  rw [List.length_append, List.length_singleton]
  refine List.map_congr_left fun i hi => ?_
  exact predv_append h [b] i ord (by rw [List.mem_range] at hi; omega)
set_option maxRecDepth 100000 in
set_option maxHeartbeats 1600000 in
theorem predict_range {A : Option Addr} {n c : Nat} {xs : List Int} {w : World} (h : Rd w A n c (icells xs)) (oi : Int) (ho : ¬ (0 ≤ oi ∧ oi ≤ 2)) :
    Calls Try.prog 8 #[.int .i64 oi, .slice A n c] w fun e w' => e = .returned (.tuple #[.slice none 0 0, .agg #[.int .i64 4, .int .i64 (-1)]]) ∧ Below w.heap.size w w' := by
  have hn := h.len
  simp only [icells, List.length_map] at hn
  have hcap := Reads.cap h
  have hcm := Reads.capMax h
  unfold maxLen at hcm
  have X0 := One.new w 22 (.slice A n c)
  have X1 := X0.alloc (.cells #[.int .i64 0, .int .i64 0] 24)
  have R1 := Two.new1 w (.cells #[.slice A n c] 22) 24 (.int .i64 0) (.int .i64 0)
  have y1 := ((Below.refl w.heap.size w).alloc (Nat.le_refl _) (.cells #[.slice A n c] 22)).alloc (by simp) (.cells #[.int .i64 0, .int .i64 0] 24)
  have x0 := X1.c0
  rcases (by omega : oi < 0 ∨ 2 < oi) with ho1 | ho1
  · go_enter Try.func8, Try.ntmps8
    go_wp2_with fail
    refine (mdfault_any _ _ _).mono ?_
    rintro e w9 ⟨rfl, y9⟩
    have R9 := R1.on y9
    have Y9 := Lib.hid (y1.trans (y9.mono y1.size))
    clear y9
    have q0 := R9.c0
    have q1 := R9.c1
    have q2 := R9.f0
    have q3 := R9.f1
    go_wp2
    have rr := (R9.set0 (.int .i64 4)).set1 (.int .i64 (-1))
    have r0 := rr.c0
    have r1 := rr.c1
    refine bodyPost_ret (v := .tuple #[.slice none 0 0, .agg #[.int .i64 4, .int .i64 (-1)]]) (by simp [results, Try.results8, go_sem, r0, r1]) rfl ⟨rfl, ?_⟩
    exact (Y9.out.setCell (p := ⟨w.heap.size + 1, 0, none⟩) (by simp) _).setCell (p := ⟨w.heap.size + 1, 1, none⟩) (by simp) _
  · go_enter Try.func8, Try.ntmps8
    go_wp2_with fail
    refine (mdfault_any _ _ _).mono ?_
    rintro e w9 ⟨rfl, y9⟩
    have R9 := R1.on y9
    have Y9 := Lib.hid (y1.trans (y9.mono y1.size))
    clear y9
    have q0 := R9.c0
    have q1 := R9.c1
    have q2 := R9.f0
    have q3 := R9.f1
    go_wp2
    have rr := (R9.set0 (.int .i64 4)).set1 (.int .i64 (-1))
    have r0 := rr.c0
    have r1 := rr.c1
    refine bodyPost_ret (v := .tuple #[.slice none 0 0, .agg #[.int .i64 4, .int .i64 (-1)]]) (by simp [results, Try.results8, go_sem, r0, r1]) rfl ⟨rfl, ?_⟩
    exact (Y9.out.setCell (p := ⟨w.heap.size + 1, 0, none⟩) (by simp) _).setCell (p := ⟨w.heap.size + 1, 1, none⟩) (by simp) _
set_option maxRecDepth 100000 in
set_option maxHeartbeats 1600000 in
theorem predict_long {A : Option Addr} {n c : Nat} {xs : List Int} {w : World} (h : Rd w A n c (icells xs)) (oi : Int) (ho : 0 ≤ oi ∧ oi ≤ 2) (hl : 8192 ≤ xs.length) :
    Calls Try.prog 8 #[.int .i64 oi, .slice A n c] w fun e w' => e = .returned (.tuple #[.slice none 0 0, .agg #[.int .i64 2, .int .i64 (-2)]]) ∧ Below w.heap.size w w' := by
  have hn := h.len
  simp only [icells, List.length_map] at hn
  have hcap := Reads.cap h
  have hcm := Reads.capMax h
  unfold maxLen at hcm
  have X0 := One.new w 22 (.slice A n c)
  have X1 := X0.alloc (.cells #[.int .i64 0, .int .i64 0] 24)
  have R1 := Two.new1 w (.cells #[.slice A n c] 22) 24 (.int .i64 0) (.int .i64 0)
  have y1 := ((Below.refl w.heap.size w).alloc (Nat.le_refl _) (.cells #[.slice A n c] 22)).alloc (by simp) (.cells #[.int .i64 0, .int .i64 0] 24)
  have x0 := X1.c0
  obtain ⟨ho1, ho2⟩ := ho
  go_enter Try.func8, Try.ntmps8
  go_wp2_with fail
  refine (mdfault_any _ _ _).mono ?_
  rintro e w9 ⟨rfl, y9⟩
  have R9 := R1.on y9
  have Y9 := Lib.hid (y1.trans (y9.mono y1.size))
  clear y9
  have q0 := R9.c0
  have q1 := R9.c1
  have q2 := R9.f0
  have q3 := R9.f1
  go_wp2
  have rr := (R9.set0 (.int .i64 2)).set1 (.int .i64 (-2))
  have r0 := rr.c0
  have r1 := rr.c1
  refine bodyPost_ret (v := .tuple #[.slice none 0 0, .agg #[.int .i64 2, .int .i64 (-2)]]) (by simp [results, Try.results8, go_sem, r0, r1]) rfl ⟨rfl, ?_⟩
  exact (Y9.out.setCell (p := ⟨w.heap.size + 1, 0, none⟩) (by simp) _).setCell (p := ⟨w.heap.size + 1, 1, none⟩) (by simp) _
set_option maxRecDepth 100000 in
set_option maxHeartbeats 1600000 in
theorem predict_bad {A : Option Addr} {n c : Nat} {xs : List Int} {w : World} (h : Rd w A n c (icells xs)) (oi : Int) (ho : 0 ≤ oi ∧ oi ≤ 2) (hl : xs.length < 8192) (q : Nat) (hi : q < xs.length) (hb : BitsTo xs q) (hbad : ¬ IsBit (xs.getD q 0)) :
    Calls Try.prog 8 #[.int .i64 oi, .slice A n c] w fun e w' => e = .returned (.tuple #[.slice none 0 0, .agg #[.int .i64 6, .int .i64 ((q : Nat))]]) ∧ Below w.heap.size w w' := by
  have hn := h.len
  simp only [icells, List.length_map] at hn
  have hcap := Reads.cap h
  have hcm := Reads.capMax h
  unfold maxLen at hcm
  have X0 := One.new w 22 (.slice A n c)
  have X1 := X0.alloc (.cells #[.int .i64 0, .int .i64 0] 24)
  have R1 := Two.new1 w (.cells #[.slice A n c] 22) 24 (.int .i64 0) (.int .i64 0)
  have y1 := ((Below.refl w.heap.size w).alloc (Nat.le_refl _) (.cells #[.slice A n c] 22)).alloc (by simp) (.cells #[.int .i64 0, .int .i64 0] 24)
  have x0 := X1.c0
  obtain ⟨ho1, ho2⟩ := ho
  have HB := Lib.hid hb
  clear hb
  go_enter Try.func8, Try.ntmps8
  go_upto_region 6 with (fail)
  generalize ((w.alloc (.cells #[.slice A n c] 22)).alloc (.cells #[.int .i64 0, .int .i64 0] 24)) = w1 at X1 R1 y1 x0 ⊢
  go_loop [23] (fun i => ∃ k : Nat, k ≤ q ∧ i = .int .i64 (k : Nat)) (fun i => q - (intOf i).toNat)
  case atStart => exact ⟨0, Nat.zero_le _, rfl⟩
  case round =>
    obtain ⟨k, hk, rfl⟩ := hrel
    by_cases hlt : k < q
    · obtain ⟨g, off, rfl, hg, hc⟩ := (h.on y1).2.2.2 (by omega)
      have hcell := hc k _ (icells_get (by omega))
      obtain ⟨x, hx⟩ : ∃ x, x = xs.getD k 0 := ⟨_, rfl⟩
      have hbit := HB.out k hlt
      rw [← hx] at hcell hbit
      clear hc hx
      rcases bit_test hbit with ht | ⟨ht, ht2⟩
      all_goals
        clear hbit
        go_wp2_with fail
        go_round
        case rel => exact ⟨k + 1, by omega, by go_num⟩
        case measure => simp [intOf] <;> omega
    · obtain rfl : k = q := by omega
      obtain ⟨g, off, rfl, hg, hc⟩ := (h.on y1).2.2.2 (by omega)
      have hcell := hc k _ (icells_get (by omega))
      obtain ⟨x, hx⟩ : ∃ x, x = xs.getD k 0 := ⟨_, rfl⟩
      rw [← hx] at hcell hbad
      obtain ⟨ht, ht2⟩ := bit_bad hbad
      clear hc hx hbad
      go_wp2_with fail
      refine (mdfault_any _ _ _).mono ?_
      rintro e w9 ⟨rfl, y9⟩
      have R9 := R1.on y9
      have Y9 := Lib.hid (y1.trans (y9.mono y1.size))
      clear y9
      have q0 := R9.c0
      have q1 := R9.c1
      have q2 := R9.f0
      have q3 := R9.f1
      go_wp2
      have rr := (R9.set0 (.int .i64 6)).set1 (.int .i64 ((k : Nat)))
      have r0 := rr.c0
      have r1 := rr.c1
      refine bodyPost_ret (v := .tuple #[.slice none 0 0, .agg #[.int .i64 6, .int .i64 ((k : Nat))]]) (by simp [results, Try.results8, go_sem, r0, r1]) rfl ⟨rfl, ?_⟩
      exact (Y9.out.setCell (p := ⟨w.heap.size + 1, 0, none⟩) (by simp) _).setCell (p := ⟨w.heap.size + 1, 1, none⟩) (by simp) _
set_option maxRecDepth 100000 in
set_option maxHeartbeats 1600000 in
theorem predict_ok {A : Option Addr} {n c : Nat} {xs : List Int} {w : World} (h : Rd w A n c (icells xs)) (oi : Int) (ho : 0 ≤ oi ∧ oi ≤ 2) (hl : xs.length < 8192) (hb : BitsTo xs xs.length) :
    Calls Try.prog 8 #[.int .i64 oi, .slice A n c] w fun e w' => ∃ A' c', e = .returned (.tuple #[.slice A' (n + 1) c', .agg #[.int .i64 0, .int .i64 0]]) ∧ w'.ownsRow w.heap.size 3 1 (.slice A' (n + 1) c') (n + 1) (ncells (allpreds oi.toNat (toBits xs))) ∧ Below w.heap.size w w' := by
  have hn := h.len
  simp only [icells, List.length_map] at hn
  have hcap := Reads.cap h
  have hcm := Reads.capMax h
  unfold maxLen at hcm
  have X0 := One.new w 22 (.slice A n c)
  have X1 := X0.alloc (.cells #[.int .i64 0, .int .i64 0] 24)
  have R1 := Two.new1 w (.cells #[.slice A n c] 22) 24 (.int .i64 0) (.int .i64 0)
  have y1 := ((Below.refl w.heap.size w).alloc (Nat.le_refl _) (.cells #[.slice A n c] 22)).alloc (by simp) (.cells #[.int .i64 0, .int .i64 0] 24)
  have x0 := X1.c0
  obtain ⟨ho1, ho2⟩ := ho
  have HB := Lib.hid hb
  clear hb
  go_enter Try.func8, Try.ntmps8
  go_upto_region 6 with (fail)
  generalize ((w.alloc (.cells #[.slice A n c] 22)).alloc (.cells #[.int .i64 0, .int .i64 0] 24)) = w1 at X1 R1 y1 x0 ⊢
  go_loop [23] (fun i => ∃ k : Nat, k ≤ xs.length ∧ i = .int .i64 (k : Nat)) (fun i => xs.length - (intOf i).toNat)
  case atStart => exact ⟨0, Nat.zero_le _, rfl⟩
  case round =>
    obtain ⟨k, hk, rfl⟩ := hrel
    by_cases hlt : k < xs.length
    · obtain ⟨g, off, rfl, hg, hc⟩ := (h.on y1).2.2.2 (by omega)
      have hcell := hc k _ (icells_get (by omega))
      obtain ⟨x, hx⟩ : ∃ x, x = xs.getD k 0 := ⟨_, rfl⟩
      have hbit := HB.out k hlt
      rw [← hx] at hcell hbit
      clear hc hx
      rcases bit_test hbit with ht | ⟨ht, ht2⟩
      all_goals
        clear hbit
        go_wp2_with fail
        go_round
        case rel => exact ⟨k + 1, by omega, by go_num⟩
        case measure => simp [intOf] <;> omega
    · obtain rfl : k = xs.length := by omega
      obtain ⟨ord, rfl⟩ := Int.eq_ofNat_of_zero_le ho1
      have hord : ord ≤ 2 := by omega
      go_upto_region 12 with (fail)
      have X2 := X1.alloc (.cells #[.slice none 0 0] 22)
      have R2 := R1.alloc (.cells #[.slice none 0 0] 22)
      have O2 := One.new w1 22 (.slice none 0 0)
      have y2 := y1.alloc y1.size (.cells #[.slice none 0 0] 22)
      have y1s := y1.size
      have ne1 := X1.lt
      have ne2 := R1.lt
      obtain ⟨ob, hob⟩ : ∃ ob, ob = w1.heap.size := ⟨_, rfl⟩
      rw [← hob] at O2 y1s ne1 ne2 ⊢
      generalize w1.alloc (.cells #[.slice none 0 0] 22) = w2 at X2 R2 O2 y2 ⊢
      have hC : Col w.heap.size ob w.heap.size 0 w A n c xs false 0 [] w2 := ⟨⟨none, 0, O2, World.ownsRow_nil _ _ _ _⟩, X2, (fun e => by cases e), h.below y2, y2, y1s, Nat.le_refl _, by omega⟩
      have HW := Lib.hid (walk_pred hC (by omega) hord (ord : Nat) ((xs.length : Int) + 1) rfl (by push_cast; rw [hn]))
      have hx2 := X2.c0
      clear X1 R1 x0 y1 X2 O2 hob hC
      have HH := Lib.hid h
      clear h
      go_wp2_with fail
      have hnn : ((n : Int) + 1) = ((xs.length : Int) + 1) := by rw [hn]
      try rw [hnn]
      refine HW.out.mono ?_
      rintro e w9 ⟨hfk, l, h01, hpre, hres⟩
      have hl0 : l.length = n + 1 ∧ e = .returned (.agg #[.int .i64 0, .int .i64 0]) ∧ Col w.heap.size ob w.heap.size 0 w A n c xs false 0 (preds ord l) w9 := by
        rcases hres with hres | ⟨h1, hbad, _, _⟩
        · exact hres
        · refine absurd ?_ hbad
          unfold ysat
          split
          · exact HB.out _ (by omega)
          · exact .inl rfl
      obtain ⟨hl1, rfl, hc9⟩ := hl0
      have hle : l = toBits xs ++ [0] := by
        refine List.ext_getElem (by rw [hl1, List.length_append, toBits_length, List.length_singleton, hn]) ?_
        intro j h1 h2
        have e1 := hpre j h1
        rw [← getD_lt h1, ← getD_lt h2]
        rcases (by omega : j < n ∨ j = n) with h3 | h3
        · rw [getD_append_lt (by rw [toBits_length]; omega), toBits_getD]
          unfold ysat at e1
          rw [if_pos h3] at e1
          omega
        · subst h3
          have e2 : (toBits xs ++ [0]).getD j 0 = 0 := by
            rw [List.getD_eq_getElem?_getD, List.getElem?_append_right (by rw [toBits_length]; omega), toBits_length, hn, Nat.sub_self]; rfl
          unfold ysat at e1
          rw [if_neg (by omega)] at e1
          rw [e2]
          omega
      have hpl : (preds ord l).length = n + 1 := by rw [preds_length, hl1]
      rw [hle, preds_last] at hc9 hpl
      obtain ⟨⟨Ao, co, o1, o2⟩, -, -, -, y9, -, -, -⟩ := hc9
      rw [hpl] at o1 o2
      have R9 : Two w9 (w.heap.size + 1) 24 (.int .i64 0) (.int .i64 0) := hfk _ _ R2
      clear hres hpre hfk h01 hl1 hle hpl R2 y2 HW
      have HO := Lib.hid o2
      have HY := Lib.hid y9
      have HO2 := Lib.hid (show One w9 ob 22 (.slice Ao (n + 1) co) from o1)
      have R10 := R9.alloc (.cells #[.int .i64 0, .int .i64 0] 24)
      have O10 := HO2.out.alloc (.cells #[.int .i64 0, .int .i64 0] 24)
      have q0 := R10.c0
      have q1 := R10.c1
      have q2 := R10.f0
      have q3 := R10.f1
      have q4 := O10.c0
      clear o1 o2 y9 R9 hx2
      go_wp2
      have rr := (R10.set0 (.int .i64 0)).set1 (.int .i64 0)
      have r0 := rr.c0
      have r1 := rr.c1
      have oo := own_on HO.out ((Below.refl _ _).alloc (Nat.le_refl _) (.cells #[.int .i64 0, .int .i64 0] 24))
      have oo1 := own_far_any oo (p := ⟨w.heap.size + 1, 0, none⟩) (Ne.symm (own_low_ne oo (by show w.heap.size + 1 < ob + 1; omega))) (.int .i64 0)
      have oo2 := own_far_any oo1 (p := ⟨w.heap.size + 1, 1, none⟩) (Ne.symm (own_low_ne oo1 (by show w.heap.size + 1 < ob + 1; omega))) (.int .i64 0)
      have yy := ((HY.out.alloc HY.out.size (.cells #[.int .i64 0, .int .i64 0] 24)).setCell (p := ⟨w.heap.size + 1, 0, none⟩) (by simp) (.int .i64 0)).setCell (p := ⟨w.heap.size + 1, 1, none⟩) (by simp) (.int .i64 0)
      exact bodyPost_ret (v := .tuple #[.slice Ao (n + 1) co, .agg #[.int .i64 0, .int .i64 0]]) (by simp [results, Try.results8, go_sem, r0, r1]) rfl ⟨Ao, co, rfl, own_less oo2 (by omega), yy⟩
end PB
end Go.Proofs.Ytmkkbedbgkhbpaa
