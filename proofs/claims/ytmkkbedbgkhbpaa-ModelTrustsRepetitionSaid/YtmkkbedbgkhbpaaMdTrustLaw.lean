/-
  The more often a byte was repeated, the more probable its first bit becomes for the model of order 0: the walk of the statement ModelTrustsRepetition.
-/
import Derived.Test.YtmkkbedbgkhbpaaRows
import Derived.Test.YtmkkbedbgkhbpaaMdEx
import Derived.Test.YtmkkbedbgkhbpaaAllBits
import Derived.Deep.RegionHeld3
import Derived.Deep.DrawnRows
import Derived.Deep.QuietTactic
import Derived.BigQuiet
import Derived.Deep.Cut
namespace Go.Proofs.Ytmkkbedbgkhbpaa
open Go.RowKit
attribute [local go_sem ↓] Go.wp_at_zero Go.wp_at_succ
set_option linter.unusedVariables false
set_option linter.unusedSimpArgs false
namespace PB
/-- A byte's bits, so many times. -/
def reps (c : Nat) : Nat → List Nat
  | 0 => []
  | k + 1 => reps c k ++ allbits [c]
theorem reps_length (c k : Nat) : (reps c k).length = 8 * k := by
  induction k with
  | zero => rfl
  | succ k ih => rw [reps, List.length_append, ih, allbits_length]; simp; omega
theorem reps_01 (c k : Nat) : Is01 (reps c k) := by
  induction k with
  | zero => exact Is01.nil
  | succ k ih => exact Is01.append ih (allbits_01 _)
theorem reps_first (c k : Nat) : ∀ j, 8 * j < (reps c k).length → (reps c k).getD (8 * j) 0 = bitAt [c] 0 := by
  induction k with
  | zero => intro j hj; simp [reps] at hj
  | succ k ih =>
    intro j hj
    rw [reps_length] at hj
    rw [reps]
    rcases (by omega : j < k ∨ j = k) with h | rfl
    · rw [getD_append_lt (by rw [reps_length]; omega)]
      exact ih j (by rw [reps_length]; omega)
    · rw [List.getD_eq_getElem?_getD, List.getElem?_append_right (by rw [reps_length]; omega), reps_length, Nat.sub_self, ← List.getD_eq_getElem?_getD, allbits_getD _ _ (by simp)]
theorem first_bit (c : Nat) (hc : c < 256) : bitAt [c] 0 = if 128 ≤ c then 1 else 0 := by
  unfold bitAt
  simp
  split <;> omega
theorem reps_trust (c k j : Nat) (hc : c < 256) (hk : k ≤ 100) (hj : j + 1 ≤ k) :
    (128 ≤ c → predv (reps c k) (8 * j) 0 ≤ predv (reps c k) (8 * (j + 1)) 0) ∧ (c < 128 → predv (reps c k) (8 * (j + 1)) 0 ≤ predv (reps c k) (8 * j) 0) := by
  have e := first_bit c hc
  have hb : bitAt [c] 0 ≤ 1 := by rw [e]; split <;> omega
  obtain ⟨t1, t2⟩ := trust (reps_01 c k) (bitAt [c] 0) hb (reps_first c k) j (by rw [reps_length]; omega) (by omega)
  constructor
  · intro h; exact t1 (by rw [e, if_pos h])
  · intro h; exact t2 (by rw [e, if_neg (by omega)])
/-- A list of bits, as ints. -/
def asInts (l : List Nat) : List Int := l.map fun x : Nat => (x : Int)
theorem asInts_cells (l : List Nat) : icells (asInts l) = ncells l := by unfold asInts icells ncells; rw [List.map_map]; rfl
theorem asInts_length (l : List Nat) : (asInts l).length = l.length := by simp [asInts]
theorem asInts_getD (l : List Nat) (i : Nat) : (asInts l).getD i 0 = ((l.getD i 0 : Nat) : Int) := by
  unfold asInts
  rw [List.getD_eq_getElem?_getD, List.getD_eq_getElem?_getD, List.getElem?_map]
  cases l[i]? <;> rfl
theorem asInts_bits {l : List Nat} (h : Is01 l) : BitsTo (asInts l) (asInts l).length := by
  intro i _
  rw [asInts_getD]
  have := h i
  unfold IsBit
  omega
theorem asInts_toBits (l : List Nat) : toBits (asInts l) = l := by
  unfold toBits asInts
  rw [List.map_map]
  conv => rhs; rw [← List.map_id l]
  refine List.map_congr_left fun x _ => ?_
  simp
theorem Rd.litb (w : World) (x : Nat) (t : TypeId) : Rd (w.alloc (.cells #[.int .u8 (x : Nat)] t)) (some ⟨w.heap.size, 0, none⟩) 1 1 (bcells [x]) := by
  have hB := One.new w t (.int .u8 (x : Nat))
  refine ⟨rfl, Nat.le_refl _, by decide, fun _ => ⟨w.heap.size, 0, rfl, by simp, fun i y hy => ?_⟩⟩
  match i, hy with
  | 0, hy => obtain rfl : _ = y := by simpa [bcells] using hy
             exact hB.c0
  | i + 1, hy => simp [bcells] at hy
set_option maxRecDepth 100000 in
set_option maxHeartbeats 3200000 in
theorem mt_in {ci ti : Int} (hc0 : 0 ≤ ci) (hc1 : ci ≤ 255) (ht0 : 0 ≤ ti) (ht1 : ti ≤ 100) (w : World)  :
    Calls Try.prog 7 #[.int .u8 ci, .int .i64 ti] w fun e w' => e = .returned (.bool true) ∧ Below w.heap.size w w' := by
  obtain ⟨i0, bi, bz0, bz1, bz2⟩ := info_parts int_info
  obtain ⟨t, rfl⟩ : ∃ t : Nat, ti = (t : Nat) := ⟨ti.toNat, by omega⟩
  obtain ⟨c, rfl⟩ : ∃ c : Nat, ci = (c : Nat) := ⟨ci.toNat, by omega⟩
  have hc : c < 256 := by omega
  have ht2 : t ≤ 100 := by omega
  have Z0 := Below.refl w.heap.size w
  go_enter Try.func7, Try.ntmps7
  go_wp2_with fail
  refine (predicts_true _).mono ?_
  rintro e w1 ⟨rfl, y1⟩
  have z1 := Z0.trans (y1.mono Z0.size)
  have Z1 := z1
  go_wp2_with fail
  refine (in_yes _ _ _ _ (show (0 : Int) ≤ (t : Int) by omega) (show (t : Int) ≤ 100 by omega)).mono ?_
  rintro e w9_1 ⟨rfl, rfl⟩
  go_wp2_with fail
  go_loopw [5, 6] (fun s i wr => ∃ k : Nat, k ≤ t ∧ i = .int .i64 k ∧ Below w1.heap.size w1 wr ∧ ∃ A' c', s = .slice A' (8 * k) c' ∧
      wr.ownsRow w1.heap.size 3 1 (.slice A' (8 * k) c') (8 * k) (ncells (reps c k))) (fun _ i _ => t - (intOf i).toNat)
  case atStart => exact ⟨0, Nat.zero_le _, rfl, Below.refl _ _, none, 0, rfl, World.ownsRow_nil _ _ _ _⟩
  case round =>
    obtain ⟨k, hk, rfl, yr, A', c', rfl, ho⟩ := hrel
    by_cases hlt : k < t
    · have ysz := yr.size
      have yl := yr.alloc ysz (.cells #[.int .u8 (c : Nat)] 5)
      have ol := Lib.hid (own_on ho ((Below.refl _ _).alloc (Nat.le_refl _) (.cells #[.int .u8 (c : Nat)] 5)))
      have HA := Lib.hid (allbits_any (Rd.litb wr c 5) (by intro k; rcases k with _ | k <;> simp <;> omega) (by decide) 8 rfl)
      have HS := Lib.hid (show ncells (reps c k) ++ ncells (allbits [c]) = ncells (reps c (k + 1)) by rw [reps, ncells_append])
      clear ho
      go_wp2_with fail
      refine HA.out.mono ?_
      rintro e w3 ⟨A3, c3, rfl, o3, y3⟩
      have Y3 := yl.trans (y3.mono yl.size)
      have O3 := Lib.hid (own_on ol.out y3)
      have R3 := Lib.hid (Rd.own o3)
      have Y3s := Y3.size
      clear o3
      go_wp2_with (at_builtin; refine wpList_append_any _ rfl _ _ _ rfl w1.heap.size 3 i0 _ 8 Try.underlying22 bi bz0 bz1 bz2 rfl _ _ _ rfl O3.out _ _ 8 c3 _ rfl R3.out (ncells_one _) ?g1 ?g2 Y3s ?_)
      case g1 => unfold maxLen; omega
      case g2 => omega
      intro A4 c4 w4 o4 g4 a4
      have Y4 := below_grown Y3 O3.out g4 (Nat.le_refl _) Y3s
      rw [HS.out] at o4
      have HO4 := Lib.hid (show w4.ownsRow w1.heap.size 3 1 (.slice A4 (8 * (k + 1)) c4) (8 * (k + 1)) (ncells (reps c (k + 1))) from o4)
      clear o4 g4 a4
      go_wp2_with fail
      go_roundw
      case rel => exact ⟨k + 1, by omega, by go_num, Y4, A4, c4, rfl, HO4.out⟩
      case measure => simp [intOf]; omega
    · obtain rfl : k = t := by omega
      have hrd : Rd wr A' (8 * k) c' (icells (asInts (reps c k))) := by rw [asInts_cells]; exact Rd.own ho
      obtain ⟨N, hN⟩ : ∃ N, N = 8 * k := ⟨_, rfl⟩
      rw [← hN] at hrd ⊢
      have HNN := Lib.hid hN
      have hNb : N ≤ 800 := by omega
      obtain ⟨X, hX⟩ : ∃ X, X = allpreds 0 (reps c k) := ⟨_, rfl⟩
      have hXl : X.length = N + 1 := by rw [hX, allpreds_length, reps_length, hN]
      have HXL := Lib.hid hXl
      have HXG := Lib.hid (show ∀ i, i ≤ N → X.getD i 0 = predv (reps c k) i 0 from fun i hi => by rw [hX, allpreds_getD _ _ _ (by rw [reps_length]; omega)])
      have HP := Lib.hid (mpredict_any hrd 0 0 0 (.inr (.inr (.inr ⟨by decide, by rw [asInts_length, reps_length]; omega, asInts_bits (reps_01 c k), rfl, rfl⟩))) X (by rw [if_pos rfl, asInts_toBits]; exact hX) (N + 1) hXl.symm)
      have Zr := Z1.trans (yr.mono Z1.size)
      have HZr := Lib.hid Zr
      have hmul : 8 * (k : Int) = (N : Int) := by omega
      clear hN hX hXl ho hrd Zr
      go_wp2_with fail
      refine HP.out.mono ?_
      rintro e w5 ⟨A5, c5, rfl, R5, y5⟩
      have Z5 := HZr.out.trans (y5.mono HZr.out.size)
      have F6 := Two.new w5 24 (.int .i64 0) (.int .i64 0)
      have f0 := F6.c0
      have R6 := R5.alloc (.cells #[.int .i64 0, .int .i64 0] 24)
      have Z6 := Lib.hid (Z5.alloc (by have := Z5.size; omega) (.cells #[.int .i64 0, .int .i64 0] 24))
      go_wp2_with fail
      obtain ⟨w6, hw6⟩ : ∃ w6, w6 = w5.alloc (.cells #[.int .i64 0, .int .i64 0] 24) := ⟨_, rfl⟩
      rw [← hw6] at R6 Z6
      rw [← hw6]
      have HR6 := Lib.hid R6
      clear R6 R5 F6 f0 Z5 hw6
      go_loopw [9] (fun i wr => ∃ (j q : Nat), j ≤ k ∧ i = .int .i64 ((8 * (j + 1) : Nat) : Int) ∧ wr = w6.drewN q) (fun i _ => 900 - (intOf i).toNat)
      case atStart => exact ⟨0, 0, Nat.zero_le _, rfl, rfl⟩
      case round =>
        obtain ⟨j, q, hj, rfl, rfl⟩ := hrel
        by_cases hlt : j < k
        · obtain ⟨g, off, rfl, hg, hcc⟩ := HR6.out.2.2.2 (by omega)
          obtain ⟨i, hi⟩ : ∃ i, i = 8 * (j + 1) := ⟨_, rfl⟩
          obtain ⟨m, hm⟩ : ∃ m, m = 8 * j := ⟨_, rfl⟩
          have hcell := hcc i _ (ncells_get X i (by rw [HXL.out]; have := HNN.out; omega))
          have hcell2 := hcc m _ (ncells_get X m (by rw [HXL.out]; have := HNN.out; omega))
          rw [HXG.out i (by have := HNN.out; omega)] at hcell
          rw [HXG.out m (by have := HNN.out; omega)] at hcell2
          have htr := reps_trust c k j hc ht2 hlt
          rw [← hi, ← hm] at htr
          obtain ⟨p1, hp1⟩ : ∃ p1, p1 = predv (reps c k) i 0 := ⟨_, rfl⟩
          obtain ⟨p2, hp2⟩ : ∃ p2, p2 = predv (reps c k) m 0 := ⟨_, rfl⟩
          rw [← hp1] at hcell htr
          rw [← hp2] at hcell2 htr
          have hsub : (i : Int) - 8 = (m : Int) := by omega
          have hwm : IntKind.i64.wrap (m : Int) = (m : Int) := IntWalk.i64_in _ (by omega)
          have hiN : i ≤ N := by have := HNN.out; omega
          have hmi : m ≤ N := by omega
          have i1 : (0 : Int) ≤ (i : Int) := by omega
          have i2 : (i : Int) < (N : Int) + 1 := by omega
          have i3 : (0 : Int) ≤ (m : Int) := by omega
          have i4 : (m : Int) < (N : Int) + 1 := by omega
          rw [← hi]
          have HI := Lib.hid hi
          have HHM := Lib.hid hm
          clear hcc hp1 hp2 hi hm
          by_cases hc8 : 128 ≤ c
          · have k1 : decide ((128 : Int) ≤ (c : Int)) = true := by simp; omega
            have k2 : decide ((c : Int) < 128) = false := by simp; omega
            have k3 : decide (p1 < p2) = false := by have := htr.1 hc8; simp; omega
            clear htr
            go_upto_region 16 with (fail)
            go_quiet (fail)
            go_wp2_with fail
            refine ⟨⟨j + 1, _, by omega, congrArg (Value.int .i64) (by have := HI.out; omega), rfl⟩, ?_⟩
            have := HI.out
            simp [intOf]
            omega
          · have k1 : decide ((128 : Int) ≤ (c : Int)) = false := by simp; omega
            have k2 : decide ((c : Int) < 128) = true := by simp; omega
            have k3 : decide (p2 < p1) = false := by have := htr.2 (by omega); simp; omega
            clear htr
            go_upto_region 16 with (fail)
            go_quiet (fail)
            go_wp2_with fail
            refine ⟨⟨j + 1, _, by omega, congrArg (Value.int .i64) (by have := HI.out; omega), rfl⟩, ?_⟩
            have := HI.out
            simp [intOf]
            omega
        · have hNj : N < 8 * (j + 1) := by have := HNN.out; omega
          go_wp2
          go_ret
          exact ⟨rfl, belowN Z6.out _⟩
set_option maxRecDepth 100000 in
set_option maxHeartbeats 1600000 in
theorem mt_out {ci ti : Int} (ht : ¬ (0 ≤ ti ∧ ti ≤ 100)) (w : World)  :
    Calls Try.prog 7 #[.int .u8 ci, .int .i64 ti] w fun e w' => e = .returned (.bool true) ∧ Below w.heap.size w w' := by
  have HO := Lib.hid (show ti < 0 ∨ 100 < ti by omega)
  clear ht
  have Z0 := Below.refl w.heap.size w
  go_enter Try.func7, Try.ntmps7
  go_wp2_with fail
  refine (predicts_true _).mono ?_
  rintro e w1 ⟨rfl, y1⟩
  have z1 := Z0.trans (y1.mono Z0.size)
  have Z1 := z1
  go_wp2_with fail
  refine (in_no _ _ _ _ HO.out).mono ?_
  rintro e w9_1 ⟨rfl, rfl⟩
  go_wp2
  go_ret
  exact ⟨rfl, Z1⟩
theorem mt_all {ci ti : Int} (hc0 : 0 ≤ ci) (hc1 : ci ≤ 255) (w : World) : Calls Try.prog 7 #[.int .u8 ci, .int .i64 ti] w fun e w' => e = .returned (.bool true) ∧ Below w.heap.size w w' := by
  by_cases ht : 0 ≤ ti ∧ ti ≤ 100
  · exact mt_in hc0 hc1 ht.1 ht.2 w
  · exact mt_out ht w
end PB
end Go.Proofs.Ytmkkbedbgkhbpaa
