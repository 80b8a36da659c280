/-
  States of the decoder and its bits, with all faults, are as specified: the walk of the statement ArithGetMatchesSpec.
-/
import Derived.Test.YtnnpkajmheglgaaRows
import Derived.Test.YtnnpkajmheglgaaArEx
import Derived.Test.YtnnpkajmheglgaaKit
import Derived.Test.YtnnpkajmheglgaaBitsRef2
import Derived.Deep.RegionHeld3
import Derived.Deep.DrawnRows
import Derived.Deep.Cut
import Derived.Deep.QuietTactic
namespace Go.Proofs.Ytnnpkajmheglgaa
open Go.RowKit
attribute [local go_sem ↓] Go.wp_at_zero Go.wp_at_succ
set_option linter.unusedVariables false
set_option linter.unusedSimpArgs false
namespace PB
/-- The bits and j zeros behind them. -/
def zl (l : List Nat) (j : Nat) : List Value := ncells (l ++ List.replicate j 0)
theorem zl_zero (l : List Nat) : zl l 0 = ncells l := by simp [zl]
theorem zl_succ (l : List Nat) (j : Nat) : zl l (j + 1) = zl l j ++ [.int .i64 0] := by
  unfold zl
  rw [List.replicate_succ', ← List.append_assoc, ncells_append]
  rfl
theorem zl_length (l : List Nat) (j : Nat) : (zl l j).length = l.length + j := by simp [zl, ncells]
theorem zl_get {l : List Nat} {j i : Nat} (h : i < l.length + j) : (zl l j)[i]? = some (.int .i64 ((l.getD i 0 : Nat) : Int)) := by
  unfold zl ncells
  rw [List.getElem?_map]
  by_cases hi : i < l.length
  · rw [List.getElem?_append_left hi]
    rw [List.getElem?_eq_getElem hi, List.getD_eq_getElem?_getD, List.getElem?_eq_getElem hi]; rfl
  · rw [List.getElem?_append_right (by omega), List.getElem?_replicate, if_pos (by omega), List.getD_eq_getElem?_getD, List.getElem?_eq_none (by omega)]; rfl
theorem zl_take (l : List Nat) : (l ++ List.replicate 32 0).take 16 = (List.range 16).map fun i => l.getD i 0 := by
  apply List.ext_getElem
  · simp
  · intro i h1 h2
    have hi : i < 16 := by simp at h1; omega
    rw [List.getElem_take, List.getElem_map, List.getElem_range, List.getElem_append, List.getD_eq_getElem?_getD]
    by_cases hl : i < l.length
    · rw [dif_pos hl, List.getElem?_eq_getElem hl]; rfl
    · rw [dif_neg hl, List.getElem_replicate, List.getElem?_eq_none (by omega)]; rfl
theorem Rd.pre {w : World} {A : Option Addr} {n c : Nat} {l : List Nat} (h : Rd w A n c (ncells l)) (m : Nat) (hm : m ≤ l.length) : Rd w A m c (ncells (l.take m)) := by
  have hn := h.len
  rw [ncells_length] at hn
  obtain ⟨h1, h2, h3, h4⟩ := h
  refine ⟨by rw [ncells_length, List.length_take]; omega, by omega, by omega, fun h0 => ?_⟩
  obtain ⟨b, off, e, hb, hcc⟩ := h4 (by omega)
  refine ⟨b, off, e, hb, fun j u hu => ?_⟩
  have hj : j < m := by
    rcases Nat.lt_or_ge j m with h | h
    · exact h
    · rw [List.getElem?_eq_none (by rw [ncells_length, List.length_take]; omega)] at hu; cases hu
  exact hcc j u (by
    rw [← hu]
    unfold ncells
    rw [List.getElem?_map, List.getElem?_map, List.getElem?_take, if_pos hj])
theorem getD01 {l : List Nat} (h : Is01 l) (i : Nat) : l.getD i 0 ≤ 1 := by have := h i; omega
theorem pre16 {w : World} {base : Nat} {A : Option Addr} {c : Nat} {l : List Nat} (h : w.ownsRow base 3 1 (.slice A (l.length + 32) c) (l.length + 32) (zl l 32)) : Rd w A 16 c (ncells ((List.range 16).map fun i => l.getD i 0)) := by
  have := Rd.pre (Rd.own h) 16 (by simp)
  rw [zl_take] at this
  exact this
theorem same_flip {P : Program} {f : FuncId} {args : Array Value} {w : World} {v : Value} (h : Calls P f args w fun e w' => e = .returned v ∧ w = w') : Calls P f args w fun e w' => e = .returned v ∧ w' = w := h.mono fun _ _ h => ⟨h.1, h.2.symm⟩
theorem range01 {l : List Nat} (h : Is01 l) : Is01 ((List.range 16).map fun i => l.getD i 0) := by
  apply Is01.of_mem
  intro x hx
  obtain ⟨i, _, rfl⟩ := List.mem_map.1 hx
  have := getD01 h i
  omega
/-- The value on the way. -/
def dvi (l R : List Nat) (V : Int) (t j : Nat) : Int := dv l (R.take j) V t
theorem dvi_zero (l R : List Nat) (V : Int) (t : Nat) : dvi l R V t 0 = V := by simp [dvi, dv]
theorem dvi_succ (l R : List Nat) (V : Int) (t j : Nat) (h : j < R.length) : dvi l R V t (j + 1) = 2 * (dvi l R V t j - 16384 * ((R[j] : Nat) : Int)) + ((l.getD (t + j) 0 : Nat) : Int) := by
  unfold dvi
  rw [List.take_succ_eq_append_getElem h, dv_append, dv, dv, List.length_take, Nat.min_eq_left (Nat.le_of_lt h)]
theorem dvi_full (l R : List Nat) (V : Int) (t : Nat) : dvi l R V t R.length = dv l R V t := by simp [dvi]
theorem dvi_bound (l R : List Nat) (V : Int) (t : Nat) (hl : Is01 l) (hR : ∀ k ∈ R, k ≤ 2) (h1 : 0 ≤ V) (h2 : V ≤ 65535) : ∀ j, j ≤ R.length → 65536 - 131072 * 2 ^ j ≤ dvi l R V t j ∧ dvi l R V t j + 1 ≤ 131072 * 2 ^ j := by
  intro j
  induction j with
  | zero => intro _; rw [dvi_zero]; omega
  | succ j ih =>
    intro hj
    obtain ⟨a, b⟩ := ih (by omega)
    rw [dvi_succ _ _ _ _ _ (by omega), Int.pow_succ]
    have := hR _ (List.getElem_mem (show j < R.length by omega))
    have := getD01 hl (t + j)
    omega
theorem dvi_in (l R : List Nat) (V : Int) (t : Nat) (hl : Is01 l) (hR : ∀ k ∈ R, k ≤ 2) (h1 : 0 ≤ V) (h2 : V ≤ 65535) (h3 : R.length ≤ 14) (j : Nat) (hj : j ≤ R.length) : -2147483648 ≤ dvi l R V t j ∧ dvi l R V t j ≤ 2147483648 := by
  obtain ⟨a, b⟩ := dvi_bound l R V t hl hR h1 h2 j hj
  have h4 : (2 : Nat) ^ j ≤ 16384 := Nat.le_trans (Nat.pow_le_pow_right (by decide) (show j ≤ 14 by omega)) (by decide)
  rw [two_pow_cast] at a b
  omega
set_option maxRecDepth 100000 in
set_option maxHeartbeats 1600000 in
theorem ag_form_bad {A : Option Addr} {n c : Nat} {lo hi V p : Int} {t : Int} {d : List Nat} {cnt : Int} (hd : ∀ k, d.getD k 0 < 256) (hlo : -9223372036854775808 ≤ cnt) (hhi : cnt ≤ 9223372036854775807) (hno : ¬ Ok d cnt) (hbad : ¬ DecOk lo hi V t) (w : World) (h : Rd w A n c (bcells d)) :
    Calls Try.prog 9 #[.agg #[.int .i64 lo, .int .i64 hi, .int .i64 V, .int .i64 t], .agg #[.slice A n c, .int .i64 cnt], .int .i64 p] w fun e w' => e = .returned (.bool true) ∧ Below w.heap.size w w' := by
  have HOP := Lib.hid (fun (W : World) (hW : Rd W A n c (bcells d)) => open_form hW hno)
  have HBO := Lib.hid (fun (W : World) (hW : Rd W A n c (bcells d)) => bitsok_any hW hd hlo hhi false ⟨(fun h => by cases h), fun h => absurd h hno⟩)
  have HDO := Lib.hid (fun (W : World) => decoderok_any lo hi V t false ⟨(fun h => by cases h), fun h => absurd h hbad⟩ W)
  have HGE := Lib.hid (fun (W : World) => get_bad (A := A) (n := n) (c := c) (cnt := cnt) (p := p) (w := W) hbad)
  clear hno hd hlo hhi hbad
  obtain ⟨i0, hi0, hz0, hz1, hz2⟩ := info_parts int_info
  have R_0 := ((h).alloc (.cells #[.int .i64 lo, .int .i64 hi, .int .i64 V, .int .i64 t] 62)).alloc (.cells #[.slice A n c, .int .i64 cnt] 25)
  have D_0 := ((Four.new w 62 (.int .i64 lo) (.int .i64 hi) (.int .i64 V) (.int .i64 t))).alloc (.cells #[.slice A n c, .int .i64 cnt] 25)
  have B_0 := (Two.new1 w (.cells #[.int .i64 lo, .int .i64 hi, .int .i64 V, .int .i64 t] 62) 25 (.slice A n c) (.int .i64 cnt))
  have Z0 := ((Below.refl w.heap.size w).alloc (by simp) (.cells #[.int .i64 lo, .int .i64 hi, .int .i64 V, .int .i64 t] 62)).alloc (by simp) (.cells #[.slice A n c, .int .i64 cnt] 25)
  have D_0_c0 := D_0.c0
  have D_0_c1 := D_0.c1
  have D_0_c2 := D_0.c2
  have D_0_c3 := D_0.c3
  have B_0_c0 := B_0.c0
  have B_0_c1 := B_0.c1
  go_enter Try.func9, Try.ntmps9
  go_wp2_with fail
  refine (HOP.out _ R_0).mono ?_
  rintro e w1 ⟨rfl, y1⟩
  have R_1 := ((R_0.on y1).alloc (.cells #[.int .i64 0, .int .i64 0, .int .i64 0, .int .i64 0] 62)).alloc (.cells #[.int .i64 6, .int .i64 (-1)] 27)
  have D_1 := ((D_0.on y1).alloc (.cells #[.int .i64 0, .int .i64 0, .int .i64 0, .int .i64 0] 62)).alloc (.cells #[.int .i64 6, .int .i64 (-1)] 27)
  have B_1 := ((B_0.on y1).alloc (.cells #[.int .i64 0, .int .i64 0, .int .i64 0, .int .i64 0] 62)).alloc (.cells #[.int .i64 6, .int .i64 (-1)] 27)
  have O_1 := ((Four.new w1 62 (.int .i64 0) (.int .i64 0) (.int .i64 0) (.int .i64 0))).alloc (.cells #[.int .i64 6, .int .i64 (-1)] 27)
  have F_1 := (Two.new1 w1 (.cells #[.int .i64 0, .int .i64 0, .int .i64 0, .int .i64 0] 62) 27 (.int .i64 6) (.int .i64 (-1)))
  clear R_0 D_0 D_0_c0 D_0_c1 D_0_c2 D_0_c3 B_0 B_0_c0 B_0_c1
  have z1 := Z0.trans (y1.mono Z0.size)
  have Z1 := ((z1).alloc (by have := z1.size; omega) (.cells #[.int .i64 0, .int .i64 0, .int .i64 0, .int .i64 0] 62)).alloc (by have := z1.size; simp; omega) (.cells #[.int .i64 6, .int .i64 (-1)] 27)
  have D_1_c0 := D_1.c0
  have D_1_c1 := D_1.c1
  have D_1_c2 := D_1.c2
  have D_1_c3 := D_1.c3
  have B_1_c0 := B_1.c0
  have B_1_c1 := B_1.c1
  have O_1_c0 := O_1.c0
  have O_1_c1 := O_1.c1
  have O_1_c2 := O_1.c2
  have O_1_c3 := O_1.c3
  have F_1_c0 := F_1.c0
  have F_1_c1 := F_1.c1
  go_wp2_with fail
  refine (HGE.out _).mono ?_
  rintro e w2 ⟨rfl, y2⟩
  have R_2 := ((R_1.on y2).alloc (.cells #[.int .i64 0, .int .i64 0, .int .i64 0, .int .i64 0] 62)).alloc (.cells #[.int .i64 6, .int .i64 (-1)] 27)
  have D_2 := ((D_1.on y2).alloc (.cells #[.int .i64 0, .int .i64 0, .int .i64 0, .int .i64 0] 62)).alloc (.cells #[.int .i64 6, .int .i64 (-1)] 27)
  have B_2 := ((B_1.on y2).alloc (.cells #[.int .i64 0, .int .i64 0, .int .i64 0, .int .i64 0] 62)).alloc (.cells #[.int .i64 6, .int .i64 (-1)] 27)
  have O_2 := ((O_1.on y2).alloc (.cells #[.int .i64 0, .int .i64 0, .int .i64 0, .int .i64 0] 62)).alloc (.cells #[.int .i64 6, .int .i64 (-1)] 27)
  have F_2 := ((F_1.on y2).alloc (.cells #[.int .i64 0, .int .i64 0, .int .i64 0, .int .i64 0] 62)).alloc (.cells #[.int .i64 6, .int .i64 (-1)] 27)
  have X_2 := ((Four.new w2 62 (.int .i64 0) (.int .i64 0) (.int .i64 0) (.int .i64 0))).alloc (.cells #[.int .i64 6, .int .i64 (-1)] 27)
  have G_2 := (Two.new1 w2 (.cells #[.int .i64 0, .int .i64 0, .int .i64 0, .int .i64 0] 62) 27 (.int .i64 6) (.int .i64 (-1)))
  clear R_1 D_1 D_1_c0 D_1_c1 D_1_c2 D_1_c3 B_1 B_1_c0 B_1_c1 O_1 O_1_c0 O_1_c1 O_1_c2 O_1_c3 F_1 F_1_c0 F_1_c1
  have z2 := Z1.trans (y2.mono Z1.size)
  have Z2 := ((z2).alloc (by have := z2.size; omega) (.cells #[.int .i64 0, .int .i64 0, .int .i64 0, .int .i64 0] 62)).alloc (by have := z2.size; simp; omega) (.cells #[.int .i64 6, .int .i64 (-1)] 27)
  have D_2_c0 := D_2.c0
  have D_2_c1 := D_2.c1
  have D_2_c2 := D_2.c2
  have D_2_c3 := D_2.c3
  have B_2_c0 := B_2.c0
  have B_2_c1 := B_2.c1
  have O_2_c0 := O_2.c0
  have O_2_c1 := O_2.c1
  have O_2_c2 := O_2.c2
  have O_2_c3 := O_2.c3
  have F_2_c0 := F_2.c0
  have F_2_c1 := F_2.c1
  have X_2_c0 := X_2.c0
  have X_2_c1 := X_2.c1
  have X_2_c2 := X_2.c2
  have X_2_c3 := X_2.c3
  have G_2_c0 := G_2.c0
  have G_2_c1 := G_2.c1
  go_wp2_with fail
  refine (codes_true _).mono ?_
  rintro e w3 ⟨rfl, y3⟩
  have R_3 := R_2.on y3
  have D_3 := D_2.on y3
  have B_3 := B_2.on y3
  have O_3 := O_2.on y3
  have F_3 := F_2.on y3
  have X_3 := X_2.on y3
  have G_3 := G_2.on y3
  clear R_2 D_2 D_2_c0 D_2_c1 D_2_c2 D_2_c3 B_2 B_2_c0 B_2_c1 O_2 O_2_c0 O_2_c1 O_2_c2 O_2_c3 F_2 F_2_c0 F_2_c1 X_2 X_2_c0 X_2_c1 X_2_c2 X_2_c3 G_2 G_2_c0 G_2_c1
  have z3 := Z2.trans (y3.mono Z2.size)
  have Z3 := z3
  have D_3_c0 := D_3.c0
  have D_3_c1 := D_3.c1
  have D_3_c2 := D_3.c2
  have D_3_c3 := D_3.c3
  have B_3_c0 := B_3.c0
  have B_3_c1 := B_3.c1
  have O_3_c0 := O_3.c0
  have O_3_c1 := O_3.c1
  have O_3_c2 := O_3.c2
  have O_3_c3 := O_3.c3
  have F_3_c0 := F_3.c0
  have F_3_c1 := F_3.c1
  have X_3_c0 := X_3.c0
  have X_3_c1 := X_3.c1
  have X_3_c2 := X_3.c2
  have X_3_c3 := X_3.c3
  have G_3_c0 := G_3.c0
  have G_3_c1 := G_3.c1
  go_wp2_with fail
  refine (HBO.out _ R_3).mono ?_
  rintro e w4 ⟨rfl, y4⟩
  have R_4 := R_3.on y4
  have D_4 := D_3.on y4
  have B_4 := B_3.on y4
  have O_4 := O_3.on y4
  have F_4 := F_3.on y4
  have X_4 := X_3.on y4
  have G_4 := G_3.on y4
  clear R_3 D_3 D_3_c0 D_3_c1 D_3_c2 D_3_c3 B_3 B_3_c0 B_3_c1 O_3 O_3_c0 O_3_c1 O_3_c2 O_3_c3 F_3 F_3_c0 F_3_c1 X_3 X_3_c0 X_3_c1 X_3_c2 X_3_c3 G_3 G_3_c0 G_3_c1
  have z4 := Z3.trans (y4.mono Z3.size)
  have Z4 := z4
  have D_4_c0 := D_4.c0
  have D_4_c1 := D_4.c1
  have D_4_c2 := D_4.c2
  have D_4_c3 := D_4.c3
  have B_4_c0 := B_4.c0
  have B_4_c1 := B_4.c1
  have O_4_c0 := O_4.c0
  have O_4_c1 := O_4.c1
  have O_4_c2 := O_4.c2
  have O_4_c3 := O_4.c3
  have F_4_c0 := F_4.c0
  have F_4_c1 := F_4.c1
  have X_4_c0 := X_4.c0
  have X_4_c1 := X_4.c1
  have X_4_c2 := X_4.c2
  have X_4_c3 := X_4.c3
  have G_4_c0 := G_4.c0
  have G_4_c1 := G_4.c1
  go_wp2_with fail
  go_loopw [13, 14] (fun lv i wr => ∃ (j : Nat) (P2 : Option Addr) (p3 : Nat), j ≤ 32 ∧ i = .int .i64 (j : Nat) ∧ lv = .slice P2 j p3 ∧ Below w4.heap.size w4 wr ∧ w4.heap.size ≤ wr.heap.size ∧ wr.ownsRow w4.heap.size 3 1 (.slice P2 j p3) j (zl [] j)) (fun _ i _ => 32 - (intOf i).toNat)
  case atStart => exact ⟨0, none, 0, Nat.zero_le _, rfl, rfl, Below.refl _ _, Nat.le_refl _, World.ownsRow_nil _ _ _ _⟩
  case round =>
    obtain ⟨j, P2, p3, hj, rfl, rfl, yr, hsz, oP⟩ := hrel
    have HP := Lib.hid oP
    clear oP
    by_cases hlt : j < 32
    · have HPC := Lib.hid (zl_succ [] j)
      have i1 : (0 : Int) ≤ (j : Int) := by omega
      have i2 : decide ((j : Int) < 32) = true := by simp; omega
      have i3 : decide (j < 32) = true := by simp; omega
      go_wp2_with (at_builtin; refine wpList_app1 _ rfl _ _ _ rfl w4.heap.size 3 i0 _ 8 Try.underlying34 hi0 hz0 hz1 hz2 rfl _ _ _ rfl HP.out (.int .i64 0) rfl rfl ?g1 ?g2 hsz ?_)
      case g1 => unfold maxLen; omega
      case g2 => omega
      intro A14 c14 w14 o14 g14
      have Y14 := below_grown yr HP.out g14 (Nat.le_refl _) hsz
      rw [← HPC.out] at o14
      have HP14 := Lib.hid o14
      have hs14 : w4.heap.size ≤ w14.heap.size := Y14.size
      clear o14 g14
      go_wp2_with fail
      go_roundw
      case rel => exact ⟨j + 1, A14, c14, by omega, by go_num, rfl, Y14, hs14, HP14.out⟩
      case measure => simp [intOf] <;> omega
    · obtain rfl : j = 32 := by omega
      obtain ⟨w20, hw20⟩ : ∃ w20, w20 = wr := ⟨_, rfl⟩
      rw [← hw20] at yr hsz HP ⊢
      clear hw20 wr
      have U_20 := HP.out
      clear HP
      have R_20 := R_4.on yr
      have D_20 := D_4.on yr
      have B_20 := B_4.on yr
      have O_20 := O_4.on yr
      have F_20 := F_4.on yr
      have X_20 := X_4.on yr
      have G_20 := G_4.on yr
      have Z20 := Z4.trans (yr.mono Z4.size)
      clear R_4 D_4 D_4_c0 D_4_c1 D_4_c2 D_4_c3 B_4 B_4_c0 B_4_c1 O_4 O_4_c0 O_4_c1 O_4_c2 O_4_c3 F_4 F_4_c0 F_4_c1 X_4 X_4_c0 X_4_c1 X_4_c2 X_4_c3 G_4 G_4_c0 G_4_c1
      have D_20_c0 := D_20.c0
      have D_20_c1 := D_20.c1
      have D_20_c2 := D_20.c2
      have D_20_c3 := D_20.c3
      have B_20_c0 := B_20.c0
      have B_20_c1 := B_20.c1
      have O_20_c0 := O_20.c0
      have O_20_c1 := O_20.c1
      have O_20_c2 := O_20.c2
      have O_20_c3 := O_20.c3
      have F_20_c0 := F_20.c0
      have F_20_c1 := F_20.c1
      have X_20_c0 := X_20.c0
      have X_20_c1 := X_20.c1
      have X_20_c2 := X_20.c2
      have X_20_c3 := X_20.c3
      have G_20_c0 := G_20.c0
      have G_20_c1 := G_20.c1
      have z20 := Z20
      have R_b := R_20
      have R_20q := R_20.alloc (.cells #[.int .i64 0, .int .i64 0] 27)
      have D_b := D_20
      have D_20q := D_20.alloc (.cells #[.int .i64 0, .int .i64 0] 27)
      have B_b := B_20
      have B_20q := B_20.alloc (.cells #[.int .i64 0, .int .i64 0] 27)
      have O_b := O_20
      have O_20q := O_20.alloc (.cells #[.int .i64 0, .int .i64 0] 27)
      have F_b := F_20
      have F_20q := F_20.alloc (.cells #[.int .i64 0, .int .i64 0] 27)
      have X_b := X_20
      have X_20q := X_20.alloc (.cells #[.int .i64 0, .int .i64 0] 27)
      have G_b := G_20
      have G_20q := G_20.alloc (.cells #[.int .i64 0, .int .i64 0] 27)
      have U_b := U_20
      have U_20q := (own_on U_20 ((Below.refl _ _).alloc (Nat.le_refl _) (.cells #[.int .i64 0, .int .i64 0] 27)))
      have M_20q := Two.new w20 27 (.int .i64 0) (.int .i64 0)
      have CM_20q := (Below.refl w20.heap.size w20).alloc (Nat.le_refl _) (.cells #[.int .i64 0, .int .i64 0] 27)
      have Z20q := Z20.alloc Z20.size (.cells #[.int .i64 0, .int .i64 0] 27)
      clear R_20 D_20 D_20_c0 D_20_c1 D_20_c2 D_20_c3 B_20 B_20_c0 B_20_c1 O_20 O_20_c0 O_20_c1 O_20_c2 O_20_c3 F_20 F_20_c0 F_20_c1 X_20 X_20_c0 X_20_c1 X_20_c2 X_20_c3 G_20 G_20_c0 G_20_c1 U_20
      have D_20q_c0 := D_20q.c0
      have D_20q_c1 := D_20q.c1
      have D_20q_c2 := D_20q.c2
      have D_20q_c3 := D_20q.c3
      have B_20q_c0 := B_20q.c0
      have B_20q_c1 := B_20q.c1
      have O_20q_c0 := O_20q.c0
      have O_20q_c1 := O_20q.c1
      have O_20q_c2 := O_20q.c2
      have O_20q_c3 := O_20q.c3
      have F_20q_c0 := F_20q.c0
      have F_20q_c1 := F_20q.c1
      have X_20q_c0 := X_20q.c0
      have X_20q_c1 := X_20q.c1
      have X_20q_c2 := X_20q.c2
      have X_20q_c3 := X_20q.c3
      have G_20q_c0 := G_20q.c0
      have G_20q_c1 := G_20q.c1
      have M_20q_c0 := M_20q.c0
      have M_20q_c1 := M_20q.c1
      have M_20q_f0 := M_20q.f0
      have M_20q_f1 := M_20q.f1
      go_wp2_with fail
      refine (refat_any _ _ _).mono ?_
      rintro e w21 ⟨rfl, y21⟩
      have R_21 := R_20q.on y21
      have D_21 := D_20q.on y21
      have B_21 := B_20q.on y21
      have O_21 := O_20q.on y21
      have F_21 := F_20q.on y21
      have X_21 := X_20q.on y21
      have G_21 := G_20q.on y21
      have U_21 := own_on U_20q y21
      have M_21 := M_20q.on y21
      clear R_20q D_20q D_20q_c0 D_20q_c1 D_20q_c2 D_20q_c3 B_20q B_20q_c0 B_20q_c1 O_20q O_20q_c0 O_20q_c1 O_20q_c2 O_20q_c3 F_20q F_20q_c0 F_20q_c1 X_20q X_20q_c0 X_20q_c1 X_20q_c2 X_20q_c3 G_20q G_20q_c0 G_20q_c1 U_20q M_20q M_20q_c0 M_20q_c1 M_20q_f0 M_20q_f1
      have z21 := Z20q.trans (y21.mono Z20q.size)
      have Z21 := z21
      have cM21 := CM_20q.trans (y21.mono CM_20q.size)
      have CM_21 := cM21
      have D_21_c0 := D_21.c0
      have D_21_c1 := D_21.c1
      have D_21_c2 := D_21.c2
      have D_21_c3 := D_21.c3
      have B_21_c0 := B_21.c0
      have B_21_c1 := B_21.c1
      have O_21_c0 := O_21.c0
      have O_21_c1 := O_21.c1
      have O_21_c2 := O_21.c2
      have O_21_c3 := O_21.c3
      have F_21_c0 := F_21.c0
      have F_21_c1 := F_21.c1
      have X_21_c0 := X_21.c0
      have X_21_c1 := X_21.c1
      have X_21_c2 := X_21.c2
      have X_21_c3 := X_21.c3
      have G_21_c0 := G_21.c0
      have G_21_c1 := G_21.c1
      have M_21_c0 := M_21.c0
      have M_21_c1 := M_21.c1
      have M_21_f0 := M_21.f0
      have M_21_f1 := M_21.f1
      have CM_22 := (CM_21.setCell (p := ⟨w20.heap.size, 0, none⟩) (by simp) (.int .i64 6)).setCell (p := ⟨w20.heap.size, 1, none⟩) (by simp) (.int .i64 (-1))
      have Z22 := (Z21.setCell (p := ⟨w20.heap.size, 0, none⟩) (by have := z20.size; simp; omega) (.int .i64 6)).setCell (p := ⟨w20.heap.size, 1, none⟩) (by have := z20.size; simp; omega) (.int .i64 (-1))
      have R_22 := R_b.on CM_22
      have D_22 := D_b.on CM_22
      have B_22 := B_b.on CM_22
      have O_22 := O_b.on CM_22
      have F_22 := F_b.on CM_22
      have X_22 := X_b.on CM_22
      have G_22 := G_b.on CM_22
      have U_22 := own_on U_b CM_22
      have M_22 := (M_21.set0 (.int .i64 6)).set1 (.int .i64 (-1))
      have D_22_c0 := D_22.c0
      have D_22_c1 := D_22.c1
      have D_22_c2 := D_22.c2
      have D_22_c3 := D_22.c3
      have B_22_c0 := B_22.c0
      have B_22_c1 := B_22.c1
      have O_22_c0 := O_22.c0
      have O_22_c1 := O_22.c1
      have O_22_c2 := O_22.c2
      have O_22_c3 := O_22.c3
      have F_22_c0 := F_22.c0
      have F_22_c1 := F_22.c1
      have X_22_c0 := X_22.c0
      have X_22_c1 := X_22.c1
      have X_22_c2 := X_22.c2
      have X_22_c3 := X_22.c3
      have G_22_c0 := G_22.c0
      have G_22_c1 := G_22.c1
      have M_22_c0 := M_22.c0
      have M_22_c1 := M_22.c1
      have M_22_f0 := M_22.f0
      have M_22_f1 := M_22.f1
      go_wp2_with fail
      go_quiet (fail)
      have R_23 := Rd.drewN R_22 nq
      have D_23 := Four.drewN D_22 nq
      have B_23 := Two.drewN B_22 nq
      have O_23 := Four.drewN O_22 nq
      have F_23 := Two.drewN F_22 nq
      have X_23 := Four.drewN X_22 nq
      have G_23 := Two.drewN G_22 nq
      have U_23 := own_drewN U_22 nq
      have M_23 := Two.drewN M_22 nq
      have Z23 := belowN Z22 nq
      have CM_23 := belowN CM_22 nq
      clear R_21 D_21 D_21_c0 D_21_c1 D_21_c2 D_21_c3 B_21 B_21_c0 B_21_c1 O_21 O_21_c0 O_21_c1 O_21_c2 O_21_c3 F_21 F_21_c0 F_21_c1 X_21 X_21_c0 X_21_c1 X_21_c2 X_21_c3 G_21 G_21_c0 G_21_c1 U_21 M_21 M_21_c0 M_21_c1 M_21_f0 M_21_f1 R_22 D_22 D_22_c0 D_22_c1 D_22_c2 D_22_c3 B_22 B_22_c0 B_22_c1 O_22 O_22_c0 O_22_c1 O_22_c2 O_22_c3 F_22 F_22_c0 F_22_c1 X_22 X_22_c0 X_22_c1 X_22_c2 X_22_c3 G_22 G_22_c0 G_22_c1 U_22 M_22 M_22_c0 M_22_c1 M_22_f0 M_22_f1
      obtain ⟨w23, hw23⟩ : ∃ w23, w23 = ((w21.setCell ⟨w20.heap.size, 0, none⟩ (.int .i64 6)).setCell ⟨w20.heap.size, 1, none⟩ (.int .i64 (-1))).drewN nq := ⟨_, rfl⟩
      rw [← hw23] at R_23 D_23 B_23 O_23 F_23 X_23 G_23 U_23 M_23 Z23 CM_23
      rw [← hw23]
      clear hw23
      have D_23_c0 := D_23.c0
      have D_23_c1 := D_23.c1
      have D_23_c2 := D_23.c2
      have D_23_c3 := D_23.c3
      have B_23_c0 := B_23.c0
      have B_23_c1 := B_23.c1
      have O_23_c0 := O_23.c0
      have O_23_c1 := O_23.c1
      have O_23_c2 := O_23.c2
      have O_23_c3 := O_23.c3
      have F_23_c0 := F_23.c0
      have F_23_c1 := F_23.c1
      have X_23_c0 := X_23.c0
      have X_23_c1 := X_23.c1
      have X_23_c2 := X_23.c2
      have X_23_c3 := X_23.c3
      have G_23_c0 := G_23.c0
      have G_23_c1 := G_23.c1
      have M_23_c0 := M_23.c0
      have M_23_c1 := M_23.c1
      have M_23_f0 := M_23.f0
      have M_23_f1 := M_23.f1
      have CM_24 := (CM_23.setCell (p := ⟨w20.heap.size, 0, none⟩) (by simp) (.int .i64 0)).setCell (p := ⟨w20.heap.size, 1, none⟩) (by simp) (.int .i64 0)
      have Z24 := (Z23.setCell (p := ⟨w20.heap.size, 0, none⟩) (by have := z20.size; simp; omega) (.int .i64 0)).setCell (p := ⟨w20.heap.size, 1, none⟩) (by have := z20.size; simp; omega) (.int .i64 0)
      have R_24 := R_b.on CM_24
      have D_24 := D_b.on CM_24
      have B_24 := B_b.on CM_24
      have O_24 := O_b.on CM_24
      have F_24 := F_b.on CM_24
      have X_24 := X_b.on CM_24
      have G_24 := G_b.on CM_24
      have U_24 := own_on U_b CM_24
      have M_24 := (M_23.set0 (.int .i64 0)).set1 (.int .i64 0)
      have D_24_c0 := D_24.c0
      have D_24_c1 := D_24.c1
      have D_24_c2 := D_24.c2
      have D_24_c3 := D_24.c3
      have B_24_c0 := B_24.c0
      have B_24_c1 := B_24.c1
      have O_24_c0 := O_24.c0
      have O_24_c1 := O_24.c1
      have O_24_c2 := O_24.c2
      have O_24_c3 := O_24.c3
      have F_24_c0 := F_24.c0
      have F_24_c1 := F_24.c1
      have X_24_c0 := X_24.c0
      have X_24_c1 := X_24.c1
      have X_24_c2 := X_24.c2
      have X_24_c3 := X_24.c3
      have G_24_c0 := G_24.c0
      have G_24_c1 := G_24.c1
      have M_24_c0 := M_24.c0
      have M_24_c1 := M_24.c1
      have M_24_f0 := M_24.f0
      have M_24_f1 := M_24.f1
      go_wp2_with fail
      refine (HDO.out _).mono ?_
      rintro e w25 ⟨rfl, y25⟩
      have R_25 := R_24.on y25
      have D_25 := D_24.on y25
      have B_25 := B_24.on y25
      have O_25 := O_24.on y25
      have F_25 := F_24.on y25
      have X_25 := X_24.on y25
      have G_25 := G_24.on y25
      have U_25 := own_on U_24 y25
      have M_25 := M_24.on y25
      clear R_23 D_23 D_23_c0 D_23_c1 D_23_c2 D_23_c3 B_23 B_23_c0 B_23_c1 O_23 O_23_c0 O_23_c1 O_23_c2 O_23_c3 F_23 F_23_c0 F_23_c1 X_23 X_23_c0 X_23_c1 X_23_c2 X_23_c3 G_23 G_23_c0 G_23_c1 U_23 M_23 M_23_c0 M_23_c1 M_23_f0 M_23_f1 R_24 D_24 D_24_c0 D_24_c1 D_24_c2 D_24_c3 B_24 B_24_c0 B_24_c1 O_24 O_24_c0 O_24_c1 O_24_c2 O_24_c3 F_24 F_24_c0 F_24_c1 X_24 X_24_c0 X_24_c1 X_24_c2 X_24_c3 G_24 G_24_c0 G_24_c1 U_24 M_24 M_24_c0 M_24_c1 M_24_f0 M_24_f1
      have z25 := Z24.trans (y25.mono Z24.size)
      have Z25 := z25
      have cM25 := CM_24.trans (y25.mono CM_24.size)
      have CM_25 := cM25
      have D_25_c0 := D_25.c0
      have D_25_c1 := D_25.c1
      have D_25_c2 := D_25.c2
      have D_25_c3 := D_25.c3
      have B_25_c0 := B_25.c0
      have B_25_c1 := B_25.c1
      have O_25_c0 := O_25.c0
      have O_25_c1 := O_25.c1
      have O_25_c2 := O_25.c2
      have O_25_c3 := O_25.c3
      have F_25_c0 := F_25.c0
      have F_25_c1 := F_25.c1
      have X_25_c0 := X_25.c0
      have X_25_c1 := X_25.c1
      have X_25_c2 := X_25.c2
      have X_25_c3 := X_25.c3
      have G_25_c0 := G_25.c0
      have G_25_c1 := G_25.c1
      have M_25_c0 := M_25.c0
      have M_25_c1 := M_25.c1
      have M_25_f0 := M_25.f0
      have M_25_f1 := M_25.f1
      go_wp2_with fail
      refine (refat_any _ _ _).mono ?_
      rintro e w26 ⟨rfl, y26⟩
      have R_26 := R_25.on y26
      have D_26 := D_25.on y26
      have B_26 := B_25.on y26
      have O_26 := O_25.on y26
      have F_26 := F_25.on y26
      have X_26 := X_25.on y26
      have G_26 := G_25.on y26
      have U_26 := own_on U_25 y26
      have M_26 := M_25.on y26
      clear R_25 D_25 D_25_c0 D_25_c1 D_25_c2 D_25_c3 B_25 B_25_c0 B_25_c1 O_25 O_25_c0 O_25_c1 O_25_c2 O_25_c3 F_25 F_25_c0 F_25_c1 X_25 X_25_c0 X_25_c1 X_25_c2 X_25_c3 G_25 G_25_c0 G_25_c1 U_25 M_25 M_25_c0 M_25_c1 M_25_f0 M_25_f1
      have z26 := Z25.trans (y26.mono Z25.size)
      have Z26 := z26
      have cM26 := CM_25.trans (y26.mono CM_25.size)
      have CM_26 := cM26
      have D_26_c0 := D_26.c0
      have D_26_c1 := D_26.c1
      have D_26_c2 := D_26.c2
      have D_26_c3 := D_26.c3
      have B_26_c0 := B_26.c0
      have B_26_c1 := B_26.c1
      have O_26_c0 := O_26.c0
      have O_26_c1 := O_26.c1
      have O_26_c2 := O_26.c2
      have O_26_c3 := O_26.c3
      have F_26_c0 := F_26.c0
      have F_26_c1 := F_26.c1
      have X_26_c0 := X_26.c0
      have X_26_c1 := X_26.c1
      have X_26_c2 := X_26.c2
      have X_26_c3 := X_26.c3
      have G_26_c0 := G_26.c0
      have G_26_c1 := G_26.c1
      have M_26_c0 := M_26.c0
      have M_26_c1 := M_26.c1
      have M_26_f0 := M_26.f0
      have M_26_f1 := M_26.f1
      have CM_27 := (CM_26.setCell (p := ⟨w20.heap.size, 0, none⟩) (by simp) (.int .i64 6)).setCell (p := ⟨w20.heap.size, 1, none⟩) (by simp) (.int .i64 (-1))
      have Z27 := (Z26.setCell (p := ⟨w20.heap.size, 0, none⟩) (by have := z20.size; simp; omega) (.int .i64 6)).setCell (p := ⟨w20.heap.size, 1, none⟩) (by have := z20.size; simp; omega) (.int .i64 (-1))
      have R_27 := R_b.on CM_27
      have D_27 := D_b.on CM_27
      have B_27 := B_b.on CM_27
      have O_27 := O_b.on CM_27
      have F_27 := F_b.on CM_27
      have X_27 := X_b.on CM_27
      have G_27 := G_b.on CM_27
      have U_27 := own_on U_b CM_27
      have M_27 := (M_26.set0 (.int .i64 6)).set1 (.int .i64 (-1))
      have D_27_c0 := D_27.c0
      have D_27_c1 := D_27.c1
      have D_27_c2 := D_27.c2
      have D_27_c3 := D_27.c3
      have B_27_c0 := B_27.c0
      have B_27_c1 := B_27.c1
      have O_27_c0 := O_27.c0
      have O_27_c1 := O_27.c1
      have O_27_c2 := O_27.c2
      have O_27_c3 := O_27.c3
      have F_27_c0 := F_27.c0
      have F_27_c1 := F_27.c1
      have X_27_c0 := X_27.c0
      have X_27_c1 := X_27.c1
      have X_27_c2 := X_27.c2
      have X_27_c3 := X_27.c3
      have G_27_c0 := G_27.c0
      have G_27_c1 := G_27.c1
      have M_27_c0 := M_27.c0
      have M_27_c1 := M_27.c1
      have M_27_f0 := M_27.f0
      have M_27_f1 := M_27.f1
      go_wp2
      go_ret
      exact ⟨rfl, Z27⟩
set_option maxRecDepth 100000 in
set_option maxHeartbeats 1600000 in
theorem ag_form_form {A : Option Addr} {n c : Nat} {lo hi V p : Int} {t : Int} {d : List Nat} {cnt : Int} (hd : ∀ k, d.getD k 0 < 256) (hlo : -9223372036854775808 ≤ cnt) (hhi : cnt ≤ 9223372036854775807) (hno : ¬ Ok d cnt) (hok : DecOk lo hi V t) (w : World) (h : Rd w A n c (bcells d)) :
    Calls Try.prog 9 #[.agg #[.int .i64 lo, .int .i64 hi, .int .i64 V, .int .i64 t], .agg #[.slice A n c, .int .i64 cnt], .int .i64 p] w fun e w' => e = .returned (.bool true) ∧ Below w.heap.size w w' := by
  have HOP := Lib.hid (fun (W : World) (hW : Rd W A n c (bcells d)) => open_form hW hno)
  have HBO := Lib.hid (fun (W : World) (hW : Rd W A n c (bcells d)) => bitsok_any hW hd hlo hhi false ⟨(fun h => by cases h), fun h => absurd h hno⟩)
  have HDO := Lib.hid (fun (W : World) => decoderok_any lo hi V t true ⟨fun _ => hok, fun _ => rfl⟩ W)
  have HGE := Lib.hid (fun (W : World) (hW : Rd W A n c (bcells d)) => get_form (p := p) hW hok hno)
  clear hno hd hlo hhi hok
  obtain ⟨i0, hi0, hz0, hz1, hz2⟩ := info_parts int_info
  have R_0 := ((h).alloc (.cells #[.int .i64 lo, .int .i64 hi, .int .i64 V, .int .i64 t] 62)).alloc (.cells #[.slice A n c, .int .i64 cnt] 25)
  have D_0 := ((Four.new w 62 (.int .i64 lo) (.int .i64 hi) (.int .i64 V) (.int .i64 t))).alloc (.cells #[.slice A n c, .int .i64 cnt] 25)
  have B_0 := (Two.new1 w (.cells #[.int .i64 lo, .int .i64 hi, .int .i64 V, .int .i64 t] 62) 25 (.slice A n c) (.int .i64 cnt))
  have Z0 := ((Below.refl w.heap.size w).alloc (by simp) (.cells #[.int .i64 lo, .int .i64 hi, .int .i64 V, .int .i64 t] 62)).alloc (by simp) (.cells #[.slice A n c, .int .i64 cnt] 25)
  have D_0_c0 := D_0.c0
  have D_0_c1 := D_0.c1
  have D_0_c2 := D_0.c2
  have D_0_c3 := D_0.c3
  have B_0_c0 := B_0.c0
  have B_0_c1 := B_0.c1
  go_enter Try.func9, Try.ntmps9
  go_wp2_with fail
  refine (HOP.out _ R_0).mono ?_
  rintro e w1 ⟨rfl, y1⟩
  have R_1 := ((R_0.on y1).alloc (.cells #[.int .i64 0, .int .i64 0, .int .i64 0, .int .i64 0] 62)).alloc (.cells #[.int .i64 6, .int .i64 (-1)] 27)
  have D_1 := ((D_0.on y1).alloc (.cells #[.int .i64 0, .int .i64 0, .int .i64 0, .int .i64 0] 62)).alloc (.cells #[.int .i64 6, .int .i64 (-1)] 27)
  have B_1 := ((B_0.on y1).alloc (.cells #[.int .i64 0, .int .i64 0, .int .i64 0, .int .i64 0] 62)).alloc (.cells #[.int .i64 6, .int .i64 (-1)] 27)
  have O_1 := ((Four.new w1 62 (.int .i64 0) (.int .i64 0) (.int .i64 0) (.int .i64 0))).alloc (.cells #[.int .i64 6, .int .i64 (-1)] 27)
  have F_1 := (Two.new1 w1 (.cells #[.int .i64 0, .int .i64 0, .int .i64 0, .int .i64 0] 62) 27 (.int .i64 6) (.int .i64 (-1)))
  clear R_0 D_0 D_0_c0 D_0_c1 D_0_c2 D_0_c3 B_0 B_0_c0 B_0_c1
  have z1 := Z0.trans (y1.mono Z0.size)
  have Z1 := ((z1).alloc (by have := z1.size; omega) (.cells #[.int .i64 0, .int .i64 0, .int .i64 0, .int .i64 0] 62)).alloc (by have := z1.size; simp; omega) (.cells #[.int .i64 6, .int .i64 (-1)] 27)
  have D_1_c0 := D_1.c0
  have D_1_c1 := D_1.c1
  have D_1_c2 := D_1.c2
  have D_1_c3 := D_1.c3
  have B_1_c0 := B_1.c0
  have B_1_c1 := B_1.c1
  have O_1_c0 := O_1.c0
  have O_1_c1 := O_1.c1
  have O_1_c2 := O_1.c2
  have O_1_c3 := O_1.c3
  have F_1_c0 := F_1.c0
  have F_1_c1 := F_1.c1
  go_wp2_with fail
  refine (HGE.out _ R_1).mono ?_
  rintro e w2 ⟨rfl, y2⟩
  have R_2 := ((R_1.on y2).alloc (.cells #[.int .i64 0, .int .i64 0, .int .i64 0, .int .i64 0] 62)).alloc (.cells #[.int .i64 6, .int .i64 (-2)] 27)
  have D_2 := ((D_1.on y2).alloc (.cells #[.int .i64 0, .int .i64 0, .int .i64 0, .int .i64 0] 62)).alloc (.cells #[.int .i64 6, .int .i64 (-2)] 27)
  have B_2 := ((B_1.on y2).alloc (.cells #[.int .i64 0, .int .i64 0, .int .i64 0, .int .i64 0] 62)).alloc (.cells #[.int .i64 6, .int .i64 (-2)] 27)
  have O_2 := ((O_1.on y2).alloc (.cells #[.int .i64 0, .int .i64 0, .int .i64 0, .int .i64 0] 62)).alloc (.cells #[.int .i64 6, .int .i64 (-2)] 27)
  have F_2 := ((F_1.on y2).alloc (.cells #[.int .i64 0, .int .i64 0, .int .i64 0, .int .i64 0] 62)).alloc (.cells #[.int .i64 6, .int .i64 (-2)] 27)
  have X_2 := ((Four.new w2 62 (.int .i64 0) (.int .i64 0) (.int .i64 0) (.int .i64 0))).alloc (.cells #[.int .i64 6, .int .i64 (-2)] 27)
  have G_2 := (Two.new1 w2 (.cells #[.int .i64 0, .int .i64 0, .int .i64 0, .int .i64 0] 62) 27 (.int .i64 6) (.int .i64 (-2)))
  clear R_1 D_1 D_1_c0 D_1_c1 D_1_c2 D_1_c3 B_1 B_1_c0 B_1_c1 O_1 O_1_c0 O_1_c1 O_1_c2 O_1_c3 F_1 F_1_c0 F_1_c1
  have z2 := Z1.trans (y2.mono Z1.size)
  have Z2 := ((z2).alloc (by have := z2.size; omega) (.cells #[.int .i64 0, .int .i64 0, .int .i64 0, .int .i64 0] 62)).alloc (by have := z2.size; simp; omega) (.cells #[.int .i64 6, .int .i64 (-2)] 27)
  have D_2_c0 := D_2.c0
  have D_2_c1 := D_2.c1
  have D_2_c2 := D_2.c2
  have D_2_c3 := D_2.c3
  have B_2_c0 := B_2.c0
  have B_2_c1 := B_2.c1
  have O_2_c0 := O_2.c0
  have O_2_c1 := O_2.c1
  have O_2_c2 := O_2.c2
  have O_2_c3 := O_2.c3
  have F_2_c0 := F_2.c0
  have F_2_c1 := F_2.c1
  have X_2_c0 := X_2.c0
  have X_2_c1 := X_2.c1
  have X_2_c2 := X_2.c2
  have X_2_c3 := X_2.c3
  have G_2_c0 := G_2.c0
  have G_2_c1 := G_2.c1
  go_wp2_with fail
  refine (codes_true _).mono ?_
  rintro e w3 ⟨rfl, y3⟩
  have R_3 := R_2.on y3
  have D_3 := D_2.on y3
  have B_3 := B_2.on y3
  have O_3 := O_2.on y3
  have F_3 := F_2.on y3
  have X_3 := X_2.on y3
  have G_3 := G_2.on y3
  clear R_2 D_2 D_2_c0 D_2_c1 D_2_c2 D_2_c3 B_2 B_2_c0 B_2_c1 O_2 O_2_c0 O_2_c1 O_2_c2 O_2_c3 F_2 F_2_c0 F_2_c1 X_2 X_2_c0 X_2_c1 X_2_c2 X_2_c3 G_2 G_2_c0 G_2_c1
  have z3 := Z2.trans (y3.mono Z2.size)
  have Z3 := z3
  have D_3_c0 := D_3.c0
  have D_3_c1 := D_3.c1
  have D_3_c2 := D_3.c2
  have D_3_c3 := D_3.c3
  have B_3_c0 := B_3.c0
  have B_3_c1 := B_3.c1
  have O_3_c0 := O_3.c0
  have O_3_c1 := O_3.c1
  have O_3_c2 := O_3.c2
  have O_3_c3 := O_3.c3
  have F_3_c0 := F_3.c0
  have F_3_c1 := F_3.c1
  have X_3_c0 := X_3.c0
  have X_3_c1 := X_3.c1
  have X_3_c2 := X_3.c2
  have X_3_c3 := X_3.c3
  have G_3_c0 := G_3.c0
  have G_3_c1 := G_3.c1
  go_wp2_with fail
  refine (HBO.out _ R_3).mono ?_
  rintro e w4 ⟨rfl, y4⟩
  have R_4 := R_3.on y4
  have D_4 := D_3.on y4
  have B_4 := B_3.on y4
  have O_4 := O_3.on y4
  have F_4 := F_3.on y4
  have X_4 := X_3.on y4
  have G_4 := G_3.on y4
  clear R_3 D_3 D_3_c0 D_3_c1 D_3_c2 D_3_c3 B_3 B_3_c0 B_3_c1 O_3 O_3_c0 O_3_c1 O_3_c2 O_3_c3 F_3 F_3_c0 F_3_c1 X_3 X_3_c0 X_3_c1 X_3_c2 X_3_c3 G_3 G_3_c0 G_3_c1
  have z4 := Z3.trans (y4.mono Z3.size)
  have Z4 := z4
  have D_4_c0 := D_4.c0
  have D_4_c1 := D_4.c1
  have D_4_c2 := D_4.c2
  have D_4_c3 := D_4.c3
  have B_4_c0 := B_4.c0
  have B_4_c1 := B_4.c1
  have O_4_c0 := O_4.c0
  have O_4_c1 := O_4.c1
  have O_4_c2 := O_4.c2
  have O_4_c3 := O_4.c3
  have F_4_c0 := F_4.c0
  have F_4_c1 := F_4.c1
  have X_4_c0 := X_4.c0
  have X_4_c1 := X_4.c1
  have X_4_c2 := X_4.c2
  have X_4_c3 := X_4.c3
  have G_4_c0 := G_4.c0
  have G_4_c1 := G_4.c1
  go_wp2_with fail
  go_loopw [13, 14] (fun lv i wr => ∃ (j : Nat) (P2 : Option Addr) (p3 : Nat), j ≤ 32 ∧ i = .int .i64 (j : Nat) ∧ lv = .slice P2 j p3 ∧ Below w4.heap.size w4 wr ∧ w4.heap.size ≤ wr.heap.size ∧ wr.ownsRow w4.heap.size 3 1 (.slice P2 j p3) j (zl [] j)) (fun _ i _ => 32 - (intOf i).toNat)
  case atStart => exact ⟨0, none, 0, Nat.zero_le _, rfl, rfl, Below.refl _ _, Nat.le_refl _, World.ownsRow_nil _ _ _ _⟩
  case round =>
    obtain ⟨j, P2, p3, hj, rfl, rfl, yr, hsz, oP⟩ := hrel
    have HP := Lib.hid oP
    clear oP
    by_cases hlt : j < 32
    · have HPC := Lib.hid (zl_succ [] j)
      have i1 : (0 : Int) ≤ (j : Int) := by omega
      have i2 : decide ((j : Int) < 32) = true := by simp; omega
      have i3 : decide (j < 32) = true := by simp; omega
      go_wp2_with (at_builtin; refine wpList_app1 _ rfl _ _ _ rfl w4.heap.size 3 i0 _ 8 Try.underlying34 hi0 hz0 hz1 hz2 rfl _ _ _ rfl HP.out (.int .i64 0) rfl rfl ?g1 ?g2 hsz ?_)
      case g1 => unfold maxLen; omega
      case g2 => omega
      intro A14 c14 w14 o14 g14
      have Y14 := below_grown yr HP.out g14 (Nat.le_refl _) hsz
      rw [← HPC.out] at o14
      have HP14 := Lib.hid o14
      have hs14 : w4.heap.size ≤ w14.heap.size := Y14.size
      clear o14 g14
      go_wp2_with fail
      go_roundw
      case rel => exact ⟨j + 1, A14, c14, by omega, by go_num, rfl, Y14, hs14, HP14.out⟩
      case measure => simp [intOf] <;> omega
    · obtain rfl : j = 32 := by omega
      obtain ⟨w20, hw20⟩ : ∃ w20, w20 = wr := ⟨_, rfl⟩
      rw [← hw20] at yr hsz HP ⊢
      clear hw20 wr
      have U_20 := HP.out
      clear HP
      have R_20 := R_4.on yr
      have D_20 := D_4.on yr
      have B_20 := B_4.on yr
      have O_20 := O_4.on yr
      have F_20 := F_4.on yr
      have X_20 := X_4.on yr
      have G_20 := G_4.on yr
      have Z20 := Z4.trans (yr.mono Z4.size)
      clear R_4 D_4 D_4_c0 D_4_c1 D_4_c2 D_4_c3 B_4 B_4_c0 B_4_c1 O_4 O_4_c0 O_4_c1 O_4_c2 O_4_c3 F_4 F_4_c0 F_4_c1 X_4 X_4_c0 X_4_c1 X_4_c2 X_4_c3 G_4 G_4_c0 G_4_c1
      have D_20_c0 := D_20.c0
      have D_20_c1 := D_20.c1
      have D_20_c2 := D_20.c2
      have D_20_c3 := D_20.c3
      have B_20_c0 := B_20.c0
      have B_20_c1 := B_20.c1
      have O_20_c0 := O_20.c0
      have O_20_c1 := O_20.c1
      have O_20_c2 := O_20.c2
      have O_20_c3 := O_20.c3
      have F_20_c0 := F_20.c0
      have F_20_c1 := F_20.c1
      have X_20_c0 := X_20.c0
      have X_20_c1 := X_20.c1
      have X_20_c2 := X_20.c2
      have X_20_c3 := X_20.c3
      have G_20_c0 := G_20.c0
      have G_20_c1 := G_20.c1
      have z20 := Z20
      have R_b := R_20
      have R_20q := R_20.alloc (.cells #[.int .i64 0, .int .i64 0] 27)
      have D_b := D_20
      have D_20q := D_20.alloc (.cells #[.int .i64 0, .int .i64 0] 27)
      have B_b := B_20
      have B_20q := B_20.alloc (.cells #[.int .i64 0, .int .i64 0] 27)
      have O_b := O_20
      have O_20q := O_20.alloc (.cells #[.int .i64 0, .int .i64 0] 27)
      have F_b := F_20
      have F_20q := F_20.alloc (.cells #[.int .i64 0, .int .i64 0] 27)
      have X_b := X_20
      have X_20q := X_20.alloc (.cells #[.int .i64 0, .int .i64 0] 27)
      have G_b := G_20
      have G_20q := G_20.alloc (.cells #[.int .i64 0, .int .i64 0] 27)
      have U_b := U_20
      have U_20q := (own_on U_20 ((Below.refl _ _).alloc (Nat.le_refl _) (.cells #[.int .i64 0, .int .i64 0] 27)))
      have M_20q := Two.new w20 27 (.int .i64 0) (.int .i64 0)
      have CM_20q := (Below.refl w20.heap.size w20).alloc (Nat.le_refl _) (.cells #[.int .i64 0, .int .i64 0] 27)
      have Z20q := Z20.alloc Z20.size (.cells #[.int .i64 0, .int .i64 0] 27)
      clear R_20 D_20 D_20_c0 D_20_c1 D_20_c2 D_20_c3 B_20 B_20_c0 B_20_c1 O_20 O_20_c0 O_20_c1 O_20_c2 O_20_c3 F_20 F_20_c0 F_20_c1 X_20 X_20_c0 X_20_c1 X_20_c2 X_20_c3 G_20 G_20_c0 G_20_c1 U_20
      have D_20q_c0 := D_20q.c0
      have D_20q_c1 := D_20q.c1
      have D_20q_c2 := D_20q.c2
      have D_20q_c3 := D_20q.c3
      have B_20q_c0 := B_20q.c0
      have B_20q_c1 := B_20q.c1
      have O_20q_c0 := O_20q.c0
      have O_20q_c1 := O_20q.c1
      have O_20q_c2 := O_20q.c2
      have O_20q_c3 := O_20q.c3
      have F_20q_c0 := F_20q.c0
      have F_20q_c1 := F_20q.c1
      have X_20q_c0 := X_20q.c0
      have X_20q_c1 := X_20q.c1
      have X_20q_c2 := X_20q.c2
      have X_20q_c3 := X_20q.c3
      have G_20q_c0 := G_20q.c0
      have G_20q_c1 := G_20q.c1
      have M_20q_c0 := M_20q.c0
      have M_20q_c1 := M_20q.c1
      have M_20q_f0 := M_20q.f0
      have M_20q_f1 := M_20q.f1
      go_wp2_with fail
      refine (refat_any _ _ _).mono ?_
      rintro e w21 ⟨rfl, y21⟩
      have R_21 := R_20q.on y21
      have D_21 := D_20q.on y21
      have B_21 := B_20q.on y21
      have O_21 := O_20q.on y21
      have F_21 := F_20q.on y21
      have X_21 := X_20q.on y21
      have G_21 := G_20q.on y21
      have U_21 := own_on U_20q y21
      have M_21 := M_20q.on y21
      clear R_20q D_20q D_20q_c0 D_20q_c1 D_20q_c2 D_20q_c3 B_20q B_20q_c0 B_20q_c1 O_20q O_20q_c0 O_20q_c1 O_20q_c2 O_20q_c3 F_20q F_20q_c0 F_20q_c1 X_20q X_20q_c0 X_20q_c1 X_20q_c2 X_20q_c3 G_20q G_20q_c0 G_20q_c1 U_20q M_20q M_20q_c0 M_20q_c1 M_20q_f0 M_20q_f1
      have z21 := Z20q.trans (y21.mono Z20q.size)
      have Z21 := z21
      have cM21 := CM_20q.trans (y21.mono CM_20q.size)
      have CM_21 := cM21
      have D_21_c0 := D_21.c0
      have D_21_c1 := D_21.c1
      have D_21_c2 := D_21.c2
      have D_21_c3 := D_21.c3
      have B_21_c0 := B_21.c0
      have B_21_c1 := B_21.c1
      have O_21_c0 := O_21.c0
      have O_21_c1 := O_21.c1
      have O_21_c2 := O_21.c2
      have O_21_c3 := O_21.c3
      have F_21_c0 := F_21.c0
      have F_21_c1 := F_21.c1
      have X_21_c0 := X_21.c0
      have X_21_c1 := X_21.c1
      have X_21_c2 := X_21.c2
      have X_21_c3 := X_21.c3
      have G_21_c0 := G_21.c0
      have G_21_c1 := G_21.c1
      have M_21_c0 := M_21.c0
      have M_21_c1 := M_21.c1
      have M_21_f0 := M_21.f0
      have M_21_f1 := M_21.f1
      have CM_22 := (CM_21.setCell (p := ⟨w20.heap.size, 0, none⟩) (by simp) (.int .i64 6)).setCell (p := ⟨w20.heap.size, 1, none⟩) (by simp) (.int .i64 (-1))
      have Z22 := (Z21.setCell (p := ⟨w20.heap.size, 0, none⟩) (by have := z20.size; simp; omega) (.int .i64 6)).setCell (p := ⟨w20.heap.size, 1, none⟩) (by have := z20.size; simp; omega) (.int .i64 (-1))
      have R_22 := R_b.on CM_22
      have D_22 := D_b.on CM_22
      have B_22 := B_b.on CM_22
      have O_22 := O_b.on CM_22
      have F_22 := F_b.on CM_22
      have X_22 := X_b.on CM_22
      have G_22 := G_b.on CM_22
      have U_22 := own_on U_b CM_22
      have M_22 := (M_21.set0 (.int .i64 6)).set1 (.int .i64 (-1))
      have D_22_c0 := D_22.c0
      have D_22_c1 := D_22.c1
      have D_22_c2 := D_22.c2
      have D_22_c3 := D_22.c3
      have B_22_c0 := B_22.c0
      have B_22_c1 := B_22.c1
      have O_22_c0 := O_22.c0
      have O_22_c1 := O_22.c1
      have O_22_c2 := O_22.c2
      have O_22_c3 := O_22.c3
      have F_22_c0 := F_22.c0
      have F_22_c1 := F_22.c1
      have X_22_c0 := X_22.c0
      have X_22_c1 := X_22.c1
      have X_22_c2 := X_22.c2
      have X_22_c3 := X_22.c3
      have G_22_c0 := G_22.c0
      have G_22_c1 := G_22.c1
      have M_22_c0 := M_22.c0
      have M_22_c1 := M_22.c1
      have M_22_f0 := M_22.f0
      have M_22_f1 := M_22.f1
      go_wp2_with fail
      go_quiet (fail)
      have R_23 := Rd.drewN R_22 nq
      have D_23 := Four.drewN D_22 nq
      have B_23 := Two.drewN B_22 nq
      have O_23 := Four.drewN O_22 nq
      have F_23 := Two.drewN F_22 nq
      have X_23 := Four.drewN X_22 nq
      have G_23 := Two.drewN G_22 nq
      have U_23 := own_drewN U_22 nq
      have M_23 := Two.drewN M_22 nq
      have Z23 := belowN Z22 nq
      have CM_23 := belowN CM_22 nq
      clear R_21 D_21 D_21_c0 D_21_c1 D_21_c2 D_21_c3 B_21 B_21_c0 B_21_c1 O_21 O_21_c0 O_21_c1 O_21_c2 O_21_c3 F_21 F_21_c0 F_21_c1 X_21 X_21_c0 X_21_c1 X_21_c2 X_21_c3 G_21 G_21_c0 G_21_c1 U_21 M_21 M_21_c0 M_21_c1 M_21_f0 M_21_f1 R_22 D_22 D_22_c0 D_22_c1 D_22_c2 D_22_c3 B_22 B_22_c0 B_22_c1 O_22 O_22_c0 O_22_c1 O_22_c2 O_22_c3 F_22 F_22_c0 F_22_c1 X_22 X_22_c0 X_22_c1 X_22_c2 X_22_c3 G_22 G_22_c0 G_22_c1 U_22 M_22 M_22_c0 M_22_c1 M_22_f0 M_22_f1
      obtain ⟨w23, hw23⟩ : ∃ w23, w23 = ((w21.setCell ⟨w20.heap.size, 0, none⟩ (.int .i64 6)).setCell ⟨w20.heap.size, 1, none⟩ (.int .i64 (-1))).drewN nq := ⟨_, rfl⟩
      rw [← hw23] at R_23 D_23 B_23 O_23 F_23 X_23 G_23 U_23 M_23 Z23 CM_23
      rw [← hw23]
      clear hw23
      have D_23_c0 := D_23.c0
      have D_23_c1 := D_23.c1
      have D_23_c2 := D_23.c2
      have D_23_c3 := D_23.c3
      have B_23_c0 := B_23.c0
      have B_23_c1 := B_23.c1
      have O_23_c0 := O_23.c0
      have O_23_c1 := O_23.c1
      have O_23_c2 := O_23.c2
      have O_23_c3 := O_23.c3
      have F_23_c0 := F_23.c0
      have F_23_c1 := F_23.c1
      have X_23_c0 := X_23.c0
      have X_23_c1 := X_23.c1
      have X_23_c2 := X_23.c2
      have X_23_c3 := X_23.c3
      have G_23_c0 := G_23.c0
      have G_23_c1 := G_23.c1
      have M_23_c0 := M_23.c0
      have M_23_c1 := M_23.c1
      have M_23_f0 := M_23.f0
      have M_23_f1 := M_23.f1
      have CM_24 := (CM_23.setCell (p := ⟨w20.heap.size, 0, none⟩) (by simp) (.int .i64 0)).setCell (p := ⟨w20.heap.size, 1, none⟩) (by simp) (.int .i64 0)
      have Z24 := (Z23.setCell (p := ⟨w20.heap.size, 0, none⟩) (by have := z20.size; simp; omega) (.int .i64 0)).setCell (p := ⟨w20.heap.size, 1, none⟩) (by have := z20.size; simp; omega) (.int .i64 0)
      have R_24 := R_b.on CM_24
      have D_24 := D_b.on CM_24
      have B_24 := B_b.on CM_24
      have O_24 := O_b.on CM_24
      have F_24 := F_b.on CM_24
      have X_24 := X_b.on CM_24
      have G_24 := G_b.on CM_24
      have U_24 := own_on U_b CM_24
      have M_24 := (M_23.set0 (.int .i64 0)).set1 (.int .i64 0)
      have D_24_c0 := D_24.c0
      have D_24_c1 := D_24.c1
      have D_24_c2 := D_24.c2
      have D_24_c3 := D_24.c3
      have B_24_c0 := B_24.c0
      have B_24_c1 := B_24.c1
      have O_24_c0 := O_24.c0
      have O_24_c1 := O_24.c1
      have O_24_c2 := O_24.c2
      have O_24_c3 := O_24.c3
      have F_24_c0 := F_24.c0
      have F_24_c1 := F_24.c1
      have X_24_c0 := X_24.c0
      have X_24_c1 := X_24.c1
      have X_24_c2 := X_24.c2
      have X_24_c3 := X_24.c3
      have G_24_c0 := G_24.c0
      have G_24_c1 := G_24.c1
      have M_24_c0 := M_24.c0
      have M_24_c1 := M_24.c1
      have M_24_f0 := M_24.f0
      have M_24_f1 := M_24.f1
      go_wp2_with fail
      refine (HDO.out _).mono ?_
      rintro e w25 ⟨rfl, y25⟩
      have R_25 := R_24.on y25
      have D_25 := D_24.on y25
      have B_25 := B_24.on y25
      have O_25 := O_24.on y25
      have F_25 := F_24.on y25
      have X_25 := X_24.on y25
      have G_25 := G_24.on y25
      have U_25 := own_on U_24 y25
      have M_25 := M_24.on y25
      clear R_23 D_23 D_23_c0 D_23_c1 D_23_c2 D_23_c3 B_23 B_23_c0 B_23_c1 O_23 O_23_c0 O_23_c1 O_23_c2 O_23_c3 F_23 F_23_c0 F_23_c1 X_23 X_23_c0 X_23_c1 X_23_c2 X_23_c3 G_23 G_23_c0 G_23_c1 U_23 M_23 M_23_c0 M_23_c1 M_23_f0 M_23_f1 R_24 D_24 D_24_c0 D_24_c1 D_24_c2 D_24_c3 B_24 B_24_c0 B_24_c1 O_24 O_24_c0 O_24_c1 O_24_c2 O_24_c3 F_24 F_24_c0 F_24_c1 X_24 X_24_c0 X_24_c1 X_24_c2 X_24_c3 G_24 G_24_c0 G_24_c1 U_24 M_24 M_24_c0 M_24_c1 M_24_f0 M_24_f1
      have z25 := Z24.trans (y25.mono Z24.size)
      have Z25 := z25
      have cM25 := CM_24.trans (y25.mono CM_24.size)
      have CM_25 := cM25
      have D_25_c0 := D_25.c0
      have D_25_c1 := D_25.c1
      have D_25_c2 := D_25.c2
      have D_25_c3 := D_25.c3
      have B_25_c0 := B_25.c0
      have B_25_c1 := B_25.c1
      have O_25_c0 := O_25.c0
      have O_25_c1 := O_25.c1
      have O_25_c2 := O_25.c2
      have O_25_c3 := O_25.c3
      have F_25_c0 := F_25.c0
      have F_25_c1 := F_25.c1
      have X_25_c0 := X_25.c0
      have X_25_c1 := X_25.c1
      have X_25_c2 := X_25.c2
      have X_25_c3 := X_25.c3
      have G_25_c0 := G_25.c0
      have G_25_c1 := G_25.c1
      have M_25_c0 := M_25.c0
      have M_25_c1 := M_25.c1
      have M_25_f0 := M_25.f0
      have M_25_f1 := M_25.f1
      go_wp2_with fail
      refine (refat_any _ _ _).mono ?_
      rintro e w26 ⟨rfl, y26⟩
      have R_26 := R_25.on y26
      have D_26 := D_25.on y26
      have B_26 := B_25.on y26
      have O_26 := O_25.on y26
      have F_26 := F_25.on y26
      have X_26 := X_25.on y26
      have G_26 := G_25.on y26
      have U_26 := own_on U_25 y26
      have M_26 := M_25.on y26
      clear R_25 D_25 D_25_c0 D_25_c1 D_25_c2 D_25_c3 B_25 B_25_c0 B_25_c1 O_25 O_25_c0 O_25_c1 O_25_c2 O_25_c3 F_25 F_25_c0 F_25_c1 X_25 X_25_c0 X_25_c1 X_25_c2 X_25_c3 G_25 G_25_c0 G_25_c1 U_25 M_25 M_25_c0 M_25_c1 M_25_f0 M_25_f1
      have z26 := Z25.trans (y26.mono Z25.size)
      have Z26 := z26
      have cM26 := CM_25.trans (y26.mono CM_25.size)
      have CM_26 := cM26
      have D_26_c0 := D_26.c0
      have D_26_c1 := D_26.c1
      have D_26_c2 := D_26.c2
      have D_26_c3 := D_26.c3
      have B_26_c0 := B_26.c0
      have B_26_c1 := B_26.c1
      have O_26_c0 := O_26.c0
      have O_26_c1 := O_26.c1
      have O_26_c2 := O_26.c2
      have O_26_c3 := O_26.c3
      have F_26_c0 := F_26.c0
      have F_26_c1 := F_26.c1
      have X_26_c0 := X_26.c0
      have X_26_c1 := X_26.c1
      have X_26_c2 := X_26.c2
      have X_26_c3 := X_26.c3
      have G_26_c0 := G_26.c0
      have G_26_c1 := G_26.c1
      have M_26_c0 := M_26.c0
      have M_26_c1 := M_26.c1
      have M_26_f0 := M_26.f0
      have M_26_f1 := M_26.f1
      have CM_27 := (CM_26.setCell (p := ⟨w20.heap.size, 0, none⟩) (by simp) (.int .i64 6)).setCell (p := ⟨w20.heap.size, 1, none⟩) (by simp) (.int .i64 (-2))
      have Z27 := (Z26.setCell (p := ⟨w20.heap.size, 0, none⟩) (by have := z20.size; simp; omega) (.int .i64 6)).setCell (p := ⟨w20.heap.size, 1, none⟩) (by have := z20.size; simp; omega) (.int .i64 (-2))
      have R_27 := R_b.on CM_27
      have D_27 := D_b.on CM_27
      have B_27 := B_b.on CM_27
      have O_27 := O_b.on CM_27
      have F_27 := F_b.on CM_27
      have X_27 := X_b.on CM_27
      have G_27 := G_b.on CM_27
      have U_27 := own_on U_b CM_27
      have M_27 := (M_26.set0 (.int .i64 6)).set1 (.int .i64 (-2))
      have D_27_c0 := D_27.c0
      have D_27_c1 := D_27.c1
      have D_27_c2 := D_27.c2
      have D_27_c3 := D_27.c3
      have B_27_c0 := B_27.c0
      have B_27_c1 := B_27.c1
      have O_27_c0 := O_27.c0
      have O_27_c1 := O_27.c1
      have O_27_c2 := O_27.c2
      have O_27_c3 := O_27.c3
      have F_27_c0 := F_27.c0
      have F_27_c1 := F_27.c1
      have X_27_c0 := X_27.c0
      have X_27_c1 := X_27.c1
      have X_27_c2 := X_27.c2
      have X_27_c3 := X_27.c3
      have G_27_c0 := G_27.c0
      have G_27_c1 := G_27.c1
      have M_27_c0 := M_27.c0
      have M_27_c1 := M_27.c1
      have M_27_f0 := M_27.f0
      have M_27_f1 := M_27.f1
      go_wp2
      go_ret
      exact ⟨rfl, Z27⟩
set_option maxRecDepth 100000 in
set_option maxHeartbeats 1600000 in
theorem ag_short_bad {A : Option Addr} {n c : Nat} {lo hi V p : Int} {t : Int} {l : List Nat} (h01 : Is01 l) (hl : l.length ≤ 131072) (hs : l.length < 2) (hbad : ¬ DecOk lo hi V t) (w : World) (h : Rd w A n c (bcells (pack l))) :
    Calls Try.prog 9 #[.agg #[.int .i64 lo, .int .i64 hi, .int .i64 V, .int .i64 t], .agg #[.slice A n c, .int .i64 l.length], .int .i64 p] w fun e w' => e = .returned (.bool true) ∧ Below w.heap.size w w' := by
  have HBO := Lib.hid (fun (W : World) (hW : Rd W A n c (bcells (pack l))) => bitsok_any hW (pack_lt h01) (by omega) (by omega) true ⟨fun _ => Ok.of_list h01 hl, fun _ => rfl⟩)
  have HBI := Lib.hid (fun (W : World) (hW : Rd W A n c (bcells (pack l))) => bits_any hW h01 hl (l.length : Nat) rfl)
  have hc6 : decide (l.length < 2) = true := by simp; omega
  have hc7 : decide ((l.length : Int) < 2) = true := by simp; omega
  have HOP := Lib.hid (fun (W : World) (hW : Rd W A n c (bcells (pack l))) => open_short hW h01 hl hs)
  have HDO := Lib.hid (fun (W : World) => decoderok_any lo hi V t false ⟨(fun h => by cases h), fun h => absurd h hbad⟩ W)
  have HGE := Lib.hid (fun (W : World) => get_bad (A := A) (n := n) (c := c) (cnt := (l.length : Nat)) (p := p) (w := W) hbad)
  have H01 := Lib.hid h01
  clear hs h01 hbad
  obtain ⟨i0, hi0, hz0, hz1, hz2⟩ := info_parts int_info
  have R_0 := ((h).alloc (.cells #[.int .i64 lo, .int .i64 hi, .int .i64 V, .int .i64 t] 62)).alloc (.cells #[.slice A n c, .int .i64 l.length] 25)
  have D_0 := ((Four.new w 62 (.int .i64 lo) (.int .i64 hi) (.int .i64 V) (.int .i64 t))).alloc (.cells #[.slice A n c, .int .i64 l.length] 25)
  have B_0 := (Two.new1 w (.cells #[.int .i64 lo, .int .i64 hi, .int .i64 V, .int .i64 t] 62) 25 (.slice A n c) (.int .i64 l.length))
  have Z0 := ((Below.refl w.heap.size w).alloc (by simp) (.cells #[.int .i64 lo, .int .i64 hi, .int .i64 V, .int .i64 t] 62)).alloc (by simp) (.cells #[.slice A n c, .int .i64 l.length] 25)
  have D_0_c0 := D_0.c0
  have D_0_c1 := D_0.c1
  have D_0_c2 := D_0.c2
  have D_0_c3 := D_0.c3
  have B_0_c0 := B_0.c0
  have B_0_c1 := B_0.c1
  go_enter Try.func9, Try.ntmps9
  go_wp2_with fail
  refine (HOP.out _ R_0).mono ?_
  rintro e w1 ⟨rfl, y1⟩
  have R_1 := ((R_0.on y1).alloc (.cells #[.int .i64 0, .int .i64 0, .int .i64 0, .int .i64 0] 62)).alloc (.cells #[.int .i64 15, .int .i64 (-1)] 27)
  have D_1 := ((D_0.on y1).alloc (.cells #[.int .i64 0, .int .i64 0, .int .i64 0, .int .i64 0] 62)).alloc (.cells #[.int .i64 15, .int .i64 (-1)] 27)
  have B_1 := ((B_0.on y1).alloc (.cells #[.int .i64 0, .int .i64 0, .int .i64 0, .int .i64 0] 62)).alloc (.cells #[.int .i64 15, .int .i64 (-1)] 27)
  have O_1 := ((Four.new w1 62 (.int .i64 0) (.int .i64 0) (.int .i64 0) (.int .i64 0))).alloc (.cells #[.int .i64 15, .int .i64 (-1)] 27)
  have F_1 := (Two.new1 w1 (.cells #[.int .i64 0, .int .i64 0, .int .i64 0, .int .i64 0] 62) 27 (.int .i64 15) (.int .i64 (-1)))
  clear R_0 D_0 D_0_c0 D_0_c1 D_0_c2 D_0_c3 B_0 B_0_c0 B_0_c1
  have z1 := Z0.trans (y1.mono Z0.size)
  have Z1 := ((z1).alloc (by have := z1.size; omega) (.cells #[.int .i64 0, .int .i64 0, .int .i64 0, .int .i64 0] 62)).alloc (by have := z1.size; simp; omega) (.cells #[.int .i64 15, .int .i64 (-1)] 27)
  have D_1_c0 := D_1.c0
  have D_1_c1 := D_1.c1
  have D_1_c2 := D_1.c2
  have D_1_c3 := D_1.c3
  have B_1_c0 := B_1.c0
  have B_1_c1 := B_1.c1
  have O_1_c0 := O_1.c0
  have O_1_c1 := O_1.c1
  have O_1_c2 := O_1.c2
  have O_1_c3 := O_1.c3
  have F_1_c0 := F_1.c0
  have F_1_c1 := F_1.c1
  go_wp2_with fail
  refine (HGE.out _).mono ?_
  rintro e w2 ⟨rfl, y2⟩
  have R_2 := ((R_1.on y2).alloc (.cells #[.int .i64 0, .int .i64 0, .int .i64 0, .int .i64 0] 62)).alloc (.cells #[.int .i64 6, .int .i64 (-1)] 27)
  have D_2 := ((D_1.on y2).alloc (.cells #[.int .i64 0, .int .i64 0, .int .i64 0, .int .i64 0] 62)).alloc (.cells #[.int .i64 6, .int .i64 (-1)] 27)
  have B_2 := ((B_1.on y2).alloc (.cells #[.int .i64 0, .int .i64 0, .int .i64 0, .int .i64 0] 62)).alloc (.cells #[.int .i64 6, .int .i64 (-1)] 27)
  have O_2 := ((O_1.on y2).alloc (.cells #[.int .i64 0, .int .i64 0, .int .i64 0, .int .i64 0] 62)).alloc (.cells #[.int .i64 6, .int .i64 (-1)] 27)
  have F_2 := ((F_1.on y2).alloc (.cells #[.int .i64 0, .int .i64 0, .int .i64 0, .int .i64 0] 62)).alloc (.cells #[.int .i64 6, .int .i64 (-1)] 27)
  have X_2 := ((Four.new w2 62 (.int .i64 0) (.int .i64 0) (.int .i64 0) (.int .i64 0))).alloc (.cells #[.int .i64 6, .int .i64 (-1)] 27)
  have G_2 := (Two.new1 w2 (.cells #[.int .i64 0, .int .i64 0, .int .i64 0, .int .i64 0] 62) 27 (.int .i64 6) (.int .i64 (-1)))
  clear R_1 D_1 D_1_c0 D_1_c1 D_1_c2 D_1_c3 B_1 B_1_c0 B_1_c1 O_1 O_1_c0 O_1_c1 O_1_c2 O_1_c3 F_1 F_1_c0 F_1_c1
  have z2 := Z1.trans (y2.mono Z1.size)
  have Z2 := ((z2).alloc (by have := z2.size; omega) (.cells #[.int .i64 0, .int .i64 0, .int .i64 0, .int .i64 0] 62)).alloc (by have := z2.size; simp; omega) (.cells #[.int .i64 6, .int .i64 (-1)] 27)
  have D_2_c0 := D_2.c0
  have D_2_c1 := D_2.c1
  have D_2_c2 := D_2.c2
  have D_2_c3 := D_2.c3
  have B_2_c0 := B_2.c0
  have B_2_c1 := B_2.c1
  have O_2_c0 := O_2.c0
  have O_2_c1 := O_2.c1
  have O_2_c2 := O_2.c2
  have O_2_c3 := O_2.c3
  have F_2_c0 := F_2.c0
  have F_2_c1 := F_2.c1
  have X_2_c0 := X_2.c0
  have X_2_c1 := X_2.c1
  have X_2_c2 := X_2.c2
  have X_2_c3 := X_2.c3
  have G_2_c0 := G_2.c0
  have G_2_c1 := G_2.c1
  go_wp2_with fail
  refine (codes_true _).mono ?_
  rintro e w3 ⟨rfl, y3⟩
  have R_3 := R_2.on y3
  have D_3 := D_2.on y3
  have B_3 := B_2.on y3
  have O_3 := O_2.on y3
  have F_3 := F_2.on y3
  have X_3 := X_2.on y3
  have G_3 := G_2.on y3
  clear R_2 D_2 D_2_c0 D_2_c1 D_2_c2 D_2_c3 B_2 B_2_c0 B_2_c1 O_2 O_2_c0 O_2_c1 O_2_c2 O_2_c3 F_2 F_2_c0 F_2_c1 X_2 X_2_c0 X_2_c1 X_2_c2 X_2_c3 G_2 G_2_c0 G_2_c1
  have z3 := Z2.trans (y3.mono Z2.size)
  have Z3 := z3
  have D_3_c0 := D_3.c0
  have D_3_c1 := D_3.c1
  have D_3_c2 := D_3.c2
  have D_3_c3 := D_3.c3
  have B_3_c0 := B_3.c0
  have B_3_c1 := B_3.c1
  have O_3_c0 := O_3.c0
  have O_3_c1 := O_3.c1
  have O_3_c2 := O_3.c2
  have O_3_c3 := O_3.c3
  have F_3_c0 := F_3.c0
  have F_3_c1 := F_3.c1
  have X_3_c0 := X_3.c0
  have X_3_c1 := X_3.c1
  have X_3_c2 := X_3.c2
  have X_3_c3 := X_3.c3
  have G_3_c0 := G_3.c0
  have G_3_c1 := G_3.c1
  go_wp2_with fail
  refine (HBO.out _ R_3).mono ?_
  rintro e w4 ⟨rfl, y4⟩
  have R_4 := R_3.on y4
  have D_4 := D_3.on y4
  have B_4 := B_3.on y4
  have O_4 := O_3.on y4
  have F_4 := F_3.on y4
  have X_4 := X_3.on y4
  have G_4 := G_3.on y4
  clear R_3 D_3 D_3_c0 D_3_c1 D_3_c2 D_3_c3 B_3 B_3_c0 B_3_c1 O_3 O_3_c0 O_3_c1 O_3_c2 O_3_c3 F_3 F_3_c0 F_3_c1 X_3 X_3_c0 X_3_c1 X_3_c2 X_3_c3 G_3 G_3_c0 G_3_c1
  have z4 := Z3.trans (y4.mono Z3.size)
  have Z4 := z4
  have D_4_c0 := D_4.c0
  have D_4_c1 := D_4.c1
  have D_4_c2 := D_4.c2
  have D_4_c3 := D_4.c3
  have B_4_c0 := B_4.c0
  have B_4_c1 := B_4.c1
  have O_4_c0 := O_4.c0
  have O_4_c1 := O_4.c1
  have O_4_c2 := O_4.c2
  have O_4_c3 := O_4.c3
  have F_4_c0 := F_4.c0
  have F_4_c1 := F_4.c1
  have X_4_c0 := X_4.c0
  have X_4_c1 := X_4.c1
  have X_4_c2 := X_4.c2
  have X_4_c3 := X_4.c3
  have G_4_c0 := G_4.c0
  have G_4_c1 := G_4.c1
  go_wp2_with fail
  refine (HBI.out _ R_4).mono ?_
  rintro e w6 ⟨A6, c6, rfl, o6, y6⟩
  have hs6 := y6.size
  go_wp2_with fail
  go_loopw [13, 14] (fun lv i wr => ∃ (j : Nat) (P2 : Option Addr) (p3 : Nat), j ≤ 32 ∧ i = .int .i64 (j : Nat) ∧ lv = .slice P2 (l.length + j) p3 ∧ Below w4.heap.size w4 wr ∧ w4.heap.size ≤ wr.heap.size ∧ wr.ownsRow w4.heap.size 3 1 (.slice P2 (l.length + j) p3) (l.length + j) (zl l j)) (fun _ i _ => 32 - (intOf i).toNat)
  case atStart => exact ⟨0, A6, c6, Nat.zero_le _, rfl, rfl, y6, hs6, by rw [zl_zero]; exact o6⟩
  case round =>
    obtain ⟨j, P2, p3, hj, rfl, rfl, yr, hsz, oP⟩ := hrel
    have HP := Lib.hid oP
    clear oP
    by_cases hlt : j < 32
    · have HPC := Lib.hid (zl_succ l j)
      have i1 : (0 : Int) ≤ (j : Int) := by omega
      have i2 : decide ((j : Int) < 32) = true := by simp; omega
      have i3 : decide (j < 32) = true := by simp; omega
      go_wp2_with (at_builtin; refine wpList_app1 _ rfl _ _ _ rfl w4.heap.size 3 i0 _ 8 Try.underlying34 hi0 hz0 hz1 hz2 rfl _ _ _ rfl HP.out (.int .i64 0) rfl rfl ?g1 ?g2 hsz ?_)
      case g1 => unfold maxLen; omega
      case g2 => omega
      intro A14 c14 w14 o14 g14
      have Y14 := below_grown yr HP.out g14 (Nat.le_refl _) hsz
      rw [← HPC.out] at o14
      have HP14 := Lib.hid o14
      have hs14 : w4.heap.size ≤ w14.heap.size := Y14.size
      clear o14 g14
      go_wp2_with fail
      go_roundw
      case rel => exact ⟨j + 1, A14, c14, by omega, by go_num, rfl, Y14, hs14, HP14.out⟩
      case measure => simp [intOf] <;> omega
    · obtain rfl : j = 32 := by omega
      obtain ⟨w20, hw20⟩ : ∃ w20, w20 = wr := ⟨_, rfl⟩
      rw [← hw20] at yr hsz HP ⊢
      clear hw20 wr
      have U_20 := HP.out
      clear HP
      have R_20 := R_4.on yr
      have D_20 := D_4.on yr
      have B_20 := B_4.on yr
      have O_20 := O_4.on yr
      have F_20 := F_4.on yr
      have X_20 := X_4.on yr
      have G_20 := G_4.on yr
      have Z20 := Z4.trans (yr.mono Z4.size)
      clear R_4 D_4 D_4_c0 D_4_c1 D_4_c2 D_4_c3 B_4 B_4_c0 B_4_c1 O_4 O_4_c0 O_4_c1 O_4_c2 O_4_c3 F_4 F_4_c0 F_4_c1 X_4 X_4_c0 X_4_c1 X_4_c2 X_4_c3 G_4 G_4_c0 G_4_c1
      have D_20_c0 := D_20.c0
      have D_20_c1 := D_20.c1
      have D_20_c2 := D_20.c2
      have D_20_c3 := D_20.c3
      have B_20_c0 := B_20.c0
      have B_20_c1 := B_20.c1
      have O_20_c0 := O_20.c0
      have O_20_c1 := O_20.c1
      have O_20_c2 := O_20.c2
      have O_20_c3 := O_20.c3
      have F_20_c0 := F_20.c0
      have F_20_c1 := F_20.c1
      have X_20_c0 := X_20.c0
      have X_20_c1 := X_20.c1
      have X_20_c2 := X_20.c2
      have X_20_c3 := X_20.c3
      have G_20_c0 := G_20.c0
      have G_20_c1 := G_20.c1
      have z20 := Z20
      have R_b := R_20
      have R_20q := R_20.alloc (.cells #[.int .i64 0, .int .i64 0] 27)
      have D_b := D_20
      have D_20q := D_20.alloc (.cells #[.int .i64 0, .int .i64 0] 27)
      have B_b := B_20
      have B_20q := B_20.alloc (.cells #[.int .i64 0, .int .i64 0] 27)
      have O_b := O_20
      have O_20q := O_20.alloc (.cells #[.int .i64 0, .int .i64 0] 27)
      have F_b := F_20
      have F_20q := F_20.alloc (.cells #[.int .i64 0, .int .i64 0] 27)
      have X_b := X_20
      have X_20q := X_20.alloc (.cells #[.int .i64 0, .int .i64 0] 27)
      have G_b := G_20
      have G_20q := G_20.alloc (.cells #[.int .i64 0, .int .i64 0] 27)
      have U_b := U_20
      have U_20q := (own_on U_20 ((Below.refl _ _).alloc (Nat.le_refl _) (.cells #[.int .i64 0, .int .i64 0] 27)))
      have M_20q := Two.new w20 27 (.int .i64 0) (.int .i64 0)
      have CM_20q := (Below.refl w20.heap.size w20).alloc (Nat.le_refl _) (.cells #[.int .i64 0, .int .i64 0] 27)
      have Z20q := Z20.alloc Z20.size (.cells #[.int .i64 0, .int .i64 0] 27)
      clear R_20 D_20 D_20_c0 D_20_c1 D_20_c2 D_20_c3 B_20 B_20_c0 B_20_c1 O_20 O_20_c0 O_20_c1 O_20_c2 O_20_c3 F_20 F_20_c0 F_20_c1 X_20 X_20_c0 X_20_c1 X_20_c2 X_20_c3 G_20 G_20_c0 G_20_c1 U_20
      have D_20q_c0 := D_20q.c0
      have D_20q_c1 := D_20q.c1
      have D_20q_c2 := D_20q.c2
      have D_20q_c3 := D_20q.c3
      have B_20q_c0 := B_20q.c0
      have B_20q_c1 := B_20q.c1
      have O_20q_c0 := O_20q.c0
      have O_20q_c1 := O_20q.c1
      have O_20q_c2 := O_20q.c2
      have O_20q_c3 := O_20q.c3
      have F_20q_c0 := F_20q.c0
      have F_20q_c1 := F_20q.c1
      have X_20q_c0 := X_20q.c0
      have X_20q_c1 := X_20q.c1
      have X_20q_c2 := X_20q.c2
      have X_20q_c3 := X_20q.c3
      have G_20q_c0 := G_20q.c0
      have G_20q_c1 := G_20q.c1
      have M_20q_c0 := M_20q.c0
      have M_20q_c1 := M_20q.c1
      have M_20q_f0 := M_20q.f0
      have M_20q_f1 := M_20q.f1
      go_wp2_with fail
      refine (refat_any _ _ _).mono ?_
      rintro e w21 ⟨rfl, y21⟩
      have R_21 := R_20q.on y21
      have D_21 := D_20q.on y21
      have B_21 := B_20q.on y21
      have O_21 := O_20q.on y21
      have F_21 := F_20q.on y21
      have X_21 := X_20q.on y21
      have G_21 := G_20q.on y21
      have U_21 := own_on U_20q y21
      have M_21 := M_20q.on y21
      clear R_20q D_20q D_20q_c0 D_20q_c1 D_20q_c2 D_20q_c3 B_20q B_20q_c0 B_20q_c1 O_20q O_20q_c0 O_20q_c1 O_20q_c2 O_20q_c3 F_20q F_20q_c0 F_20q_c1 X_20q X_20q_c0 X_20q_c1 X_20q_c2 X_20q_c3 G_20q G_20q_c0 G_20q_c1 U_20q M_20q M_20q_c0 M_20q_c1 M_20q_f0 M_20q_f1
      have z21 := Z20q.trans (y21.mono Z20q.size)
      have Z21 := z21
      have cM21 := CM_20q.trans (y21.mono CM_20q.size)
      have CM_21 := cM21
      have D_21_c0 := D_21.c0
      have D_21_c1 := D_21.c1
      have D_21_c2 := D_21.c2
      have D_21_c3 := D_21.c3
      have B_21_c0 := B_21.c0
      have B_21_c1 := B_21.c1
      have O_21_c0 := O_21.c0
      have O_21_c1 := O_21.c1
      have O_21_c2 := O_21.c2
      have O_21_c3 := O_21.c3
      have F_21_c0 := F_21.c0
      have F_21_c1 := F_21.c1
      have X_21_c0 := X_21.c0
      have X_21_c1 := X_21.c1
      have X_21_c2 := X_21.c2
      have X_21_c3 := X_21.c3
      have G_21_c0 := G_21.c0
      have G_21_c1 := G_21.c1
      have M_21_c0 := M_21.c0
      have M_21_c1 := M_21.c1
      have M_21_f0 := M_21.f0
      have M_21_f1 := M_21.f1
      have CM_22 := (CM_21.setCell (p := ⟨w20.heap.size, 0, none⟩) (by simp) (.int .i64 15)).setCell (p := ⟨w20.heap.size, 1, none⟩) (by simp) (.int .i64 (-1))
      have Z22 := (Z21.setCell (p := ⟨w20.heap.size, 0, none⟩) (by have := z20.size; simp; omega) (.int .i64 15)).setCell (p := ⟨w20.heap.size, 1, none⟩) (by have := z20.size; simp; omega) (.int .i64 (-1))
      have R_22 := R_b.on CM_22
      have D_22 := D_b.on CM_22
      have B_22 := B_b.on CM_22
      have O_22 := O_b.on CM_22
      have F_22 := F_b.on CM_22
      have X_22 := X_b.on CM_22
      have G_22 := G_b.on CM_22
      have U_22 := own_on U_b CM_22
      have M_22 := (M_21.set0 (.int .i64 15)).set1 (.int .i64 (-1))
      have D_22_c0 := D_22.c0
      have D_22_c1 := D_22.c1
      have D_22_c2 := D_22.c2
      have D_22_c3 := D_22.c3
      have B_22_c0 := B_22.c0
      have B_22_c1 := B_22.c1
      have O_22_c0 := O_22.c0
      have O_22_c1 := O_22.c1
      have O_22_c2 := O_22.c2
      have O_22_c3 := O_22.c3
      have F_22_c0 := F_22.c0
      have F_22_c1 := F_22.c1
      have X_22_c0 := X_22.c0
      have X_22_c1 := X_22.c1
      have X_22_c2 := X_22.c2
      have X_22_c3 := X_22.c3
      have G_22_c0 := G_22.c0
      have G_22_c1 := G_22.c1
      have M_22_c0 := M_22.c0
      have M_22_c1 := M_22.c1
      have M_22_f0 := M_22.f0
      have M_22_f1 := M_22.f1
      go_wp2_with fail
      go_quiet (fail)
      have R_23 := Rd.drewN R_22 nq
      have D_23 := Four.drewN D_22 nq
      have B_23 := Two.drewN B_22 nq
      have O_23 := Four.drewN O_22 nq
      have F_23 := Two.drewN F_22 nq
      have X_23 := Four.drewN X_22 nq
      have G_23 := Two.drewN G_22 nq
      have U_23 := own_drewN U_22 nq
      have M_23 := Two.drewN M_22 nq
      have Z23 := belowN Z22 nq
      have CM_23 := belowN CM_22 nq
      clear R_21 D_21 D_21_c0 D_21_c1 D_21_c2 D_21_c3 B_21 B_21_c0 B_21_c1 O_21 O_21_c0 O_21_c1 O_21_c2 O_21_c3 F_21 F_21_c0 F_21_c1 X_21 X_21_c0 X_21_c1 X_21_c2 X_21_c3 G_21 G_21_c0 G_21_c1 U_21 M_21 M_21_c0 M_21_c1 M_21_f0 M_21_f1 R_22 D_22 D_22_c0 D_22_c1 D_22_c2 D_22_c3 B_22 B_22_c0 B_22_c1 O_22 O_22_c0 O_22_c1 O_22_c2 O_22_c3 F_22 F_22_c0 F_22_c1 X_22 X_22_c0 X_22_c1 X_22_c2 X_22_c3 G_22 G_22_c0 G_22_c1 U_22 M_22 M_22_c0 M_22_c1 M_22_f0 M_22_f1
      obtain ⟨w23, hw23⟩ : ∃ w23, w23 = ((w21.setCell ⟨w20.heap.size, 0, none⟩ (.int .i64 15)).setCell ⟨w20.heap.size, 1, none⟩ (.int .i64 (-1))).drewN nq := ⟨_, rfl⟩
      rw [← hw23] at R_23 D_23 B_23 O_23 F_23 X_23 G_23 U_23 M_23 Z23 CM_23
      rw [← hw23]
      clear hw23
      have D_23_c0 := D_23.c0
      have D_23_c1 := D_23.c1
      have D_23_c2 := D_23.c2
      have D_23_c3 := D_23.c3
      have B_23_c0 := B_23.c0
      have B_23_c1 := B_23.c1
      have O_23_c0 := O_23.c0
      have O_23_c1 := O_23.c1
      have O_23_c2 := O_23.c2
      have O_23_c3 := O_23.c3
      have F_23_c0 := F_23.c0
      have F_23_c1 := F_23.c1
      have X_23_c0 := X_23.c0
      have X_23_c1 := X_23.c1
      have X_23_c2 := X_23.c2
      have X_23_c3 := X_23.c3
      have G_23_c0 := G_23.c0
      have G_23_c1 := G_23.c1
      have M_23_c0 := M_23.c0
      have M_23_c1 := M_23.c1
      have M_23_f0 := M_23.f0
      have M_23_f1 := M_23.f1
      have CM_24 := (CM_23.setCell (p := ⟨w20.heap.size, 0, none⟩) (by simp) (.int .i64 0)).setCell (p := ⟨w20.heap.size, 1, none⟩) (by simp) (.int .i64 0)
      have Z24 := (Z23.setCell (p := ⟨w20.heap.size, 0, none⟩) (by have := z20.size; simp; omega) (.int .i64 0)).setCell (p := ⟨w20.heap.size, 1, none⟩) (by have := z20.size; simp; omega) (.int .i64 0)
      have R_24 := R_b.on CM_24
      have D_24 := D_b.on CM_24
      have B_24 := B_b.on CM_24
      have O_24 := O_b.on CM_24
      have F_24 := F_b.on CM_24
      have X_24 := X_b.on CM_24
      have G_24 := G_b.on CM_24
      have U_24 := own_on U_b CM_24
      have M_24 := (M_23.set0 (.int .i64 0)).set1 (.int .i64 0)
      have D_24_c0 := D_24.c0
      have D_24_c1 := D_24.c1
      have D_24_c2 := D_24.c2
      have D_24_c3 := D_24.c3
      have B_24_c0 := B_24.c0
      have B_24_c1 := B_24.c1
      have O_24_c0 := O_24.c0
      have O_24_c1 := O_24.c1
      have O_24_c2 := O_24.c2
      have O_24_c3 := O_24.c3
      have F_24_c0 := F_24.c0
      have F_24_c1 := F_24.c1
      have X_24_c0 := X_24.c0
      have X_24_c1 := X_24.c1
      have X_24_c2 := X_24.c2
      have X_24_c3 := X_24.c3
      have G_24_c0 := G_24.c0
      have G_24_c1 := G_24.c1
      have M_24_c0 := M_24.c0
      have M_24_c1 := M_24.c1
      have M_24_f0 := M_24.f0
      have M_24_f1 := M_24.f1
      go_wp2_with fail
      refine (HDO.out _).mono ?_
      rintro e w25 ⟨rfl, y25⟩
      have R_25 := R_24.on y25
      have D_25 := D_24.on y25
      have B_25 := B_24.on y25
      have O_25 := O_24.on y25
      have F_25 := F_24.on y25
      have X_25 := X_24.on y25
      have G_25 := G_24.on y25
      have U_25 := own_on U_24 y25
      have M_25 := M_24.on y25
      clear R_23 D_23 D_23_c0 D_23_c1 D_23_c2 D_23_c3 B_23 B_23_c0 B_23_c1 O_23 O_23_c0 O_23_c1 O_23_c2 O_23_c3 F_23 F_23_c0 F_23_c1 X_23 X_23_c0 X_23_c1 X_23_c2 X_23_c3 G_23 G_23_c0 G_23_c1 U_23 M_23 M_23_c0 M_23_c1 M_23_f0 M_23_f1 R_24 D_24 D_24_c0 D_24_c1 D_24_c2 D_24_c3 B_24 B_24_c0 B_24_c1 O_24 O_24_c0 O_24_c1 O_24_c2 O_24_c3 F_24 F_24_c0 F_24_c1 X_24 X_24_c0 X_24_c1 X_24_c2 X_24_c3 G_24 G_24_c0 G_24_c1 U_24 M_24 M_24_c0 M_24_c1 M_24_f0 M_24_f1
      have z25 := Z24.trans (y25.mono Z24.size)
      have Z25 := z25
      have cM25 := CM_24.trans (y25.mono CM_24.size)
      have CM_25 := cM25
      have D_25_c0 := D_25.c0
      have D_25_c1 := D_25.c1
      have D_25_c2 := D_25.c2
      have D_25_c3 := D_25.c3
      have B_25_c0 := B_25.c0
      have B_25_c1 := B_25.c1
      have O_25_c0 := O_25.c0
      have O_25_c1 := O_25.c1
      have O_25_c2 := O_25.c2
      have O_25_c3 := O_25.c3
      have F_25_c0 := F_25.c0
      have F_25_c1 := F_25.c1
      have X_25_c0 := X_25.c0
      have X_25_c1 := X_25.c1
      have X_25_c2 := X_25.c2
      have X_25_c3 := X_25.c3
      have G_25_c0 := G_25.c0
      have G_25_c1 := G_25.c1
      have M_25_c0 := M_25.c0
      have M_25_c1 := M_25.c1
      have M_25_f0 := M_25.f0
      have M_25_f1 := M_25.f1
      go_wp2_with fail
      refine (refat_any _ _ _).mono ?_
      rintro e w26 ⟨rfl, y26⟩
      have R_26 := R_25.on y26
      have D_26 := D_25.on y26
      have B_26 := B_25.on y26
      have O_26 := O_25.on y26
      have F_26 := F_25.on y26
      have X_26 := X_25.on y26
      have G_26 := G_25.on y26
      have U_26 := own_on U_25 y26
      have M_26 := M_25.on y26
      clear R_25 D_25 D_25_c0 D_25_c1 D_25_c2 D_25_c3 B_25 B_25_c0 B_25_c1 O_25 O_25_c0 O_25_c1 O_25_c2 O_25_c3 F_25 F_25_c0 F_25_c1 X_25 X_25_c0 X_25_c1 X_25_c2 X_25_c3 G_25 G_25_c0 G_25_c1 U_25 M_25 M_25_c0 M_25_c1 M_25_f0 M_25_f1
      have z26 := Z25.trans (y26.mono Z25.size)
      have Z26 := z26
      have cM26 := CM_25.trans (y26.mono CM_25.size)
      have CM_26 := cM26
      have D_26_c0 := D_26.c0
      have D_26_c1 := D_26.c1
      have D_26_c2 := D_26.c2
      have D_26_c3 := D_26.c3
      have B_26_c0 := B_26.c0
      have B_26_c1 := B_26.c1
      have O_26_c0 := O_26.c0
      have O_26_c1 := O_26.c1
      have O_26_c2 := O_26.c2
      have O_26_c3 := O_26.c3
      have F_26_c0 := F_26.c0
      have F_26_c1 := F_26.c1
      have X_26_c0 := X_26.c0
      have X_26_c1 := X_26.c1
      have X_26_c2 := X_26.c2
      have X_26_c3 := X_26.c3
      have G_26_c0 := G_26.c0
      have G_26_c1 := G_26.c1
      have M_26_c0 := M_26.c0
      have M_26_c1 := M_26.c1
      have M_26_f0 := M_26.f0
      have M_26_f1 := M_26.f1
      have CM_27 := (CM_26.setCell (p := ⟨w20.heap.size, 0, none⟩) (by simp) (.int .i64 6)).setCell (p := ⟨w20.heap.size, 1, none⟩) (by simp) (.int .i64 (-1))
      have Z27 := (Z26.setCell (p := ⟨w20.heap.size, 0, none⟩) (by have := z20.size; simp; omega) (.int .i64 6)).setCell (p := ⟨w20.heap.size, 1, none⟩) (by have := z20.size; simp; omega) (.int .i64 (-1))
      have R_27 := R_b.on CM_27
      have D_27 := D_b.on CM_27
      have B_27 := B_b.on CM_27
      have O_27 := O_b.on CM_27
      have F_27 := F_b.on CM_27
      have X_27 := X_b.on CM_27
      have G_27 := G_b.on CM_27
      have U_27 := own_on U_b CM_27
      have M_27 := (M_26.set0 (.int .i64 6)).set1 (.int .i64 (-1))
      have D_27_c0 := D_27.c0
      have D_27_c1 := D_27.c1
      have D_27_c2 := D_27.c2
      have D_27_c3 := D_27.c3
      have B_27_c0 := B_27.c0
      have B_27_c1 := B_27.c1
      have O_27_c0 := O_27.c0
      have O_27_c1 := O_27.c1
      have O_27_c2 := O_27.c2
      have O_27_c3 := O_27.c3
      have F_27_c0 := F_27.c0
      have F_27_c1 := F_27.c1
      have X_27_c0 := X_27.c0
      have X_27_c1 := X_27.c1
      have X_27_c2 := X_27.c2
      have X_27_c3 := X_27.c3
      have G_27_c0 := G_27.c0
      have G_27_c1 := G_27.c1
      have M_27_c0 := M_27.c0
      have M_27_c1 := M_27.c1
      have M_27_f0 := M_27.f0
      have M_27_f1 := M_27.f1
      go_wp2
      go_ret
      exact ⟨rfl, Z27⟩
set_option maxRecDepth 100000 in
set_option maxHeartbeats 1600000 in
theorem ag_short_prob {A : Option Addr} {n c : Nat} {lo hi V p : Int} {t : Int} {l : List Nat} (h01 : Is01 l) (hl : l.length ≤ 131072) (hs : l.length < 2) (hok : DecOk lo hi V t) (hp : ¬ (1 ≤ p ∧ p ≤ 4095)) (w : World) (h : Rd w A n c (bcells (pack l))) :
    Calls Try.prog 9 #[.agg #[.int .i64 lo, .int .i64 hi, .int .i64 V, .int .i64 t], .agg #[.slice A n c, .int .i64 l.length], .int .i64 p] w fun e w' => e = .returned (.bool true) ∧ Below w.heap.size w w' := by
  have HBO := Lib.hid (fun (W : World) (hW : Rd W A n c (bcells (pack l))) => bitsok_any hW (pack_lt h01) (by omega) (by omega) true ⟨fun _ => Ok.of_list h01 hl, fun _ => rfl⟩)
  have HBI := Lib.hid (fun (W : World) (hW : Rd W A n c (bcells (pack l))) => bits_any hW h01 hl (l.length : Nat) rfl)
  have hc6 : decide (l.length < 2) = true := by simp; omega
  have hc7 : decide ((l.length : Int) < 2) = true := by simp; omega
  have HOP := Lib.hid (fun (W : World) (hW : Rd W A n c (bcells (pack l))) => open_short hW h01 hl hs)
  have HDO := Lib.hid (fun (W : World) => decoderok_any lo hi V t true ⟨fun _ => hok, fun _ => rfl⟩ W)
  have HGE := Lib.hid (fun (W : World) (hW : Rd W A n c (bcells (pack l))) => get_prob hW h01 hl hok hp)
  have HPR := Lib.hid (show p < 1 ∨ 4095 < p by omega)
  have H01 := Lib.hid h01
  clear hs h01 hok hp
  obtain ⟨i0, hi0, hz0, hz1, hz2⟩ := info_parts int_info
  have R_0 := ((h).alloc (.cells #[.int .i64 lo, .int .i64 hi, .int .i64 V, .int .i64 t] 62)).alloc (.cells #[.slice A n c, .int .i64 l.length] 25)
  have D_0 := ((Four.new w 62 (.int .i64 lo) (.int .i64 hi) (.int .i64 V) (.int .i64 t))).alloc (.cells #[.slice A n c, .int .i64 l.length] 25)
  have B_0 := (Two.new1 w (.cells #[.int .i64 lo, .int .i64 hi, .int .i64 V, .int .i64 t] 62) 25 (.slice A n c) (.int .i64 l.length))
  have Z0 := ((Below.refl w.heap.size w).alloc (by simp) (.cells #[.int .i64 lo, .int .i64 hi, .int .i64 V, .int .i64 t] 62)).alloc (by simp) (.cells #[.slice A n c, .int .i64 l.length] 25)
  have D_0_c0 := D_0.c0
  have D_0_c1 := D_0.c1
  have D_0_c2 := D_0.c2
  have D_0_c3 := D_0.c3
  have B_0_c0 := B_0.c0
  have B_0_c1 := B_0.c1
  go_enter Try.func9, Try.ntmps9
  go_wp2_with fail
  refine (HOP.out _ R_0).mono ?_
  rintro e w1 ⟨rfl, y1⟩
  have R_1 := ((R_0.on y1).alloc (.cells #[.int .i64 0, .int .i64 0, .int .i64 0, .int .i64 0] 62)).alloc (.cells #[.int .i64 15, .int .i64 (-1)] 27)
  have D_1 := ((D_0.on y1).alloc (.cells #[.int .i64 0, .int .i64 0, .int .i64 0, .int .i64 0] 62)).alloc (.cells #[.int .i64 15, .int .i64 (-1)] 27)
  have B_1 := ((B_0.on y1).alloc (.cells #[.int .i64 0, .int .i64 0, .int .i64 0, .int .i64 0] 62)).alloc (.cells #[.int .i64 15, .int .i64 (-1)] 27)
  have O_1 := ((Four.new w1 62 (.int .i64 0) (.int .i64 0) (.int .i64 0) (.int .i64 0))).alloc (.cells #[.int .i64 15, .int .i64 (-1)] 27)
  have F_1 := (Two.new1 w1 (.cells #[.int .i64 0, .int .i64 0, .int .i64 0, .int .i64 0] 62) 27 (.int .i64 15) (.int .i64 (-1)))
  clear R_0 D_0 D_0_c0 D_0_c1 D_0_c2 D_0_c3 B_0 B_0_c0 B_0_c1
  have z1 := Z0.trans (y1.mono Z0.size)
  have Z1 := ((z1).alloc (by have := z1.size; omega) (.cells #[.int .i64 0, .int .i64 0, .int .i64 0, .int .i64 0] 62)).alloc (by have := z1.size; simp; omega) (.cells #[.int .i64 15, .int .i64 (-1)] 27)
  have D_1_c0 := D_1.c0
  have D_1_c1 := D_1.c1
  have D_1_c2 := D_1.c2
  have D_1_c3 := D_1.c3
  have B_1_c0 := B_1.c0
  have B_1_c1 := B_1.c1
  have O_1_c0 := O_1.c0
  have O_1_c1 := O_1.c1
  have O_1_c2 := O_1.c2
  have O_1_c3 := O_1.c3
  have F_1_c0 := F_1.c0
  have F_1_c1 := F_1.c1
  go_wp2_with fail
  refine (HGE.out _ R_1).mono ?_
  rintro e w2 ⟨rfl, y2⟩
  have R_2 := ((R_1.on y2).alloc (.cells #[.int .i64 0, .int .i64 0, .int .i64 0, .int .i64 0] 62)).alloc (.cells #[.int .i64 4, .int .i64 (-3)] 27)
  have D_2 := ((D_1.on y2).alloc (.cells #[.int .i64 0, .int .i64 0, .int .i64 0, .int .i64 0] 62)).alloc (.cells #[.int .i64 4, .int .i64 (-3)] 27)
  have B_2 := ((B_1.on y2).alloc (.cells #[.int .i64 0, .int .i64 0, .int .i64 0, .int .i64 0] 62)).alloc (.cells #[.int .i64 4, .int .i64 (-3)] 27)
  have O_2 := ((O_1.on y2).alloc (.cells #[.int .i64 0, .int .i64 0, .int .i64 0, .int .i64 0] 62)).alloc (.cells #[.int .i64 4, .int .i64 (-3)] 27)
  have F_2 := ((F_1.on y2).alloc (.cells #[.int .i64 0, .int .i64 0, .int .i64 0, .int .i64 0] 62)).alloc (.cells #[.int .i64 4, .int .i64 (-3)] 27)
  have X_2 := ((Four.new w2 62 (.int .i64 0) (.int .i64 0) (.int .i64 0) (.int .i64 0))).alloc (.cells #[.int .i64 4, .int .i64 (-3)] 27)
  have G_2 := (Two.new1 w2 (.cells #[.int .i64 0, .int .i64 0, .int .i64 0, .int .i64 0] 62) 27 (.int .i64 4) (.int .i64 (-3)))
  clear R_1 D_1 D_1_c0 D_1_c1 D_1_c2 D_1_c3 B_1 B_1_c0 B_1_c1 O_1 O_1_c0 O_1_c1 O_1_c2 O_1_c3 F_1 F_1_c0 F_1_c1
  have z2 := Z1.trans (y2.mono Z1.size)
  have Z2 := ((z2).alloc (by have := z2.size; omega) (.cells #[.int .i64 0, .int .i64 0, .int .i64 0, .int .i64 0] 62)).alloc (by have := z2.size; simp; omega) (.cells #[.int .i64 4, .int .i64 (-3)] 27)
  have D_2_c0 := D_2.c0
  have D_2_c1 := D_2.c1
  have D_2_c2 := D_2.c2
  have D_2_c3 := D_2.c3
  have B_2_c0 := B_2.c0
  have B_2_c1 := B_2.c1
  have O_2_c0 := O_2.c0
  have O_2_c1 := O_2.c1
  have O_2_c2 := O_2.c2
  have O_2_c3 := O_2.c3
  have F_2_c0 := F_2.c0
  have F_2_c1 := F_2.c1
  have X_2_c0 := X_2.c0
  have X_2_c1 := X_2.c1
  have X_2_c2 := X_2.c2
  have X_2_c3 := X_2.c3
  have G_2_c0 := G_2.c0
  have G_2_c1 := G_2.c1
  go_wp2_with fail
  refine (codes_true _).mono ?_
  rintro e w3 ⟨rfl, y3⟩
  have R_3 := R_2.on y3
  have D_3 := D_2.on y3
  have B_3 := B_2.on y3
  have O_3 := O_2.on y3
  have F_3 := F_2.on y3
  have X_3 := X_2.on y3
  have G_3 := G_2.on y3
  clear R_2 D_2 D_2_c0 D_2_c1 D_2_c2 D_2_c3 B_2 B_2_c0 B_2_c1 O_2 O_2_c0 O_2_c1 O_2_c2 O_2_c3 F_2 F_2_c0 F_2_c1 X_2 X_2_c0 X_2_c1 X_2_c2 X_2_c3 G_2 G_2_c0 G_2_c1
  have z3 := Z2.trans (y3.mono Z2.size)
  have Z3 := z3
  have D_3_c0 := D_3.c0
  have D_3_c1 := D_3.c1
  have D_3_c2 := D_3.c2
  have D_3_c3 := D_3.c3
  have B_3_c0 := B_3.c0
  have B_3_c1 := B_3.c1
  have O_3_c0 := O_3.c0
  have O_3_c1 := O_3.c1
  have O_3_c2 := O_3.c2
  have O_3_c3 := O_3.c3
  have F_3_c0 := F_3.c0
  have F_3_c1 := F_3.c1
  have X_3_c0 := X_3.c0
  have X_3_c1 := X_3.c1
  have X_3_c2 := X_3.c2
  have X_3_c3 := X_3.c3
  have G_3_c0 := G_3.c0
  have G_3_c1 := G_3.c1
  go_wp2_with fail
  refine (HBO.out _ R_3).mono ?_
  rintro e w4 ⟨rfl, y4⟩
  have R_4 := R_3.on y4
  have D_4 := D_3.on y4
  have B_4 := B_3.on y4
  have O_4 := O_3.on y4
  have F_4 := F_3.on y4
  have X_4 := X_3.on y4
  have G_4 := G_3.on y4
  clear R_3 D_3 D_3_c0 D_3_c1 D_3_c2 D_3_c3 B_3 B_3_c0 B_3_c1 O_3 O_3_c0 O_3_c1 O_3_c2 O_3_c3 F_3 F_3_c0 F_3_c1 X_3 X_3_c0 X_3_c1 X_3_c2 X_3_c3 G_3 G_3_c0 G_3_c1
  have z4 := Z3.trans (y4.mono Z3.size)
  have Z4 := z4
  have D_4_c0 := D_4.c0
  have D_4_c1 := D_4.c1
  have D_4_c2 := D_4.c2
  have D_4_c3 := D_4.c3
  have B_4_c0 := B_4.c0
  have B_4_c1 := B_4.c1
  have O_4_c0 := O_4.c0
  have O_4_c1 := O_4.c1
  have O_4_c2 := O_4.c2
  have O_4_c3 := O_4.c3
  have F_4_c0 := F_4.c0
  have F_4_c1 := F_4.c1
  have X_4_c0 := X_4.c0
  have X_4_c1 := X_4.c1
  have X_4_c2 := X_4.c2
  have X_4_c3 := X_4.c3
  have G_4_c0 := G_4.c0
  have G_4_c1 := G_4.c1
  go_wp2_with fail
  refine (HBI.out _ R_4).mono ?_
  rintro e w6 ⟨A6, c6, rfl, o6, y6⟩
  have hs6 := y6.size
  go_wp2_with fail
  go_loopw [13, 14] (fun lv i wr => ∃ (j : Nat) (P2 : Option Addr) (p3 : Nat), j ≤ 32 ∧ i = .int .i64 (j : Nat) ∧ lv = .slice P2 (l.length + j) p3 ∧ Below w4.heap.size w4 wr ∧ w4.heap.size ≤ wr.heap.size ∧ wr.ownsRow w4.heap.size 3 1 (.slice P2 (l.length + j) p3) (l.length + j) (zl l j)) (fun _ i _ => 32 - (intOf i).toNat)
  case atStart => exact ⟨0, A6, c6, Nat.zero_le _, rfl, rfl, y6, hs6, by rw [zl_zero]; exact o6⟩
  case round =>
    obtain ⟨j, P2, p3, hj, rfl, rfl, yr, hsz, oP⟩ := hrel
    have HP := Lib.hid oP
    clear oP
    by_cases hlt : j < 32
    · have HPC := Lib.hid (zl_succ l j)
      have i1 : (0 : Int) ≤ (j : Int) := by omega
      have i2 : decide ((j : Int) < 32) = true := by simp; omega
      have i3 : decide (j < 32) = true := by simp; omega
      go_wp2_with (at_builtin; refine wpList_app1 _ rfl _ _ _ rfl w4.heap.size 3 i0 _ 8 Try.underlying34 hi0 hz0 hz1 hz2 rfl _ _ _ rfl HP.out (.int .i64 0) rfl rfl ?g1 ?g2 hsz ?_)
      case g1 => unfold maxLen; omega
      case g2 => omega
      intro A14 c14 w14 o14 g14
      have Y14 := below_grown yr HP.out g14 (Nat.le_refl _) hsz
      rw [← HPC.out] at o14
      have HP14 := Lib.hid o14
      have hs14 : w4.heap.size ≤ w14.heap.size := Y14.size
      clear o14 g14
      go_wp2_with fail
      go_roundw
      case rel => exact ⟨j + 1, A14, c14, by omega, by go_num, rfl, Y14, hs14, HP14.out⟩
      case measure => simp [intOf] <;> omega
    · obtain rfl : j = 32 := by omega
      obtain ⟨w20, hw20⟩ : ∃ w20, w20 = wr := ⟨_, rfl⟩
      rw [← hw20] at yr hsz HP ⊢
      clear hw20 wr
      have U_20 := HP.out
      clear HP
      have R_20 := R_4.on yr
      have D_20 := D_4.on yr
      have B_20 := B_4.on yr
      have O_20 := O_4.on yr
      have F_20 := F_4.on yr
      have X_20 := X_4.on yr
      have G_20 := G_4.on yr
      have Z20 := Z4.trans (yr.mono Z4.size)
      clear R_4 D_4 D_4_c0 D_4_c1 D_4_c2 D_4_c3 B_4 B_4_c0 B_4_c1 O_4 O_4_c0 O_4_c1 O_4_c2 O_4_c3 F_4 F_4_c0 F_4_c1 X_4 X_4_c0 X_4_c1 X_4_c2 X_4_c3 G_4 G_4_c0 G_4_c1
      have D_20_c0 := D_20.c0
      have D_20_c1 := D_20.c1
      have D_20_c2 := D_20.c2
      have D_20_c3 := D_20.c3
      have B_20_c0 := B_20.c0
      have B_20_c1 := B_20.c1
      have O_20_c0 := O_20.c0
      have O_20_c1 := O_20.c1
      have O_20_c2 := O_20.c2
      have O_20_c3 := O_20.c3
      have F_20_c0 := F_20.c0
      have F_20_c1 := F_20.c1
      have X_20_c0 := X_20.c0
      have X_20_c1 := X_20.c1
      have X_20_c2 := X_20.c2
      have X_20_c3 := X_20.c3
      have G_20_c0 := G_20.c0
      have G_20_c1 := G_20.c1
      have z20 := Z20
      have R_b := R_20
      have R_20q := R_20.alloc (.cells #[.int .i64 0, .int .i64 0] 27)
      have D_b := D_20
      have D_20q := D_20.alloc (.cells #[.int .i64 0, .int .i64 0] 27)
      have B_b := B_20
      have B_20q := B_20.alloc (.cells #[.int .i64 0, .int .i64 0] 27)
      have O_b := O_20
      have O_20q := O_20.alloc (.cells #[.int .i64 0, .int .i64 0] 27)
      have F_b := F_20
      have F_20q := F_20.alloc (.cells #[.int .i64 0, .int .i64 0] 27)
      have X_b := X_20
      have X_20q := X_20.alloc (.cells #[.int .i64 0, .int .i64 0] 27)
      have G_b := G_20
      have G_20q := G_20.alloc (.cells #[.int .i64 0, .int .i64 0] 27)
      have U_b := U_20
      have U_20q := (own_on U_20 ((Below.refl _ _).alloc (Nat.le_refl _) (.cells #[.int .i64 0, .int .i64 0] 27)))
      have M_20q := Two.new w20 27 (.int .i64 0) (.int .i64 0)
      have CM_20q := (Below.refl w20.heap.size w20).alloc (Nat.le_refl _) (.cells #[.int .i64 0, .int .i64 0] 27)
      have Z20q := Z20.alloc Z20.size (.cells #[.int .i64 0, .int .i64 0] 27)
      clear R_20 D_20 D_20_c0 D_20_c1 D_20_c2 D_20_c3 B_20 B_20_c0 B_20_c1 O_20 O_20_c0 O_20_c1 O_20_c2 O_20_c3 F_20 F_20_c0 F_20_c1 X_20 X_20_c0 X_20_c1 X_20_c2 X_20_c3 G_20 G_20_c0 G_20_c1 U_20
      have D_20q_c0 := D_20q.c0
      have D_20q_c1 := D_20q.c1
      have D_20q_c2 := D_20q.c2
      have D_20q_c3 := D_20q.c3
      have B_20q_c0 := B_20q.c0
      have B_20q_c1 := B_20q.c1
      have O_20q_c0 := O_20q.c0
      have O_20q_c1 := O_20q.c1
      have O_20q_c2 := O_20q.c2
      have O_20q_c3 := O_20q.c3
      have F_20q_c0 := F_20q.c0
      have F_20q_c1 := F_20q.c1
      have X_20q_c0 := X_20q.c0
      have X_20q_c1 := X_20q.c1
      have X_20q_c2 := X_20q.c2
      have X_20q_c3 := X_20q.c3
      have G_20q_c0 := G_20q.c0
      have G_20q_c1 := G_20q.c1
      have M_20q_c0 := M_20q.c0
      have M_20q_c1 := M_20q.c1
      have M_20q_f0 := M_20q.f0
      have M_20q_f1 := M_20q.f1
      go_wp2_with fail
      refine (refat_any _ _ _).mono ?_
      rintro e w21 ⟨rfl, y21⟩
      have R_21 := R_20q.on y21
      have D_21 := D_20q.on y21
      have B_21 := B_20q.on y21
      have O_21 := O_20q.on y21
      have F_21 := F_20q.on y21
      have X_21 := X_20q.on y21
      have G_21 := G_20q.on y21
      have U_21 := own_on U_20q y21
      have M_21 := M_20q.on y21
      clear R_20q D_20q D_20q_c0 D_20q_c1 D_20q_c2 D_20q_c3 B_20q B_20q_c0 B_20q_c1 O_20q O_20q_c0 O_20q_c1 O_20q_c2 O_20q_c3 F_20q F_20q_c0 F_20q_c1 X_20q X_20q_c0 X_20q_c1 X_20q_c2 X_20q_c3 G_20q G_20q_c0 G_20q_c1 U_20q M_20q M_20q_c0 M_20q_c1 M_20q_f0 M_20q_f1
      have z21 := Z20q.trans (y21.mono Z20q.size)
      have Z21 := z21
      have cM21 := CM_20q.trans (y21.mono CM_20q.size)
      have CM_21 := cM21
      have D_21_c0 := D_21.c0
      have D_21_c1 := D_21.c1
      have D_21_c2 := D_21.c2
      have D_21_c3 := D_21.c3
      have B_21_c0 := B_21.c0
      have B_21_c1 := B_21.c1
      have O_21_c0 := O_21.c0
      have O_21_c1 := O_21.c1
      have O_21_c2 := O_21.c2
      have O_21_c3 := O_21.c3
      have F_21_c0 := F_21.c0
      have F_21_c1 := F_21.c1
      have X_21_c0 := X_21.c0
      have X_21_c1 := X_21.c1
      have X_21_c2 := X_21.c2
      have X_21_c3 := X_21.c3
      have G_21_c0 := G_21.c0
      have G_21_c1 := G_21.c1
      have M_21_c0 := M_21.c0
      have M_21_c1 := M_21.c1
      have M_21_f0 := M_21.f0
      have M_21_f1 := M_21.f1
      have CM_22 := (CM_21.setCell (p := ⟨w20.heap.size, 0, none⟩) (by simp) (.int .i64 15)).setCell (p := ⟨w20.heap.size, 1, none⟩) (by simp) (.int .i64 (-1))
      have Z22 := (Z21.setCell (p := ⟨w20.heap.size, 0, none⟩) (by have := z20.size; simp; omega) (.int .i64 15)).setCell (p := ⟨w20.heap.size, 1, none⟩) (by have := z20.size; simp; omega) (.int .i64 (-1))
      have R_22 := R_b.on CM_22
      have D_22 := D_b.on CM_22
      have B_22 := B_b.on CM_22
      have O_22 := O_b.on CM_22
      have F_22 := F_b.on CM_22
      have X_22 := X_b.on CM_22
      have G_22 := G_b.on CM_22
      have U_22 := own_on U_b CM_22
      have M_22 := (M_21.set0 (.int .i64 15)).set1 (.int .i64 (-1))
      have D_22_c0 := D_22.c0
      have D_22_c1 := D_22.c1
      have D_22_c2 := D_22.c2
      have D_22_c3 := D_22.c3
      have B_22_c0 := B_22.c0
      have B_22_c1 := B_22.c1
      have O_22_c0 := O_22.c0
      have O_22_c1 := O_22.c1
      have O_22_c2 := O_22.c2
      have O_22_c3 := O_22.c3
      have F_22_c0 := F_22.c0
      have F_22_c1 := F_22.c1
      have X_22_c0 := X_22.c0
      have X_22_c1 := X_22.c1
      have X_22_c2 := X_22.c2
      have X_22_c3 := X_22.c3
      have G_22_c0 := G_22.c0
      have G_22_c1 := G_22.c1
      have M_22_c0 := M_22.c0
      have M_22_c1 := M_22.c1
      have M_22_f0 := M_22.f0
      have M_22_f1 := M_22.f1
      go_wp2_with fail
      go_quiet (fail)
      have R_23 := Rd.drewN R_22 nq
      have D_23 := Four.drewN D_22 nq
      have B_23 := Two.drewN B_22 nq
      have O_23 := Four.drewN O_22 nq
      have F_23 := Two.drewN F_22 nq
      have X_23 := Four.drewN X_22 nq
      have G_23 := Two.drewN G_22 nq
      have U_23 := own_drewN U_22 nq
      have M_23 := Two.drewN M_22 nq
      have Z23 := belowN Z22 nq
      have CM_23 := belowN CM_22 nq
      clear R_21 D_21 D_21_c0 D_21_c1 D_21_c2 D_21_c3 B_21 B_21_c0 B_21_c1 O_21 O_21_c0 O_21_c1 O_21_c2 O_21_c3 F_21 F_21_c0 F_21_c1 X_21 X_21_c0 X_21_c1 X_21_c2 X_21_c3 G_21 G_21_c0 G_21_c1 U_21 M_21 M_21_c0 M_21_c1 M_21_f0 M_21_f1 R_22 D_22 D_22_c0 D_22_c1 D_22_c2 D_22_c3 B_22 B_22_c0 B_22_c1 O_22 O_22_c0 O_22_c1 O_22_c2 O_22_c3 F_22 F_22_c0 F_22_c1 X_22 X_22_c0 X_22_c1 X_22_c2 X_22_c3 G_22 G_22_c0 G_22_c1 U_22 M_22 M_22_c0 M_22_c1 M_22_f0 M_22_f1
      obtain ⟨w23, hw23⟩ : ∃ w23, w23 = ((w21.setCell ⟨w20.heap.size, 0, none⟩ (.int .i64 15)).setCell ⟨w20.heap.size, 1, none⟩ (.int .i64 (-1))).drewN nq := ⟨_, rfl⟩
      rw [← hw23] at R_23 D_23 B_23 O_23 F_23 X_23 G_23 U_23 M_23 Z23 CM_23
      rw [← hw23]
      clear hw23
      have D_23_c0 := D_23.c0
      have D_23_c1 := D_23.c1
      have D_23_c2 := D_23.c2
      have D_23_c3 := D_23.c3
      have B_23_c0 := B_23.c0
      have B_23_c1 := B_23.c1
      have O_23_c0 := O_23.c0
      have O_23_c1 := O_23.c1
      have O_23_c2 := O_23.c2
      have O_23_c3 := O_23.c3
      have F_23_c0 := F_23.c0
      have F_23_c1 := F_23.c1
      have X_23_c0 := X_23.c0
      have X_23_c1 := X_23.c1
      have X_23_c2 := X_23.c2
      have X_23_c3 := X_23.c3
      have G_23_c0 := G_23.c0
      have G_23_c1 := G_23.c1
      have M_23_c0 := M_23.c0
      have M_23_c1 := M_23.c1
      have M_23_f0 := M_23.f0
      have M_23_f1 := M_23.f1
      have CM_24 := (CM_23.setCell (p := ⟨w20.heap.size, 0, none⟩) (by simp) (.int .i64 0)).setCell (p := ⟨w20.heap.size, 1, none⟩) (by simp) (.int .i64 0)
      have Z24 := (Z23.setCell (p := ⟨w20.heap.size, 0, none⟩) (by have := z20.size; simp; omega) (.int .i64 0)).setCell (p := ⟨w20.heap.size, 1, none⟩) (by have := z20.size; simp; omega) (.int .i64 0)
      have R_24 := R_b.on CM_24
      have D_24 := D_b.on CM_24
      have B_24 := B_b.on CM_24
      have O_24 := O_b.on CM_24
      have F_24 := F_b.on CM_24
      have X_24 := X_b.on CM_24
      have G_24 := G_b.on CM_24
      have U_24 := own_on U_b CM_24
      have M_24 := (M_23.set0 (.int .i64 0)).set1 (.int .i64 0)
      have D_24_c0 := D_24.c0
      have D_24_c1 := D_24.c1
      have D_24_c2 := D_24.c2
      have D_24_c3 := D_24.c3
      have B_24_c0 := B_24.c0
      have B_24_c1 := B_24.c1
      have O_24_c0 := O_24.c0
      have O_24_c1 := O_24.c1
      have O_24_c2 := O_24.c2
      have O_24_c3 := O_24.c3
      have F_24_c0 := F_24.c0
      have F_24_c1 := F_24.c1
      have X_24_c0 := X_24.c0
      have X_24_c1 := X_24.c1
      have X_24_c2 := X_24.c2
      have X_24_c3 := X_24.c3
      have G_24_c0 := G_24.c0
      have G_24_c1 := G_24.c1
      have M_24_c0 := M_24.c0
      have M_24_c1 := M_24.c1
      have M_24_f0 := M_24.f0
      have M_24_f1 := M_24.f1
      go_wp2_with fail
      refine (HDO.out _).mono ?_
      rintro e w25 ⟨rfl, y25⟩
      have R_25 := R_24.on y25
      have D_25 := D_24.on y25
      have B_25 := B_24.on y25
      have O_25 := O_24.on y25
      have F_25 := F_24.on y25
      have X_25 := X_24.on y25
      have G_25 := G_24.on y25
      have U_25 := own_on U_24 y25
      have M_25 := M_24.on y25
      clear R_23 D_23 D_23_c0 D_23_c1 D_23_c2 D_23_c3 B_23 B_23_c0 B_23_c1 O_23 O_23_c0 O_23_c1 O_23_c2 O_23_c3 F_23 F_23_c0 F_23_c1 X_23 X_23_c0 X_23_c1 X_23_c2 X_23_c3 G_23 G_23_c0 G_23_c1 U_23 M_23 M_23_c0 M_23_c1 M_23_f0 M_23_f1 R_24 D_24 D_24_c0 D_24_c1 D_24_c2 D_24_c3 B_24 B_24_c0 B_24_c1 O_24 O_24_c0 O_24_c1 O_24_c2 O_24_c3 F_24 F_24_c0 F_24_c1 X_24 X_24_c0 X_24_c1 X_24_c2 X_24_c3 G_24 G_24_c0 G_24_c1 U_24 M_24 M_24_c0 M_24_c1 M_24_f0 M_24_f1
      have z25 := Z24.trans (y25.mono Z24.size)
      have Z25 := z25
      have cM25 := CM_24.trans (y25.mono CM_24.size)
      have CM_25 := cM25
      have D_25_c0 := D_25.c0
      have D_25_c1 := D_25.c1
      have D_25_c2 := D_25.c2
      have D_25_c3 := D_25.c3
      have B_25_c0 := B_25.c0
      have B_25_c1 := B_25.c1
      have O_25_c0 := O_25.c0
      have O_25_c1 := O_25.c1
      have O_25_c2 := O_25.c2
      have O_25_c3 := O_25.c3
      have F_25_c0 := F_25.c0
      have F_25_c1 := F_25.c1
      have X_25_c0 := X_25.c0
      have X_25_c1 := X_25.c1
      have X_25_c2 := X_25.c2
      have X_25_c3 := X_25.c3
      have G_25_c0 := G_25.c0
      have G_25_c1 := G_25.c1
      have M_25_c0 := M_25.c0
      have M_25_c1 := M_25.c1
      have M_25_f0 := M_25.f0
      have M_25_f1 := M_25.f1
      go_wp2_with fail
      refine (in_no _ _ _ _ HPR.out).mono ?_
      rintro e w9_1 ⟨rfl, rfl⟩
      go_wp2_with fail
      refine (refat_any _ _ _).mono ?_
      rintro e w26 ⟨rfl, y26⟩
      have R_26 := R_25.on y26
      have D_26 := D_25.on y26
      have B_26 := B_25.on y26
      have O_26 := O_25.on y26
      have F_26 := F_25.on y26
      have X_26 := X_25.on y26
      have G_26 := G_25.on y26
      have U_26 := own_on U_25 y26
      have M_26 := M_25.on y26
      clear R_25 D_25 D_25_c0 D_25_c1 D_25_c2 D_25_c3 B_25 B_25_c0 B_25_c1 O_25 O_25_c0 O_25_c1 O_25_c2 O_25_c3 F_25 F_25_c0 F_25_c1 X_25 X_25_c0 X_25_c1 X_25_c2 X_25_c3 G_25 G_25_c0 G_25_c1 U_25 M_25 M_25_c0 M_25_c1 M_25_f0 M_25_f1
      have z26 := Z25.trans (y26.mono Z25.size)
      have Z26 := z26
      have cM26 := CM_25.trans (y26.mono CM_25.size)
      have CM_26 := cM26
      have D_26_c0 := D_26.c0
      have D_26_c1 := D_26.c1
      have D_26_c2 := D_26.c2
      have D_26_c3 := D_26.c3
      have B_26_c0 := B_26.c0
      have B_26_c1 := B_26.c1
      have O_26_c0 := O_26.c0
      have O_26_c1 := O_26.c1
      have O_26_c2 := O_26.c2
      have O_26_c3 := O_26.c3
      have F_26_c0 := F_26.c0
      have F_26_c1 := F_26.c1
      have X_26_c0 := X_26.c0
      have X_26_c1 := X_26.c1
      have X_26_c2 := X_26.c2
      have X_26_c3 := X_26.c3
      have G_26_c0 := G_26.c0
      have G_26_c1 := G_26.c1
      have M_26_c0 := M_26.c0
      have M_26_c1 := M_26.c1
      have M_26_f0 := M_26.f0
      have M_26_f1 := M_26.f1
      have CM_27 := (CM_26.setCell (p := ⟨w20.heap.size, 0, none⟩) (by simp) (.int .i64 4)).setCell (p := ⟨w20.heap.size, 1, none⟩) (by simp) (.int .i64 (-3))
      have Z27 := (Z26.setCell (p := ⟨w20.heap.size, 0, none⟩) (by have := z20.size; simp; omega) (.int .i64 4)).setCell (p := ⟨w20.heap.size, 1, none⟩) (by have := z20.size; simp; omega) (.int .i64 (-3))
      have R_27 := R_b.on CM_27
      have D_27 := D_b.on CM_27
      have B_27 := B_b.on CM_27
      have O_27 := O_b.on CM_27
      have F_27 := F_b.on CM_27
      have X_27 := X_b.on CM_27
      have G_27 := G_b.on CM_27
      have U_27 := own_on U_b CM_27
      have M_27 := (M_26.set0 (.int .i64 4)).set1 (.int .i64 (-3))
      have D_27_c0 := D_27.c0
      have D_27_c1 := D_27.c1
      have D_27_c2 := D_27.c2
      have D_27_c3 := D_27.c3
      have B_27_c0 := B_27.c0
      have B_27_c1 := B_27.c1
      have O_27_c0 := O_27.c0
      have O_27_c1 := O_27.c1
      have O_27_c2 := O_27.c2
      have O_27_c3 := O_27.c3
      have F_27_c0 := F_27.c0
      have F_27_c1 := F_27.c1
      have X_27_c0 := X_27.c0
      have X_27_c1 := X_27.c1
      have X_27_c2 := X_27.c2
      have X_27_c3 := X_27.c3
      have G_27_c0 := G_27.c0
      have G_27_c1 := G_27.c1
      have M_27_c0 := M_27.c0
      have M_27_c1 := M_27.c1
      have M_27_f0 := M_27.f0
      have M_27_f1 := M_27.f1
      go_wp2
      go_ret
      exact ⟨rfl, Z27⟩
set_option maxRecDepth 100000 in
set_option maxHeartbeats 1600000 in
theorem ag_short_big0 {A : Option Addr} {n c : Nat} {lo hi V p : Int} {t : Nat} {l : List Nat} (h01 : Is01 l) (hl : l.length ≤ 131072) (hs : l.length < 2) (hok : DecOk lo hi V (t : Nat)) (hp1 : 1 ≤ p) (hp2 : p ≤ 4095) (hb : ¬ V ≤ splitOf lo hi p) (hbig : l.length + 14 < t + (stp lo hi 0 p).2.2.length) (w : World) (h : Rd w A n c (bcells (pack l))) :
    Calls Try.prog 9 #[.agg #[.int .i64 lo, .int .i64 hi, .int .i64 V, .int .i64 (t : Nat)], .agg #[.slice A n c, .int .i64 l.length], .int .i64 p] w fun e w' => e = .returned (.bool true) ∧ Below w.heap.size w w' := by
  have HBO := Lib.hid (fun (W : World) (hW : Rd W A n c (bcells (pack l))) => bitsok_any hW (pack_lt h01) (by omega) (by omega) true ⟨fun _ => Ok.of_list h01 hl, fun _ => rfl⟩)
  have HBI := Lib.hid (fun (W : World) (hW : Rd W A n c (bcells (pack l))) => bits_any hW h01 hl (l.length : Nat) rfl)
  have hc6 : decide (l.length < 2) = true := by simp; omega
  have hc7 : decide ((l.length : Int) < 2) = true := by simp; omega
  have HOP := Lib.hid (fun (W : World) (hW : Rd W A n c (bcells (pack l))) => open_short hW h01 hl hs)
  have HDO := Lib.hid (fun (W : World) => decoderok_any lo hi V (t : Nat) true ⟨fun _ => hok, fun _ => rfl⟩ W)
  obtain ⟨LO, hLO⟩ : ∃ LO, LO = (stp lo hi 0 p).1 := ⟨_, rfl⟩
  obtain ⟨HI, hHI⟩ : ∃ HI, HI = (stp lo hi 0 p).2.1 := ⟨_, rfl⟩
  obtain ⟨R, hR⟩ : ∃ R, R = (stp lo hi 0 p).2.2 := ⟨_, rfl⟩
  obtain ⟨VV, hVV⟩ : ∃ VV, VV = dv l (stp lo hi 0 p).2.2 V t := ⟨_, rfl⟩
  obtain ⟨TT, hTT⟩ : ∃ TT, TT = t + (stp lo hi 0 p).2.2.length := ⟨_, rfl⟩
  obtain ⟨sp, hsp⟩ : ∃ sp, sp = splitOf lo hi p := ⟨_, rfl⟩
  have hok2 := hok
  obtain ⟨hw, ⟨d1, d2⟩, d3, d4⟩ := hok2
  obtain ⟨e1, e2, e3, e4, e5⟩ := id hw
  obtain ⟨f1, f2, f3, f4⟩ := stp_facts 0 hw hp1 hp2
  have hsb := split_in hw hp1 hp2
  rw [← hsp] at hsb
  have HSP := Lib.hid (fun (W : World) => same_flip (split_any hw hp1 hp2 sp hsp W))
  have HST := Lib.hid (fun (W : World) => steps_any hw hp1 hp2 (b := 0) (by decide) LO HI R hLO hHI hR (0 : Int) rfl W)
  rw [← hsp] at hb
  have hpk : 0 = pickb ⟨lo, hi, V, t⟩ p := by unfold pickb; rw [show splitOf (DS.mk lo hi V t).lo (DS.mk lo hi V t).hi p = sp from hsp.symm]; exact (if_neg hb).symm
  have kb : decide (V ≤ sp) = false := by simpa using hb
  rw [← hR] at hTT hVV f2 f3 hbig
  rw [← hTT] at hbig
  have HGE := Lib.hid (fun (W : World) (hW : Rd W A n c (bcells (pack l))) => get_big hW h01 hl hok hp1 hp2 0 LO HI VV TT hpk hLO hHI (by rw [← hR]; exact hVV) (by rw [← hR]; exact hTT) hbig)
  have kbig : decide ((l.length : Int) + 14 < (t : Int) + (R.length : Int)) = true := by simp; omega
  have HTT := Lib.hid hTT
  have hRl : R.length ≤ 14 := f2
  have ht0 : t ≤ 131100 := by omega
  have HP1 := Lib.hid hp1
  have HP2 := Lib.hid hp2
  have H01 := Lib.hid h01
  clear hs h01 hok hw d1 d2 d3 d4 e1 e2 e3 e4 e5 f1 f3 f4 hb hpk hLO hHI hR hVV hTT hsp hbig hp1 hp2
  obtain ⟨i0, hi0, hz0, hz1, hz2⟩ := info_parts int_info
  have R_0 := ((h).alloc (.cells #[.int .i64 lo, .int .i64 hi, .int .i64 V, .int .i64 (t : Nat)] 62)).alloc (.cells #[.slice A n c, .int .i64 l.length] 25)
  have D_0 := ((Four.new w 62 (.int .i64 lo) (.int .i64 hi) (.int .i64 V) (.int .i64 (t : Nat)))).alloc (.cells #[.slice A n c, .int .i64 l.length] 25)
  have B_0 := (Two.new1 w (.cells #[.int .i64 lo, .int .i64 hi, .int .i64 V, .int .i64 (t : Nat)] 62) 25 (.slice A n c) (.int .i64 l.length))
  have Z0 := ((Below.refl w.heap.size w).alloc (by simp) (.cells #[.int .i64 lo, .int .i64 hi, .int .i64 V, .int .i64 (t : Nat)] 62)).alloc (by simp) (.cells #[.slice A n c, .int .i64 l.length] 25)
  have D_0_c0 := D_0.c0
  have D_0_c1 := D_0.c1
  have D_0_c2 := D_0.c2
  have D_0_c3 := D_0.c3
  have B_0_c0 := B_0.c0
  have B_0_c1 := B_0.c1
  go_enter Try.func9, Try.ntmps9
  go_wp2_with fail
  refine (HOP.out _ R_0).mono ?_
  rintro e w1 ⟨rfl, y1⟩
  have R_1 := ((R_0.on y1).alloc (.cells #[.int .i64 0, .int .i64 0, .int .i64 0, .int .i64 0] 62)).alloc (.cells #[.int .i64 15, .int .i64 (-1)] 27)
  have D_1 := ((D_0.on y1).alloc (.cells #[.int .i64 0, .int .i64 0, .int .i64 0, .int .i64 0] 62)).alloc (.cells #[.int .i64 15, .int .i64 (-1)] 27)
  have B_1 := ((B_0.on y1).alloc (.cells #[.int .i64 0, .int .i64 0, .int .i64 0, .int .i64 0] 62)).alloc (.cells #[.int .i64 15, .int .i64 (-1)] 27)
  have O_1 := ((Four.new w1 62 (.int .i64 0) (.int .i64 0) (.int .i64 0) (.int .i64 0))).alloc (.cells #[.int .i64 15, .int .i64 (-1)] 27)
  have F_1 := (Two.new1 w1 (.cells #[.int .i64 0, .int .i64 0, .int .i64 0, .int .i64 0] 62) 27 (.int .i64 15) (.int .i64 (-1)))
  clear R_0 D_0 D_0_c0 D_0_c1 D_0_c2 D_0_c3 B_0 B_0_c0 B_0_c1
  have z1 := Z0.trans (y1.mono Z0.size)
  have Z1 := ((z1).alloc (by have := z1.size; omega) (.cells #[.int .i64 0, .int .i64 0, .int .i64 0, .int .i64 0] 62)).alloc (by have := z1.size; simp; omega) (.cells #[.int .i64 15, .int .i64 (-1)] 27)
  have D_1_c0 := D_1.c0
  have D_1_c1 := D_1.c1
  have D_1_c2 := D_1.c2
  have D_1_c3 := D_1.c3
  have B_1_c0 := B_1.c0
  have B_1_c1 := B_1.c1
  have O_1_c0 := O_1.c0
  have O_1_c1 := O_1.c1
  have O_1_c2 := O_1.c2
  have O_1_c3 := O_1.c3
  have F_1_c0 := F_1.c0
  have F_1_c1 := F_1.c1
  go_wp2_with fail
  refine (HGE.out _ R_1).mono ?_
  rintro e w2 ⟨rfl, y2⟩
  have R_2 := ((R_1.on y2).alloc (.cells #[.int .i64 0, .int .i64 0, .int .i64 0, .int .i64 0] 62)).alloc (.cells #[.int .i64 15, .int .i64 (-2)] 27)
  have D_2 := ((D_1.on y2).alloc (.cells #[.int .i64 0, .int .i64 0, .int .i64 0, .int .i64 0] 62)).alloc (.cells #[.int .i64 15, .int .i64 (-2)] 27)
  have B_2 := ((B_1.on y2).alloc (.cells #[.int .i64 0, .int .i64 0, .int .i64 0, .int .i64 0] 62)).alloc (.cells #[.int .i64 15, .int .i64 (-2)] 27)
  have O_2 := ((O_1.on y2).alloc (.cells #[.int .i64 0, .int .i64 0, .int .i64 0, .int .i64 0] 62)).alloc (.cells #[.int .i64 15, .int .i64 (-2)] 27)
  have F_2 := ((F_1.on y2).alloc (.cells #[.int .i64 0, .int .i64 0, .int .i64 0, .int .i64 0] 62)).alloc (.cells #[.int .i64 15, .int .i64 (-2)] 27)
  have X_2 := ((Four.new w2 62 (.int .i64 0) (.int .i64 0) (.int .i64 0) (.int .i64 0))).alloc (.cells #[.int .i64 15, .int .i64 (-2)] 27)
  have G_2 := (Two.new1 w2 (.cells #[.int .i64 0, .int .i64 0, .int .i64 0, .int .i64 0] 62) 27 (.int .i64 15) (.int .i64 (-2)))
  clear R_1 D_1 D_1_c0 D_1_c1 D_1_c2 D_1_c3 B_1 B_1_c0 B_1_c1 O_1 O_1_c0 O_1_c1 O_1_c2 O_1_c3 F_1 F_1_c0 F_1_c1
  have z2 := Z1.trans (y2.mono Z1.size)
  have Z2 := ((z2).alloc (by have := z2.size; omega) (.cells #[.int .i64 0, .int .i64 0, .int .i64 0, .int .i64 0] 62)).alloc (by have := z2.size; simp; omega) (.cells #[.int .i64 15, .int .i64 (-2)] 27)
  have D_2_c0 := D_2.c0
  have D_2_c1 := D_2.c1
  have D_2_c2 := D_2.c2
  have D_2_c3 := D_2.c3
  have B_2_c0 := B_2.c0
  have B_2_c1 := B_2.c1
  have O_2_c0 := O_2.c0
  have O_2_c1 := O_2.c1
  have O_2_c2 := O_2.c2
  have O_2_c3 := O_2.c3
  have F_2_c0 := F_2.c0
  have F_2_c1 := F_2.c1
  have X_2_c0 := X_2.c0
  have X_2_c1 := X_2.c1
  have X_2_c2 := X_2.c2
  have X_2_c3 := X_2.c3
  have G_2_c0 := G_2.c0
  have G_2_c1 := G_2.c1
  go_wp2_with fail
  refine (codes_true _).mono ?_
  rintro e w3 ⟨rfl, y3⟩
  have R_3 := R_2.on y3
  have D_3 := D_2.on y3
  have B_3 := B_2.on y3
  have O_3 := O_2.on y3
  have F_3 := F_2.on y3
  have X_3 := X_2.on y3
  have G_3 := G_2.on y3
  clear R_2 D_2 D_2_c0 D_2_c1 D_2_c2 D_2_c3 B_2 B_2_c0 B_2_c1 O_2 O_2_c0 O_2_c1 O_2_c2 O_2_c3 F_2 F_2_c0 F_2_c1 X_2 X_2_c0 X_2_c1 X_2_c2 X_2_c3 G_2 G_2_c0 G_2_c1
  have z3 := Z2.trans (y3.mono Z2.size)
  have Z3 := z3
  have D_3_c0 := D_3.c0
  have D_3_c1 := D_3.c1
  have D_3_c2 := D_3.c2
  have D_3_c3 := D_3.c3
  have B_3_c0 := B_3.c0
  have B_3_c1 := B_3.c1
  have O_3_c0 := O_3.c0
  have O_3_c1 := O_3.c1
  have O_3_c2 := O_3.c2
  have O_3_c3 := O_3.c3
  have F_3_c0 := F_3.c0
  have F_3_c1 := F_3.c1
  have X_3_c0 := X_3.c0
  have X_3_c1 := X_3.c1
  have X_3_c2 := X_3.c2
  have X_3_c3 := X_3.c3
  have G_3_c0 := G_3.c0
  have G_3_c1 := G_3.c1
  go_wp2_with fail
  refine (HBO.out _ R_3).mono ?_
  rintro e w4 ⟨rfl, y4⟩
  have R_4 := R_3.on y4
  have D_4 := D_3.on y4
  have B_4 := B_3.on y4
  have O_4 := O_3.on y4
  have F_4 := F_3.on y4
  have X_4 := X_3.on y4
  have G_4 := G_3.on y4
  clear R_3 D_3 D_3_c0 D_3_c1 D_3_c2 D_3_c3 B_3 B_3_c0 B_3_c1 O_3 O_3_c0 O_3_c1 O_3_c2 O_3_c3 F_3 F_3_c0 F_3_c1 X_3 X_3_c0 X_3_c1 X_3_c2 X_3_c3 G_3 G_3_c0 G_3_c1
  have z4 := Z3.trans (y4.mono Z3.size)
  have Z4 := z4
  have D_4_c0 := D_4.c0
  have D_4_c1 := D_4.c1
  have D_4_c2 := D_4.c2
  have D_4_c3 := D_4.c3
  have B_4_c0 := B_4.c0
  have B_4_c1 := B_4.c1
  have O_4_c0 := O_4.c0
  have O_4_c1 := O_4.c1
  have O_4_c2 := O_4.c2
  have O_4_c3 := O_4.c3
  have F_4_c0 := F_4.c0
  have F_4_c1 := F_4.c1
  have X_4_c0 := X_4.c0
  have X_4_c1 := X_4.c1
  have X_4_c2 := X_4.c2
  have X_4_c3 := X_4.c3
  have G_4_c0 := G_4.c0
  have G_4_c1 := G_4.c1
  go_wp2_with fail
  refine (HBI.out _ R_4).mono ?_
  rintro e w6 ⟨A6, c6, rfl, o6, y6⟩
  have hs6 := y6.size
  go_wp2_with fail
  go_loopw [13, 14] (fun lv i wr => ∃ (j : Nat) (P2 : Option Addr) (p3 : Nat), j ≤ 32 ∧ i = .int .i64 (j : Nat) ∧ lv = .slice P2 (l.length + j) p3 ∧ Below w4.heap.size w4 wr ∧ w4.heap.size ≤ wr.heap.size ∧ wr.ownsRow w4.heap.size 3 1 (.slice P2 (l.length + j) p3) (l.length + j) (zl l j)) (fun _ i _ => 32 - (intOf i).toNat)
  case atStart => exact ⟨0, A6, c6, Nat.zero_le _, rfl, rfl, y6, hs6, by rw [zl_zero]; exact o6⟩
  case round =>
    obtain ⟨j, P2, p3, hj, rfl, rfl, yr, hsz, oP⟩ := hrel
    have HP := Lib.hid oP
    clear oP
    by_cases hlt : j < 32
    · have HPC := Lib.hid (zl_succ l j)
      have i1 : (0 : Int) ≤ (j : Int) := by omega
      have i2 : decide ((j : Int) < 32) = true := by simp; omega
      have i3 : decide (j < 32) = true := by simp; omega
      go_wp2_with (at_builtin; refine wpList_app1 _ rfl _ _ _ rfl w4.heap.size 3 i0 _ 8 Try.underlying34 hi0 hz0 hz1 hz2 rfl _ _ _ rfl HP.out (.int .i64 0) rfl rfl ?g1 ?g2 hsz ?_)
      case g1 => unfold maxLen; omega
      case g2 => omega
      intro A14 c14 w14 o14 g14
      have Y14 := below_grown yr HP.out g14 (Nat.le_refl _) hsz
      rw [← HPC.out] at o14
      have HP14 := Lib.hid o14
      have hs14 : w4.heap.size ≤ w14.heap.size := Y14.size
      clear o14 g14
      go_wp2_with fail
      go_roundw
      case rel => exact ⟨j + 1, A14, c14, by omega, by go_num, rfl, Y14, hs14, HP14.out⟩
      case measure => simp [intOf] <;> omega
    · obtain rfl : j = 32 := by omega
      obtain ⟨w20, hw20⟩ : ∃ w20, w20 = wr := ⟨_, rfl⟩
      rw [← hw20] at yr hsz HP ⊢
      clear hw20 wr
      have U_20 := HP.out
      clear HP
      have R_20 := R_4.on yr
      have D_20 := D_4.on yr
      have B_20 := B_4.on yr
      have O_20 := O_4.on yr
      have F_20 := F_4.on yr
      have X_20 := X_4.on yr
      have G_20 := G_4.on yr
      have Z20 := Z4.trans (yr.mono Z4.size)
      clear R_4 D_4 D_4_c0 D_4_c1 D_4_c2 D_4_c3 B_4 B_4_c0 B_4_c1 O_4 O_4_c0 O_4_c1 O_4_c2 O_4_c3 F_4 F_4_c0 F_4_c1 X_4 X_4_c0 X_4_c1 X_4_c2 X_4_c3 G_4 G_4_c0 G_4_c1
      have D_20_c0 := D_20.c0
      have D_20_c1 := D_20.c1
      have D_20_c2 := D_20.c2
      have D_20_c3 := D_20.c3
      have B_20_c0 := B_20.c0
      have B_20_c1 := B_20.c1
      have O_20_c0 := O_20.c0
      have O_20_c1 := O_20.c1
      have O_20_c2 := O_20.c2
      have O_20_c3 := O_20.c3
      have F_20_c0 := F_20.c0
      have F_20_c1 := F_20.c1
      have X_20_c0 := X_20.c0
      have X_20_c1 := X_20.c1
      have X_20_c2 := X_20.c2
      have X_20_c3 := X_20.c3
      have G_20_c0 := G_20.c0
      have G_20_c1 := G_20.c1
      have z20 := Z20
      have R_b := R_20
      have R_20q := R_20.alloc (.cells #[.int .i64 0, .int .i64 0] 27)
      have D_b := D_20
      have D_20q := D_20.alloc (.cells #[.int .i64 0, .int .i64 0] 27)
      have B_b := B_20
      have B_20q := B_20.alloc (.cells #[.int .i64 0, .int .i64 0] 27)
      have O_b := O_20
      have O_20q := O_20.alloc (.cells #[.int .i64 0, .int .i64 0] 27)
      have F_b := F_20
      have F_20q := F_20.alloc (.cells #[.int .i64 0, .int .i64 0] 27)
      have X_b := X_20
      have X_20q := X_20.alloc (.cells #[.int .i64 0, .int .i64 0] 27)
      have G_b := G_20
      have G_20q := G_20.alloc (.cells #[.int .i64 0, .int .i64 0] 27)
      have U_b := U_20
      have U_20q := (own_on U_20 ((Below.refl _ _).alloc (Nat.le_refl _) (.cells #[.int .i64 0, .int .i64 0] 27)))
      have M_20q := Two.new w20 27 (.int .i64 0) (.int .i64 0)
      have CM_20q := (Below.refl w20.heap.size w20).alloc (Nat.le_refl _) (.cells #[.int .i64 0, .int .i64 0] 27)
      have Z20q := Z20.alloc Z20.size (.cells #[.int .i64 0, .int .i64 0] 27)
      clear R_20 D_20 D_20_c0 D_20_c1 D_20_c2 D_20_c3 B_20 B_20_c0 B_20_c1 O_20 O_20_c0 O_20_c1 O_20_c2 O_20_c3 F_20 F_20_c0 F_20_c1 X_20 X_20_c0 X_20_c1 X_20_c2 X_20_c3 G_20 G_20_c0 G_20_c1 U_20
      have D_20q_c0 := D_20q.c0
      have D_20q_c1 := D_20q.c1
      have D_20q_c2 := D_20q.c2
      have D_20q_c3 := D_20q.c3
      have B_20q_c0 := B_20q.c0
      have B_20q_c1 := B_20q.c1
      have O_20q_c0 := O_20q.c0
      have O_20q_c1 := O_20q.c1
      have O_20q_c2 := O_20q.c2
      have O_20q_c3 := O_20q.c3
      have F_20q_c0 := F_20q.c0
      have F_20q_c1 := F_20q.c1
      have X_20q_c0 := X_20q.c0
      have X_20q_c1 := X_20q.c1
      have X_20q_c2 := X_20q.c2
      have X_20q_c3 := X_20q.c3
      have G_20q_c0 := G_20q.c0
      have G_20q_c1 := G_20q.c1
      have M_20q_c0 := M_20q.c0
      have M_20q_c1 := M_20q.c1
      have M_20q_f0 := M_20q.f0
      have M_20q_f1 := M_20q.f1
      go_wp2_with fail
      refine (refat_any _ _ _).mono ?_
      rintro e w21 ⟨rfl, y21⟩
      have R_21 := R_20q.on y21
      have D_21 := D_20q.on y21
      have B_21 := B_20q.on y21
      have O_21 := O_20q.on y21
      have F_21 := F_20q.on y21
      have X_21 := X_20q.on y21
      have G_21 := G_20q.on y21
      have U_21 := own_on U_20q y21
      have M_21 := M_20q.on y21
      clear R_20q D_20q D_20q_c0 D_20q_c1 D_20q_c2 D_20q_c3 B_20q B_20q_c0 B_20q_c1 O_20q O_20q_c0 O_20q_c1 O_20q_c2 O_20q_c3 F_20q F_20q_c0 F_20q_c1 X_20q X_20q_c0 X_20q_c1 X_20q_c2 X_20q_c3 G_20q G_20q_c0 G_20q_c1 U_20q M_20q M_20q_c0 M_20q_c1 M_20q_f0 M_20q_f1
      have z21 := Z20q.trans (y21.mono Z20q.size)
      have Z21 := z21
      have cM21 := CM_20q.trans (y21.mono CM_20q.size)
      have CM_21 := cM21
      have D_21_c0 := D_21.c0
      have D_21_c1 := D_21.c1
      have D_21_c2 := D_21.c2
      have D_21_c3 := D_21.c3
      have B_21_c0 := B_21.c0
      have B_21_c1 := B_21.c1
      have O_21_c0 := O_21.c0
      have O_21_c1 := O_21.c1
      have O_21_c2 := O_21.c2
      have O_21_c3 := O_21.c3
      have F_21_c0 := F_21.c0
      have F_21_c1 := F_21.c1
      have X_21_c0 := X_21.c0
      have X_21_c1 := X_21.c1
      have X_21_c2 := X_21.c2
      have X_21_c3 := X_21.c3
      have G_21_c0 := G_21.c0
      have G_21_c1 := G_21.c1
      have M_21_c0 := M_21.c0
      have M_21_c1 := M_21.c1
      have M_21_f0 := M_21.f0
      have M_21_f1 := M_21.f1
      have CM_22 := (CM_21.setCell (p := ⟨w20.heap.size, 0, none⟩) (by simp) (.int .i64 15)).setCell (p := ⟨w20.heap.size, 1, none⟩) (by simp) (.int .i64 (-1))
      have Z22 := (Z21.setCell (p := ⟨w20.heap.size, 0, none⟩) (by have := z20.size; simp; omega) (.int .i64 15)).setCell (p := ⟨w20.heap.size, 1, none⟩) (by have := z20.size; simp; omega) (.int .i64 (-1))
      have R_22 := R_b.on CM_22
      have D_22 := D_b.on CM_22
      have B_22 := B_b.on CM_22
      have O_22 := O_b.on CM_22
      have F_22 := F_b.on CM_22
      have X_22 := X_b.on CM_22
      have G_22 := G_b.on CM_22
      have U_22 := own_on U_b CM_22
      have M_22 := (M_21.set0 (.int .i64 15)).set1 (.int .i64 (-1))
      have D_22_c0 := D_22.c0
      have D_22_c1 := D_22.c1
      have D_22_c2 := D_22.c2
      have D_22_c3 := D_22.c3
      have B_22_c0 := B_22.c0
      have B_22_c1 := B_22.c1
      have O_22_c0 := O_22.c0
      have O_22_c1 := O_22.c1
      have O_22_c2 := O_22.c2
      have O_22_c3 := O_22.c3
      have F_22_c0 := F_22.c0
      have F_22_c1 := F_22.c1
      have X_22_c0 := X_22.c0
      have X_22_c1 := X_22.c1
      have X_22_c2 := X_22.c2
      have X_22_c3 := X_22.c3
      have G_22_c0 := G_22.c0
      have G_22_c1 := G_22.c1
      have M_22_c0 := M_22.c0
      have M_22_c1 := M_22.c1
      have M_22_f0 := M_22.f0
      have M_22_f1 := M_22.f1
      go_wp2_with fail
      go_quiet (fail)
      have R_23 := Rd.drewN R_22 nq
      have D_23 := Four.drewN D_22 nq
      have B_23 := Two.drewN B_22 nq
      have O_23 := Four.drewN O_22 nq
      have F_23 := Two.drewN F_22 nq
      have X_23 := Four.drewN X_22 nq
      have G_23 := Two.drewN G_22 nq
      have U_23 := own_drewN U_22 nq
      have M_23 := Two.drewN M_22 nq
      have Z23 := belowN Z22 nq
      have CM_23 := belowN CM_22 nq
      clear R_21 D_21 D_21_c0 D_21_c1 D_21_c2 D_21_c3 B_21 B_21_c0 B_21_c1 O_21 O_21_c0 O_21_c1 O_21_c2 O_21_c3 F_21 F_21_c0 F_21_c1 X_21 X_21_c0 X_21_c1 X_21_c2 X_21_c3 G_21 G_21_c0 G_21_c1 U_21 M_21 M_21_c0 M_21_c1 M_21_f0 M_21_f1 R_22 D_22 D_22_c0 D_22_c1 D_22_c2 D_22_c3 B_22 B_22_c0 B_22_c1 O_22 O_22_c0 O_22_c1 O_22_c2 O_22_c3 F_22 F_22_c0 F_22_c1 X_22 X_22_c0 X_22_c1 X_22_c2 X_22_c3 G_22 G_22_c0 G_22_c1 U_22 M_22 M_22_c0 M_22_c1 M_22_f0 M_22_f1
      obtain ⟨w23, hw23⟩ : ∃ w23, w23 = ((w21.setCell ⟨w20.heap.size, 0, none⟩ (.int .i64 15)).setCell ⟨w20.heap.size, 1, none⟩ (.int .i64 (-1))).drewN nq := ⟨_, rfl⟩
      rw [← hw23] at R_23 D_23 B_23 O_23 F_23 X_23 G_23 U_23 M_23 Z23 CM_23
      rw [← hw23]
      clear hw23
      have D_23_c0 := D_23.c0
      have D_23_c1 := D_23.c1
      have D_23_c2 := D_23.c2
      have D_23_c3 := D_23.c3
      have B_23_c0 := B_23.c0
      have B_23_c1 := B_23.c1
      have O_23_c0 := O_23.c0
      have O_23_c1 := O_23.c1
      have O_23_c2 := O_23.c2
      have O_23_c3 := O_23.c3
      have F_23_c0 := F_23.c0
      have F_23_c1 := F_23.c1
      have X_23_c0 := X_23.c0
      have X_23_c1 := X_23.c1
      have X_23_c2 := X_23.c2
      have X_23_c3 := X_23.c3
      have G_23_c0 := G_23.c0
      have G_23_c1 := G_23.c1
      have M_23_c0 := M_23.c0
      have M_23_c1 := M_23.c1
      have M_23_f0 := M_23.f0
      have M_23_f1 := M_23.f1
      have CM_24 := (CM_23.setCell (p := ⟨w20.heap.size, 0, none⟩) (by simp) (.int .i64 0)).setCell (p := ⟨w20.heap.size, 1, none⟩) (by simp) (.int .i64 0)
      have Z24 := (Z23.setCell (p := ⟨w20.heap.size, 0, none⟩) (by have := z20.size; simp; omega) (.int .i64 0)).setCell (p := ⟨w20.heap.size, 1, none⟩) (by have := z20.size; simp; omega) (.int .i64 0)
      have R_24 := R_b.on CM_24
      have D_24 := D_b.on CM_24
      have B_24 := B_b.on CM_24
      have O_24 := O_b.on CM_24
      have F_24 := F_b.on CM_24
      have X_24 := X_b.on CM_24
      have G_24 := G_b.on CM_24
      have U_24 := own_on U_b CM_24
      have M_24 := (M_23.set0 (.int .i64 0)).set1 (.int .i64 0)
      have D_24_c0 := D_24.c0
      have D_24_c1 := D_24.c1
      have D_24_c2 := D_24.c2
      have D_24_c3 := D_24.c3
      have B_24_c0 := B_24.c0
      have B_24_c1 := B_24.c1
      have O_24_c0 := O_24.c0
      have O_24_c1 := O_24.c1
      have O_24_c2 := O_24.c2
      have O_24_c3 := O_24.c3
      have F_24_c0 := F_24.c0
      have F_24_c1 := F_24.c1
      have X_24_c0 := X_24.c0
      have X_24_c1 := X_24.c1
      have X_24_c2 := X_24.c2
      have X_24_c3 := X_24.c3
      have G_24_c0 := G_24.c0
      have G_24_c1 := G_24.c1
      have M_24_c0 := M_24.c0
      have M_24_c1 := M_24.c1
      have M_24_f0 := M_24.f0
      have M_24_f1 := M_24.f1
      go_wp2_with fail
      refine (HDO.out _).mono ?_
      rintro e w25 ⟨rfl, y25⟩
      have R_25 := R_24.on y25
      have D_25 := D_24.on y25
      have B_25 := B_24.on y25
      have O_25 := O_24.on y25
      have F_25 := F_24.on y25
      have X_25 := X_24.on y25
      have G_25 := G_24.on y25
      have U_25 := own_on U_24 y25
      have M_25 := M_24.on y25
      clear R_23 D_23 D_23_c0 D_23_c1 D_23_c2 D_23_c3 B_23 B_23_c0 B_23_c1 O_23 O_23_c0 O_23_c1 O_23_c2 O_23_c3 F_23 F_23_c0 F_23_c1 X_23 X_23_c0 X_23_c1 X_23_c2 X_23_c3 G_23 G_23_c0 G_23_c1 U_23 M_23 M_23_c0 M_23_c1 M_23_f0 M_23_f1 R_24 D_24 D_24_c0 D_24_c1 D_24_c2 D_24_c3 B_24 B_24_c0 B_24_c1 O_24 O_24_c0 O_24_c1 O_24_c2 O_24_c3 F_24 F_24_c0 F_24_c1 X_24 X_24_c0 X_24_c1 X_24_c2 X_24_c3 G_24 G_24_c0 G_24_c1 U_24 M_24 M_24_c0 M_24_c1 M_24_f0 M_24_f1
      have z25 := Z24.trans (y25.mono Z24.size)
      have Z25 := z25
      have cM25 := CM_24.trans (y25.mono CM_24.size)
      have CM_25 := cM25
      have D_25_c0 := D_25.c0
      have D_25_c1 := D_25.c1
      have D_25_c2 := D_25.c2
      have D_25_c3 := D_25.c3
      have B_25_c0 := B_25.c0
      have B_25_c1 := B_25.c1
      have O_25_c0 := O_25.c0
      have O_25_c1 := O_25.c1
      have O_25_c2 := O_25.c2
      have O_25_c3 := O_25.c3
      have F_25_c0 := F_25.c0
      have F_25_c1 := F_25.c1
      have X_25_c0 := X_25.c0
      have X_25_c1 := X_25.c1
      have X_25_c2 := X_25.c2
      have X_25_c3 := X_25.c3
      have G_25_c0 := G_25.c0
      have G_25_c1 := G_25.c1
      have M_25_c0 := M_25.c0
      have M_25_c1 := M_25.c1
      have M_25_f0 := M_25.f0
      have M_25_f1 := M_25.f1
      go_wp2_with fail
      refine (in_yes _ _ _ _ HP1.out HP2.out).mono ?_
      rintro e w9_1 ⟨rfl, rfl⟩
      go_wp2_with fail
      go_quiet ((go_at_call 35; exact Calls.quiet_of_same (HSP.out _)))
      have R_26 := Rd.drewN R_25 nq
      have D_26 := Four.drewN D_25 nq
      have B_26 := Two.drewN B_25 nq
      have O_26 := Four.drewN O_25 nq
      have F_26 := Two.drewN F_25 nq
      have X_26 := Four.drewN X_25 nq
      have G_26 := Two.drewN G_25 nq
      have U_26 := own_drewN U_25 nq
      have M_26 := Two.drewN M_25 nq
      have Z26 := belowN Z25 nq
      have CM_26 := belowN CM_25 nq
      clear R_25 D_25 D_25_c0 D_25_c1 D_25_c2 D_25_c3 B_25 B_25_c0 B_25_c1 O_25 O_25_c0 O_25_c1 O_25_c2 O_25_c3 F_25 F_25_c0 F_25_c1 X_25 X_25_c0 X_25_c1 X_25_c2 X_25_c3 G_25 G_25_c0 G_25_c1 U_25 M_25 M_25_c0 M_25_c1 M_25_f0 M_25_f1
      obtain ⟨w26, hw26⟩ : ∃ w26, w26 = w25.drewN nq := ⟨_, rfl⟩
      rw [← hw26] at R_26 D_26 B_26 O_26 F_26 X_26 G_26 U_26 M_26 Z26 CM_26
      rw [← hw26]
      clear hw26
      have D_26_c0 := D_26.c0
      have D_26_c1 := D_26.c1
      have D_26_c2 := D_26.c2
      have D_26_c3 := D_26.c3
      have B_26_c0 := B_26.c0
      have B_26_c1 := B_26.c1
      have O_26_c0 := O_26.c0
      have O_26_c1 := O_26.c1
      have O_26_c2 := O_26.c2
      have O_26_c3 := O_26.c3
      have F_26_c0 := F_26.c0
      have F_26_c1 := F_26.c1
      have X_26_c0 := X_26.c0
      have X_26_c1 := X_26.c1
      have X_26_c2 := X_26.c2
      have X_26_c3 := X_26.c3
      have G_26_c0 := G_26.c0
      have G_26_c1 := G_26.c1
      have M_26_c0 := M_26.c0
      have M_26_c1 := M_26.c1
      have M_26_f0 := M_26.f0
      have M_26_f1 := M_26.f1
      go_wp2_with fail
      refine (HST.out _).mono ?_
      rintro e w27 ⟨A15, n15, c15, rfl, hn15, o15, y27⟩
      have R_27 := R_26.on y27
      have D_27 := D_26.on y27
      have B_27 := B_26.on y27
      have O_27 := O_26.on y27
      have F_27 := F_26.on y27
      have X_27 := X_26.on y27
      have G_27 := G_26.on y27
      have U_27 := own_on U_26 y27
      have M_27 := M_26.on y27
      have T_27 := o15
      clear R_26 D_26 D_26_c0 D_26_c1 D_26_c2 D_26_c3 B_26 B_26_c0 B_26_c1 O_26 O_26_c0 O_26_c1 O_26_c2 O_26_c3 F_26 F_26_c0 F_26_c1 X_26 X_26_c0 X_26_c1 X_26_c2 X_26_c3 G_26 G_26_c0 G_26_c1 U_26 M_26 M_26_c0 M_26_c1 M_26_f0 M_26_f1
      have z27 := Z26.trans (y27.mono Z26.size)
      have Z27 := z27
      have cM27 := CM_26.trans (y27.mono CM_26.size)
      have CM_27 := cM27
      have D_27_c0 := D_27.c0
      have D_27_c1 := D_27.c1
      have D_27_c2 := D_27.c2
      have D_27_c3 := D_27.c3
      have B_27_c0 := B_27.c0
      have B_27_c1 := B_27.c1
      have O_27_c0 := O_27.c0
      have O_27_c1 := O_27.c1
      have O_27_c2 := O_27.c2
      have O_27_c3 := O_27.c3
      have F_27_c0 := F_27.c0
      have F_27_c1 := F_27.c1
      have X_27_c0 := X_27.c0
      have X_27_c1 := X_27.c1
      have X_27_c2 := X_27.c2
      have X_27_c3 := X_27.c3
      have G_27_c0 := G_27.c0
      have G_27_c1 := G_27.c1
      have M_27_c0 := M_27.c0
      have M_27_c1 := M_27.c1
      have M_27_f0 := M_27.f0
      have M_27_f1 := M_27.f1
      subst hn15
      go_wp2_with fail
      go_region_held3 (fun w' => w'.cell? ⟨w2.heap.size + 1, 0, none⟩ = some (.int .i64 15) ∧ w'.cell? ⟨w2.heap.size + 1, 1, none⟩ = some (.int .i64 (-2)) ∧ w'.cell? ⟨w2.heap.size, 0, none⟩ = some (.int .i64 0) ∧ w'.cell? ⟨w2.heap.size, 1, none⟩ = some (.int .i64 0) ∧ w'.cell? ⟨w2.heap.size, 2, none⟩ = some (.int .i64 0) ∧ w'.cell? ⟨w2.heap.size, 3, none⟩ = some (.int .i64 0)) (go_keep) ((go_at_call 19; refine (refat_any _ _ _).mono ?_; rintro e w28 ⟨rfl, y28⟩; have Y28 : Below w27.heap.size w27.drew w28 := y28; have G_28_c0 := ((Two.on (w := w27.drew) G_27 Y28)).c0; have G_28_c1 := ((Two.on (w := w27.drew) G_27 Y28)).c1; have X_28_c0 := ((Four.on (w := w27.drew) X_27 Y28)).c0; have X_28_c1 := ((Four.on (w := w27.drew) X_27 Y28)).c1; have X_28_c2 := ((Four.on (w := w27.drew) X_27 Y28)).c2; have X_28_c3 := ((Four.on (w := w27.drew) X_27 Y28)).c3))
      have R_28 := (Rd.on (w := w27.drew) R_27 Y28)
      have D_28 := (Four.on (w := w27.drew) D_27 Y28)
      have B_28 := (Two.on (w := w27.drew) B_27 Y28)
      have O_28 := (Four.on (w := w27.drew) O_27 Y28)
      have F_28 := (Two.on (w := w27.drew) F_27 Y28)
      have X_28 := (Four.on (w := w27.drew) X_27 Y28)
      have G_28 := (Two.on (w := w27.drew) G_27 Y28)
      have U_28 := (own_on (w := w27.drew) U_27 Y28)
      have M_28 := (Two.on (w := w27.drew) M_27 Y28)
      have T_28 := (own_on (w := w27.drew) T_27 Y28)
      have Z28 := (belowD Z27).trans (Y28.mono (belowD Z27).size)
      have CM_28 := (belowD CM_27).trans (Y28.mono (belowD CM_27).size)
      clear G_28_c0 G_28_c1 X_28_c0 X_28_c1 X_28_c2 X_28_c3
      clear R_27 D_27 D_27_c0 D_27_c1 D_27_c2 D_27_c3 B_27 B_27_c0 B_27_c1 O_27 O_27_c0 O_27_c1 O_27_c2 O_27_c3 F_27 F_27_c0 F_27_c1 X_27 X_27_c0 X_27_c1 X_27_c2 X_27_c3 G_27 G_27_c0 G_27_c1 U_27 M_27 M_27_c0 M_27_c1 M_27_f0 M_27_f1 T_27
      have D_28_c0 := D_28.c0
      have D_28_c1 := D_28.c1
      have D_28_c2 := D_28.c2
      have D_28_c3 := D_28.c3
      have B_28_c0 := B_28.c0
      have B_28_c1 := B_28.c1
      have O_28_c0 := O_28.c0
      have O_28_c1 := O_28.c1
      have O_28_c2 := O_28.c2
      have O_28_c3 := O_28.c3
      have F_28_c0 := F_28.c0
      have F_28_c1 := F_28.c1
      have X_28_c0 := X_28.c0
      have X_28_c1 := X_28.c1
      have X_28_c2 := X_28.c2
      have X_28_c3 := X_28.c3
      have G_28_c0 := G_28.c0
      have G_28_c1 := G_28.c1
      have M_28_c0 := M_28.c0
      have M_28_c1 := M_28.c1
      have M_28_f0 := M_28.f0
      have M_28_f1 := M_28.f1
      go_wp2
      go_ret
      exact ⟨rfl, Z28⟩
set_option maxRecDepth 100000 in
set_option maxHeartbeats 1600000 in
theorem ag_short_big1 {A : Option Addr} {n c : Nat} {lo hi V p : Int} {t : Nat} {l : List Nat} (h01 : Is01 l) (hl : l.length ≤ 131072) (hs : l.length < 2) (hok : DecOk lo hi V (t : Nat)) (hp1 : 1 ≤ p) (hp2 : p ≤ 4095) (hb : V ≤ splitOf lo hi p) (hbig : l.length + 14 < t + (stp lo hi 1 p).2.2.length) (w : World) (h : Rd w A n c (bcells (pack l))) :
    Calls Try.prog 9 #[.agg #[.int .i64 lo, .int .i64 hi, .int .i64 V, .int .i64 (t : Nat)], .agg #[.slice A n c, .int .i64 l.length], .int .i64 p] w fun e w' => e = .returned (.bool true) ∧ Below w.heap.size w w' := by
  have HBO := Lib.hid (fun (W : World) (hW : Rd W A n c (bcells (pack l))) => bitsok_any hW (pack_lt h01) (by omega) (by omega) true ⟨fun _ => Ok.of_list h01 hl, fun _ => rfl⟩)
  have HBI := Lib.hid (fun (W : World) (hW : Rd W A n c (bcells (pack l))) => bits_any hW h01 hl (l.length : Nat) rfl)
  have hc6 : decide (l.length < 2) = true := by simp; omega
  have hc7 : decide ((l.length : Int) < 2) = true := by simp; omega
  have HOP := Lib.hid (fun (W : World) (hW : Rd W A n c (bcells (pack l))) => open_short hW h01 hl hs)
  have HDO := Lib.hid (fun (W : World) => decoderok_any lo hi V (t : Nat) true ⟨fun _ => hok, fun _ => rfl⟩ W)
  obtain ⟨LO, hLO⟩ : ∃ LO, LO = (stp lo hi 1 p).1 := ⟨_, rfl⟩
  obtain ⟨HI, hHI⟩ : ∃ HI, HI = (stp lo hi 1 p).2.1 := ⟨_, rfl⟩
  obtain ⟨R, hR⟩ : ∃ R, R = (stp lo hi 1 p).2.2 := ⟨_, rfl⟩
  obtain ⟨VV, hVV⟩ : ∃ VV, VV = dv l (stp lo hi 1 p).2.2 V t := ⟨_, rfl⟩
  obtain ⟨TT, hTT⟩ : ∃ TT, TT = t + (stp lo hi 1 p).2.2.length := ⟨_, rfl⟩
  obtain ⟨sp, hsp⟩ : ∃ sp, sp = splitOf lo hi p := ⟨_, rfl⟩
  have hok2 := hok
  obtain ⟨hw, ⟨d1, d2⟩, d3, d4⟩ := hok2
  obtain ⟨e1, e2, e3, e4, e5⟩ := id hw
  obtain ⟨f1, f2, f3, f4⟩ := stp_facts 1 hw hp1 hp2
  have hsb := split_in hw hp1 hp2
  rw [← hsp] at hsb
  have HSP := Lib.hid (fun (W : World) => same_flip (split_any hw hp1 hp2 sp hsp W))
  have HST := Lib.hid (fun (W : World) => steps_any hw hp1 hp2 (b := 1) (by decide) LO HI R hLO hHI hR (1 : Int) rfl W)
  rw [← hsp] at hb
  have hpk : 1 = pickb ⟨lo, hi, V, t⟩ p := by unfold pickb; rw [show splitOf (DS.mk lo hi V t).lo (DS.mk lo hi V t).hi p = sp from hsp.symm]; exact (if_pos hb).symm
  have kb : decide (V ≤ sp) = true := by simpa using hb
  rw [← hR] at hTT hVV f2 f3 hbig
  rw [← hTT] at hbig
  have HGE := Lib.hid (fun (W : World) (hW : Rd W A n c (bcells (pack l))) => get_big hW h01 hl hok hp1 hp2 1 LO HI VV TT hpk hLO hHI (by rw [← hR]; exact hVV) (by rw [← hR]; exact hTT) hbig)
  have kbig : decide ((l.length : Int) + 14 < (t : Int) + (R.length : Int)) = true := by simp; omega
  have HTT := Lib.hid hTT
  have hRl : R.length ≤ 14 := f2
  have ht0 : t ≤ 131100 := by omega
  have HP1 := Lib.hid hp1
  have HP2 := Lib.hid hp2
  have H01 := Lib.hid h01
  clear hs h01 hok hw d1 d2 d3 d4 e1 e2 e3 e4 e5 f1 f3 f4 hb hpk hLO hHI hR hVV hTT hsp hbig hp1 hp2
  obtain ⟨i0, hi0, hz0, hz1, hz2⟩ := info_parts int_info
  have R_0 := ((h).alloc (.cells #[.int .i64 lo, .int .i64 hi, .int .i64 V, .int .i64 (t : Nat)] 62)).alloc (.cells #[.slice A n c, .int .i64 l.length] 25)
  have D_0 := ((Four.new w 62 (.int .i64 lo) (.int .i64 hi) (.int .i64 V) (.int .i64 (t : Nat)))).alloc (.cells #[.slice A n c, .int .i64 l.length] 25)
  have B_0 := (Two.new1 w (.cells #[.int .i64 lo, .int .i64 hi, .int .i64 V, .int .i64 (t : Nat)] 62) 25 (.slice A n c) (.int .i64 l.length))
  have Z0 := ((Below.refl w.heap.size w).alloc (by simp) (.cells #[.int .i64 lo, .int .i64 hi, .int .i64 V, .int .i64 (t : Nat)] 62)).alloc (by simp) (.cells #[.slice A n c, .int .i64 l.length] 25)
  have D_0_c0 := D_0.c0
  have D_0_c1 := D_0.c1
  have D_0_c2 := D_0.c2
  have D_0_c3 := D_0.c3
  have B_0_c0 := B_0.c0
  have B_0_c1 := B_0.c1
  go_enter Try.func9, Try.ntmps9
  go_wp2_with fail
  refine (HOP.out _ R_0).mono ?_
  rintro e w1 ⟨rfl, y1⟩
  have R_1 := ((R_0.on y1).alloc (.cells #[.int .i64 0, .int .i64 0, .int .i64 0, .int .i64 0] 62)).alloc (.cells #[.int .i64 15, .int .i64 (-1)] 27)
  have D_1 := ((D_0.on y1).alloc (.cells #[.int .i64 0, .int .i64 0, .int .i64 0, .int .i64 0] 62)).alloc (.cells #[.int .i64 15, .int .i64 (-1)] 27)
  have B_1 := ((B_0.on y1).alloc (.cells #[.int .i64 0, .int .i64 0, .int .i64 0, .int .i64 0] 62)).alloc (.cells #[.int .i64 15, .int .i64 (-1)] 27)
  have O_1 := ((Four.new w1 62 (.int .i64 0) (.int .i64 0) (.int .i64 0) (.int .i64 0))).alloc (.cells #[.int .i64 15, .int .i64 (-1)] 27)
  have F_1 := (Two.new1 w1 (.cells #[.int .i64 0, .int .i64 0, .int .i64 0, .int .i64 0] 62) 27 (.int .i64 15) (.int .i64 (-1)))
  clear R_0 D_0 D_0_c0 D_0_c1 D_0_c2 D_0_c3 B_0 B_0_c0 B_0_c1
  have z1 := Z0.trans (y1.mono Z0.size)
  have Z1 := ((z1).alloc (by have := z1.size; omega) (.cells #[.int .i64 0, .int .i64 0, .int .i64 0, .int .i64 0] 62)).alloc (by have := z1.size; simp; omega) (.cells #[.int .i64 15, .int .i64 (-1)] 27)
  have D_1_c0 := D_1.c0
  have D_1_c1 := D_1.c1
  have D_1_c2 := D_1.c2
  have D_1_c3 := D_1.c3
  have B_1_c0 := B_1.c0
  have B_1_c1 := B_1.c1
  have O_1_c0 := O_1.c0
  have O_1_c1 := O_1.c1
  have O_1_c2 := O_1.c2
  have O_1_c3 := O_1.c3
  have F_1_c0 := F_1.c0
  have F_1_c1 := F_1.c1
  go_wp2_with fail
  refine (HGE.out _ R_1).mono ?_
  rintro e w2 ⟨rfl, y2⟩
  have R_2 := ((R_1.on y2).alloc (.cells #[.int .i64 0, .int .i64 0, .int .i64 0, .int .i64 0] 62)).alloc (.cells #[.int .i64 15, .int .i64 (-2)] 27)
  have D_2 := ((D_1.on y2).alloc (.cells #[.int .i64 0, .int .i64 0, .int .i64 0, .int .i64 0] 62)).alloc (.cells #[.int .i64 15, .int .i64 (-2)] 27)
  have B_2 := ((B_1.on y2).alloc (.cells #[.int .i64 0, .int .i64 0, .int .i64 0, .int .i64 0] 62)).alloc (.cells #[.int .i64 15, .int .i64 (-2)] 27)
  have O_2 := ((O_1.on y2).alloc (.cells #[.int .i64 0, .int .i64 0, .int .i64 0, .int .i64 0] 62)).alloc (.cells #[.int .i64 15, .int .i64 (-2)] 27)
  have F_2 := ((F_1.on y2).alloc (.cells #[.int .i64 0, .int .i64 0, .int .i64 0, .int .i64 0] 62)).alloc (.cells #[.int .i64 15, .int .i64 (-2)] 27)
  have X_2 := ((Four.new w2 62 (.int .i64 0) (.int .i64 0) (.int .i64 0) (.int .i64 0))).alloc (.cells #[.int .i64 15, .int .i64 (-2)] 27)
  have G_2 := (Two.new1 w2 (.cells #[.int .i64 0, .int .i64 0, .int .i64 0, .int .i64 0] 62) 27 (.int .i64 15) (.int .i64 (-2)))
  clear R_1 D_1 D_1_c0 D_1_c1 D_1_c2 D_1_c3 B_1 B_1_c0 B_1_c1 O_1 O_1_c0 O_1_c1 O_1_c2 O_1_c3 F_1 F_1_c0 F_1_c1
  have z2 := Z1.trans (y2.mono Z1.size)
  have Z2 := ((z2).alloc (by have := z2.size; omega) (.cells #[.int .i64 0, .int .i64 0, .int .i64 0, .int .i64 0] 62)).alloc (by have := z2.size; simp; omega) (.cells #[.int .i64 15, .int .i64 (-2)] 27)
  have D_2_c0 := D_2.c0
  have D_2_c1 := D_2.c1
  have D_2_c2 := D_2.c2
  have D_2_c3 := D_2.c3
  have B_2_c0 := B_2.c0
  have B_2_c1 := B_2.c1
  have O_2_c0 := O_2.c0
  have O_2_c1 := O_2.c1
  have O_2_c2 := O_2.c2
  have O_2_c3 := O_2.c3
  have F_2_c0 := F_2.c0
  have F_2_c1 := F_2.c1
  have X_2_c0 := X_2.c0
  have X_2_c1 := X_2.c1
  have X_2_c2 := X_2.c2
  have X_2_c3 := X_2.c3
  have G_2_c0 := G_2.c0
  have G_2_c1 := G_2.c1
  go_wp2_with fail
  refine (codes_true _).mono ?_
  rintro e w3 ⟨rfl, y3⟩
  have R_3 := R_2.on y3
  have D_3 := D_2.on y3
  have B_3 := B_2.on y3
  have O_3 := O_2.on y3
  have F_3 := F_2.on y3
  have X_3 := X_2.on y3
  have G_3 := G_2.on y3
  clear R_2 D_2 D_2_c0 D_2_c1 D_2_c2 D_2_c3 B_2 B_2_c0 B_2_c1 O_2 O_2_c0 O_2_c1 O_2_c2 O_2_c3 F_2 F_2_c0 F_2_c1 X_2 X_2_c0 X_2_c1 X_2_c2 X_2_c3 G_2 G_2_c0 G_2_c1
  have z3 := Z2.trans (y3.mono Z2.size)
  have Z3 := z3
  have D_3_c0 := D_3.c0
  have D_3_c1 := D_3.c1
  have D_3_c2 := D_3.c2
  have D_3_c3 := D_3.c3
  have B_3_c0 := B_3.c0
  have B_3_c1 := B_3.c1
  have O_3_c0 := O_3.c0
  have O_3_c1 := O_3.c1
  have O_3_c2 := O_3.c2
  have O_3_c3 := O_3.c3
  have F_3_c0 := F_3.c0
  have F_3_c1 := F_3.c1
  have X_3_c0 := X_3.c0
  have X_3_c1 := X_3.c1
  have X_3_c2 := X_3.c2
  have X_3_c3 := X_3.c3
  have G_3_c0 := G_3.c0
  have G_3_c1 := G_3.c1
  go_wp2_with fail
  refine (HBO.out _ R_3).mono ?_
  rintro e w4 ⟨rfl, y4⟩
  have R_4 := R_3.on y4
  have D_4 := D_3.on y4
  have B_4 := B_3.on y4
  have O_4 := O_3.on y4
  have F_4 := F_3.on y4
  have X_4 := X_3.on y4
  have G_4 := G_3.on y4
  clear R_3 D_3 D_3_c0 D_3_c1 D_3_c2 D_3_c3 B_3 B_3_c0 B_3_c1 O_3 O_3_c0 O_3_c1 O_3_c2 O_3_c3 F_3 F_3_c0 F_3_c1 X_3 X_3_c0 X_3_c1 X_3_c2 X_3_c3 G_3 G_3_c0 G_3_c1
  have z4 := Z3.trans (y4.mono Z3.size)
  have Z4 := z4
  have D_4_c0 := D_4.c0
  have D_4_c1 := D_4.c1
  have D_4_c2 := D_4.c2
  have D_4_c3 := D_4.c3
  have B_4_c0 := B_4.c0
  have B_4_c1 := B_4.c1
  have O_4_c0 := O_4.c0
  have O_4_c1 := O_4.c1
  have O_4_c2 := O_4.c2
  have O_4_c3 := O_4.c3
  have F_4_c0 := F_4.c0
  have F_4_c1 := F_4.c1
  have X_4_c0 := X_4.c0
  have X_4_c1 := X_4.c1
  have X_4_c2 := X_4.c2
  have X_4_c3 := X_4.c3
  have G_4_c0 := G_4.c0
  have G_4_c1 := G_4.c1
  go_wp2_with fail
  refine (HBI.out _ R_4).mono ?_
  rintro e w6 ⟨A6, c6, rfl, o6, y6⟩
  have hs6 := y6.size
  go_wp2_with fail
  go_loopw [13, 14] (fun lv i wr => ∃ (j : Nat) (P2 : Option Addr) (p3 : Nat), j ≤ 32 ∧ i = .int .i64 (j : Nat) ∧ lv = .slice P2 (l.length + j) p3 ∧ Below w4.heap.size w4 wr ∧ w4.heap.size ≤ wr.heap.size ∧ wr.ownsRow w4.heap.size 3 1 (.slice P2 (l.length + j) p3) (l.length + j) (zl l j)) (fun _ i _ => 32 - (intOf i).toNat)
  case atStart => exact ⟨0, A6, c6, Nat.zero_le _, rfl, rfl, y6, hs6, by rw [zl_zero]; exact o6⟩
  case round =>
    obtain ⟨j, P2, p3, hj, rfl, rfl, yr, hsz, oP⟩ := hrel
    have HP := Lib.hid oP
    clear oP
    by_cases hlt : j < 32
    · have HPC := Lib.hid (zl_succ l j)
      have i1 : (0 : Int) ≤ (j : Int) := by omega
      have i2 : decide ((j : Int) < 32) = true := by simp; omega
      have i3 : decide (j < 32) = true := by simp; omega
      go_wp2_with (at_builtin; refine wpList_app1 _ rfl _ _ _ rfl w4.heap.size 3 i0 _ 8 Try.underlying34 hi0 hz0 hz1 hz2 rfl _ _ _ rfl HP.out (.int .i64 0) rfl rfl ?g1 ?g2 hsz ?_)
      case g1 => unfold maxLen; omega
      case g2 => omega
      intro A14 c14 w14 o14 g14
      have Y14 := below_grown yr HP.out g14 (Nat.le_refl _) hsz
      rw [← HPC.out] at o14
      have HP14 := Lib.hid o14
      have hs14 : w4.heap.size ≤ w14.heap.size := Y14.size
      clear o14 g14
      go_wp2_with fail
      go_roundw
      case rel => exact ⟨j + 1, A14, c14, by omega, by go_num, rfl, Y14, hs14, HP14.out⟩
      case measure => simp [intOf] <;> omega
    · obtain rfl : j = 32 := by omega
      obtain ⟨w20, hw20⟩ : ∃ w20, w20 = wr := ⟨_, rfl⟩
      rw [← hw20] at yr hsz HP ⊢
      clear hw20 wr
      have U_20 := HP.out
      clear HP
      have R_20 := R_4.on yr
      have D_20 := D_4.on yr
      have B_20 := B_4.on yr
      have O_20 := O_4.on yr
      have F_20 := F_4.on yr
      have X_20 := X_4.on yr
      have G_20 := G_4.on yr
      have Z20 := Z4.trans (yr.mono Z4.size)
      clear R_4 D_4 D_4_c0 D_4_c1 D_4_c2 D_4_c3 B_4 B_4_c0 B_4_c1 O_4 O_4_c0 O_4_c1 O_4_c2 O_4_c3 F_4 F_4_c0 F_4_c1 X_4 X_4_c0 X_4_c1 X_4_c2 X_4_c3 G_4 G_4_c0 G_4_c1
      have D_20_c0 := D_20.c0
      have D_20_c1 := D_20.c1
      have D_20_c2 := D_20.c2
      have D_20_c3 := D_20.c3
      have B_20_c0 := B_20.c0
      have B_20_c1 := B_20.c1
      have O_20_c0 := O_20.c0
      have O_20_c1 := O_20.c1
      have O_20_c2 := O_20.c2
      have O_20_c3 := O_20.c3
      have F_20_c0 := F_20.c0
      have F_20_c1 := F_20.c1
      have X_20_c0 := X_20.c0
      have X_20_c1 := X_20.c1
      have X_20_c2 := X_20.c2
      have X_20_c3 := X_20.c3
      have G_20_c0 := G_20.c0
      have G_20_c1 := G_20.c1
      have z20 := Z20
      have R_b := R_20
      have R_20q := R_20.alloc (.cells #[.int .i64 0, .int .i64 0] 27)
      have D_b := D_20
      have D_20q := D_20.alloc (.cells #[.int .i64 0, .int .i64 0] 27)
      have B_b := B_20
      have B_20q := B_20.alloc (.cells #[.int .i64 0, .int .i64 0] 27)
      have O_b := O_20
      have O_20q := O_20.alloc (.cells #[.int .i64 0, .int .i64 0] 27)
      have F_b := F_20
      have F_20q := F_20.alloc (.cells #[.int .i64 0, .int .i64 0] 27)
      have X_b := X_20
      have X_20q := X_20.alloc (.cells #[.int .i64 0, .int .i64 0] 27)
      have G_b := G_20
      have G_20q := G_20.alloc (.cells #[.int .i64 0, .int .i64 0] 27)
      have U_b := U_20
      have U_20q := (own_on U_20 ((Below.refl _ _).alloc (Nat.le_refl _) (.cells #[.int .i64 0, .int .i64 0] 27)))
      have M_20q := Two.new w20 27 (.int .i64 0) (.int .i64 0)
      have CM_20q := (Below.refl w20.heap.size w20).alloc (Nat.le_refl _) (.cells #[.int .i64 0, .int .i64 0] 27)
      have Z20q := Z20.alloc Z20.size (.cells #[.int .i64 0, .int .i64 0] 27)
      clear R_20 D_20 D_20_c0 D_20_c1 D_20_c2 D_20_c3 B_20 B_20_c0 B_20_c1 O_20 O_20_c0 O_20_c1 O_20_c2 O_20_c3 F_20 F_20_c0 F_20_c1 X_20 X_20_c0 X_20_c1 X_20_c2 X_20_c3 G_20 G_20_c0 G_20_c1 U_20
      have D_20q_c0 := D_20q.c0
      have D_20q_c1 := D_20q.c1
      have D_20q_c2 := D_20q.c2
      have D_20q_c3 := D_20q.c3
      have B_20q_c0 := B_20q.c0
      have B_20q_c1 := B_20q.c1
      have O_20q_c0 := O_20q.c0
      have O_20q_c1 := O_20q.c1
      have O_20q_c2 := O_20q.c2
      have O_20q_c3 := O_20q.c3
      have F_20q_c0 := F_20q.c0
      have F_20q_c1 := F_20q.c1
      have X_20q_c0 := X_20q.c0
      have X_20q_c1 := X_20q.c1
      have X_20q_c2 := X_20q.c2
      have X_20q_c3 := X_20q.c3
      have G_20q_c0 := G_20q.c0
      have G_20q_c1 := G_20q.c1
      have M_20q_c0 := M_20q.c0
      have M_20q_c1 := M_20q.c1
      have M_20q_f0 := M_20q.f0
      have M_20q_f1 := M_20q.f1
      go_wp2_with fail
      refine (refat_any _ _ _).mono ?_
      rintro e w21 ⟨rfl, y21⟩
      have R_21 := R_20q.on y21
      have D_21 := D_20q.on y21
      have B_21 := B_20q.on y21
      have O_21 := O_20q.on y21
      have F_21 := F_20q.on y21
      have X_21 := X_20q.on y21
      have G_21 := G_20q.on y21
      have U_21 := own_on U_20q y21
      have M_21 := M_20q.on y21
      clear R_20q D_20q D_20q_c0 D_20q_c1 D_20q_c2 D_20q_c3 B_20q B_20q_c0 B_20q_c1 O_20q O_20q_c0 O_20q_c1 O_20q_c2 O_20q_c3 F_20q F_20q_c0 F_20q_c1 X_20q X_20q_c0 X_20q_c1 X_20q_c2 X_20q_c3 G_20q G_20q_c0 G_20q_c1 U_20q M_20q M_20q_c0 M_20q_c1 M_20q_f0 M_20q_f1
      have z21 := Z20q.trans (y21.mono Z20q.size)
      have Z21 := z21
      have cM21 := CM_20q.trans (y21.mono CM_20q.size)
      have CM_21 := cM21
      have D_21_c0 := D_21.c0
      have D_21_c1 := D_21.c1
      have D_21_c2 := D_21.c2
      have D_21_c3 := D_21.c3
      have B_21_c0 := B_21.c0
      have B_21_c1 := B_21.c1
      have O_21_c0 := O_21.c0
      have O_21_c1 := O_21.c1
      have O_21_c2 := O_21.c2
      have O_21_c3 := O_21.c3
      have F_21_c0 := F_21.c0
      have F_21_c1 := F_21.c1
      have X_21_c0 := X_21.c0
      have X_21_c1 := X_21.c1
      have X_21_c2 := X_21.c2
      have X_21_c3 := X_21.c3
      have G_21_c0 := G_21.c0
      have G_21_c1 := G_21.c1
      have M_21_c0 := M_21.c0
      have M_21_c1 := M_21.c1
      have M_21_f0 := M_21.f0
      have M_21_f1 := M_21.f1
      have CM_22 := (CM_21.setCell (p := ⟨w20.heap.size, 0, none⟩) (by simp) (.int .i64 15)).setCell (p := ⟨w20.heap.size, 1, none⟩) (by simp) (.int .i64 (-1))
      have Z22 := (Z21.setCell (p := ⟨w20.heap.size, 0, none⟩) (by have := z20.size; simp; omega) (.int .i64 15)).setCell (p := ⟨w20.heap.size, 1, none⟩) (by have := z20.size; simp; omega) (.int .i64 (-1))
      have R_22 := R_b.on CM_22
      have D_22 := D_b.on CM_22
      have B_22 := B_b.on CM_22
      have O_22 := O_b.on CM_22
      have F_22 := F_b.on CM_22
      have X_22 := X_b.on CM_22
      have G_22 := G_b.on CM_22
      have U_22 := own_on U_b CM_22
      have M_22 := (M_21.set0 (.int .i64 15)).set1 (.int .i64 (-1))
      have D_22_c0 := D_22.c0
      have D_22_c1 := D_22.c1
      have D_22_c2 := D_22.c2
      have D_22_c3 := D_22.c3
      have B_22_c0 := B_22.c0
      have B_22_c1 := B_22.c1
      have O_22_c0 := O_22.c0
      have O_22_c1 := O_22.c1
      have O_22_c2 := O_22.c2
      have O_22_c3 := O_22.c3
      have F_22_c0 := F_22.c0
      have F_22_c1 := F_22.c1
      have X_22_c0 := X_22.c0
      have X_22_c1 := X_22.c1
      have X_22_c2 := X_22.c2
      have X_22_c3 := X_22.c3
      have G_22_c0 := G_22.c0
      have G_22_c1 := G_22.c1
      have M_22_c0 := M_22.c0
      have M_22_c1 := M_22.c1
      have M_22_f0 := M_22.f0
      have M_22_f1 := M_22.f1
      go_wp2_with fail
      go_quiet (fail)
      have R_23 := Rd.drewN R_22 nq
      have D_23 := Four.drewN D_22 nq
      have B_23 := Two.drewN B_22 nq
      have O_23 := Four.drewN O_22 nq
      have F_23 := Two.drewN F_22 nq
      have X_23 := Four.drewN X_22 nq
      have G_23 := Two.drewN G_22 nq
      have U_23 := own_drewN U_22 nq
      have M_23 := Two.drewN M_22 nq
      have Z23 := belowN Z22 nq
      have CM_23 := belowN CM_22 nq
      clear R_21 D_21 D_21_c0 D_21_c1 D_21_c2 D_21_c3 B_21 B_21_c0 B_21_c1 O_21 O_21_c0 O_21_c1 O_21_c2 O_21_c3 F_21 F_21_c0 F_21_c1 X_21 X_21_c0 X_21_c1 X_21_c2 X_21_c3 G_21 G_21_c0 G_21_c1 U_21 M_21 M_21_c0 M_21_c1 M_21_f0 M_21_f1 R_22 D_22 D_22_c0 D_22_c1 D_22_c2 D_22_c3 B_22 B_22_c0 B_22_c1 O_22 O_22_c0 O_22_c1 O_22_c2 O_22_c3 F_22 F_22_c0 F_22_c1 X_22 X_22_c0 X_22_c1 X_22_c2 X_22_c3 G_22 G_22_c0 G_22_c1 U_22 M_22 M_22_c0 M_22_c1 M_22_f0 M_22_f1
      obtain ⟨w23, hw23⟩ : ∃ w23, w23 = ((w21.setCell ⟨w20.heap.size, 0, none⟩ (.int .i64 15)).setCell ⟨w20.heap.size, 1, none⟩ (.int .i64 (-1))).drewN nq := ⟨_, rfl⟩
      rw [← hw23] at R_23 D_23 B_23 O_23 F_23 X_23 G_23 U_23 M_23 Z23 CM_23
      rw [← hw23]
      clear hw23
      have D_23_c0 := D_23.c0
      have D_23_c1 := D_23.c1
      have D_23_c2 := D_23.c2
      have D_23_c3 := D_23.c3
      have B_23_c0 := B_23.c0
      have B_23_c1 := B_23.c1
      have O_23_c0 := O_23.c0
      have O_23_c1 := O_23.c1
      have O_23_c2 := O_23.c2
      have O_23_c3 := O_23.c3
      have F_23_c0 := F_23.c0
      have F_23_c1 := F_23.c1
      have X_23_c0 := X_23.c0
      have X_23_c1 := X_23.c1
      have X_23_c2 := X_23.c2
      have X_23_c3 := X_23.c3
      have G_23_c0 := G_23.c0
      have G_23_c1 := G_23.c1
      have M_23_c0 := M_23.c0
      have M_23_c1 := M_23.c1
      have M_23_f0 := M_23.f0
      have M_23_f1 := M_23.f1
      have CM_24 := (CM_23.setCell (p := ⟨w20.heap.size, 0, none⟩) (by simp) (.int .i64 0)).setCell (p := ⟨w20.heap.size, 1, none⟩) (by simp) (.int .i64 0)
      have Z24 := (Z23.setCell (p := ⟨w20.heap.size, 0, none⟩) (by have := z20.size; simp; omega) (.int .i64 0)).setCell (p := ⟨w20.heap.size, 1, none⟩) (by have := z20.size; simp; omega) (.int .i64 0)
      have R_24 := R_b.on CM_24
      have D_24 := D_b.on CM_24
      have B_24 := B_b.on CM_24
      have O_24 := O_b.on CM_24
      have F_24 := F_b.on CM_24
      have X_24 := X_b.on CM_24
      have G_24 := G_b.on CM_24
      have U_24 := own_on U_b CM_24
      have M_24 := (M_23.set0 (.int .i64 0)).set1 (.int .i64 0)
      have D_24_c0 := D_24.c0
      have D_24_c1 := D_24.c1
      have D_24_c2 := D_24.c2
      have D_24_c3 := D_24.c3
      have B_24_c0 := B_24.c0
      have B_24_c1 := B_24.c1
      have O_24_c0 := O_24.c0
      have O_24_c1 := O_24.c1
      have O_24_c2 := O_24.c2
      have O_24_c3 := O_24.c3
      have F_24_c0 := F_24.c0
      have F_24_c1 := F_24.c1
      have X_24_c0 := X_24.c0
      have X_24_c1 := X_24.c1
      have X_24_c2 := X_24.c2
      have X_24_c3 := X_24.c3
      have G_24_c0 := G_24.c0
      have G_24_c1 := G_24.c1
      have M_24_c0 := M_24.c0
      have M_24_c1 := M_24.c1
      have M_24_f0 := M_24.f0
      have M_24_f1 := M_24.f1
      go_wp2_with fail
      refine (HDO.out _).mono ?_
      rintro e w25 ⟨rfl, y25⟩
      have R_25 := R_24.on y25
      have D_25 := D_24.on y25
      have B_25 := B_24.on y25
      have O_25 := O_24.on y25
      have F_25 := F_24.on y25
      have X_25 := X_24.on y25
      have G_25 := G_24.on y25
      have U_25 := own_on U_24 y25
      have M_25 := M_24.on y25
      clear R_23 D_23 D_23_c0 D_23_c1 D_23_c2 D_23_c3 B_23 B_23_c0 B_23_c1 O_23 O_23_c0 O_23_c1 O_23_c2 O_23_c3 F_23 F_23_c0 F_23_c1 X_23 X_23_c0 X_23_c1 X_23_c2 X_23_c3 G_23 G_23_c0 G_23_c1 U_23 M_23 M_23_c0 M_23_c1 M_23_f0 M_23_f1 R_24 D_24 D_24_c0 D_24_c1 D_24_c2 D_24_c3 B_24 B_24_c0 B_24_c1 O_24 O_24_c0 O_24_c1 O_24_c2 O_24_c3 F_24 F_24_c0 F_24_c1 X_24 X_24_c0 X_24_c1 X_24_c2 X_24_c3 G_24 G_24_c0 G_24_c1 U_24 M_24 M_24_c0 M_24_c1 M_24_f0 M_24_f1
      have z25 := Z24.trans (y25.mono Z24.size)
      have Z25 := z25
      have cM25 := CM_24.trans (y25.mono CM_24.size)
      have CM_25 := cM25
      have D_25_c0 := D_25.c0
      have D_25_c1 := D_25.c1
      have D_25_c2 := D_25.c2
      have D_25_c3 := D_25.c3
      have B_25_c0 := B_25.c0
      have B_25_c1 := B_25.c1
      have O_25_c0 := O_25.c0
      have O_25_c1 := O_25.c1
      have O_25_c2 := O_25.c2
      have O_25_c3 := O_25.c3
      have F_25_c0 := F_25.c0
      have F_25_c1 := F_25.c1
      have X_25_c0 := X_25.c0
      have X_25_c1 := X_25.c1
      have X_25_c2 := X_25.c2
      have X_25_c3 := X_25.c3
      have G_25_c0 := G_25.c0
      have G_25_c1 := G_25.c1
      have M_25_c0 := M_25.c0
      have M_25_c1 := M_25.c1
      have M_25_f0 := M_25.f0
      have M_25_f1 := M_25.f1
      go_wp2_with fail
      refine (in_yes _ _ _ _ HP1.out HP2.out).mono ?_
      rintro e w9_1 ⟨rfl, rfl⟩
      go_wp2_with fail
      go_quiet ((go_at_call 35; exact Calls.quiet_of_same (HSP.out _)))
      have R_26 := Rd.drewN R_25 nq
      have D_26 := Four.drewN D_25 nq
      have B_26 := Two.drewN B_25 nq
      have O_26 := Four.drewN O_25 nq
      have F_26 := Two.drewN F_25 nq
      have X_26 := Four.drewN X_25 nq
      have G_26 := Two.drewN G_25 nq
      have U_26 := own_drewN U_25 nq
      have M_26 := Two.drewN M_25 nq
      have Z26 := belowN Z25 nq
      have CM_26 := belowN CM_25 nq
      clear R_25 D_25 D_25_c0 D_25_c1 D_25_c2 D_25_c3 B_25 B_25_c0 B_25_c1 O_25 O_25_c0 O_25_c1 O_25_c2 O_25_c3 F_25 F_25_c0 F_25_c1 X_25 X_25_c0 X_25_c1 X_25_c2 X_25_c3 G_25 G_25_c0 G_25_c1 U_25 M_25 M_25_c0 M_25_c1 M_25_f0 M_25_f1
      obtain ⟨w26, hw26⟩ : ∃ w26, w26 = w25.drewN nq := ⟨_, rfl⟩
      rw [← hw26] at R_26 D_26 B_26 O_26 F_26 X_26 G_26 U_26 M_26 Z26 CM_26
      rw [← hw26]
      clear hw26
      have D_26_c0 := D_26.c0
      have D_26_c1 := D_26.c1
      have D_26_c2 := D_26.c2
      have D_26_c3 := D_26.c3
      have B_26_c0 := B_26.c0
      have B_26_c1 := B_26.c1
      have O_26_c0 := O_26.c0
      have O_26_c1 := O_26.c1
      have O_26_c2 := O_26.c2
      have O_26_c3 := O_26.c3
      have F_26_c0 := F_26.c0
      have F_26_c1 := F_26.c1
      have X_26_c0 := X_26.c0
      have X_26_c1 := X_26.c1
      have X_26_c2 := X_26.c2
      have X_26_c3 := X_26.c3
      have G_26_c0 := G_26.c0
      have G_26_c1 := G_26.c1
      have M_26_c0 := M_26.c0
      have M_26_c1 := M_26.c1
      have M_26_f0 := M_26.f0
      have M_26_f1 := M_26.f1
      go_wp2_with fail
      refine (HST.out _).mono ?_
      rintro e w27 ⟨A15, n15, c15, rfl, hn15, o15, y27⟩
      have R_27 := R_26.on y27
      have D_27 := D_26.on y27
      have B_27 := B_26.on y27
      have O_27 := O_26.on y27
      have F_27 := F_26.on y27
      have X_27 := X_26.on y27
      have G_27 := G_26.on y27
      have U_27 := own_on U_26 y27
      have M_27 := M_26.on y27
      have T_27 := o15
      clear R_26 D_26 D_26_c0 D_26_c1 D_26_c2 D_26_c3 B_26 B_26_c0 B_26_c1 O_26 O_26_c0 O_26_c1 O_26_c2 O_26_c3 F_26 F_26_c0 F_26_c1 X_26 X_26_c0 X_26_c1 X_26_c2 X_26_c3 G_26 G_26_c0 G_26_c1 U_26 M_26 M_26_c0 M_26_c1 M_26_f0 M_26_f1
      have z27 := Z26.trans (y27.mono Z26.size)
      have Z27 := z27
      have cM27 := CM_26.trans (y27.mono CM_26.size)
      have CM_27 := cM27
      have D_27_c0 := D_27.c0
      have D_27_c1 := D_27.c1
      have D_27_c2 := D_27.c2
      have D_27_c3 := D_27.c3
      have B_27_c0 := B_27.c0
      have B_27_c1 := B_27.c1
      have O_27_c0 := O_27.c0
      have O_27_c1 := O_27.c1
      have O_27_c2 := O_27.c2
      have O_27_c3 := O_27.c3
      have F_27_c0 := F_27.c0
      have F_27_c1 := F_27.c1
      have X_27_c0 := X_27.c0
      have X_27_c1 := X_27.c1
      have X_27_c2 := X_27.c2
      have X_27_c3 := X_27.c3
      have G_27_c0 := G_27.c0
      have G_27_c1 := G_27.c1
      have M_27_c0 := M_27.c0
      have M_27_c1 := M_27.c1
      have M_27_f0 := M_27.f0
      have M_27_f1 := M_27.f1
      subst hn15
      go_wp2_with fail
      go_region_held3 (fun w' => w'.cell? ⟨w2.heap.size + 1, 0, none⟩ = some (.int .i64 15) ∧ w'.cell? ⟨w2.heap.size + 1, 1, none⟩ = some (.int .i64 (-2)) ∧ w'.cell? ⟨w2.heap.size, 0, none⟩ = some (.int .i64 0) ∧ w'.cell? ⟨w2.heap.size, 1, none⟩ = some (.int .i64 0) ∧ w'.cell? ⟨w2.heap.size, 2, none⟩ = some (.int .i64 0) ∧ w'.cell? ⟨w2.heap.size, 3, none⟩ = some (.int .i64 0)) (go_keep) ((go_at_call 19; refine (refat_any _ _ _).mono ?_; rintro e w28 ⟨rfl, y28⟩; have Y28 : Below w27.heap.size w27.drew w28 := y28; have G_28_c0 := ((Two.on (w := w27.drew) G_27 Y28)).c0; have G_28_c1 := ((Two.on (w := w27.drew) G_27 Y28)).c1; have X_28_c0 := ((Four.on (w := w27.drew) X_27 Y28)).c0; have X_28_c1 := ((Four.on (w := w27.drew) X_27 Y28)).c1; have X_28_c2 := ((Four.on (w := w27.drew) X_27 Y28)).c2; have X_28_c3 := ((Four.on (w := w27.drew) X_27 Y28)).c3))
      have R_28 := (Rd.on (w := w27.drew) R_27 Y28)
      have D_28 := (Four.on (w := w27.drew) D_27 Y28)
      have B_28 := (Two.on (w := w27.drew) B_27 Y28)
      have O_28 := (Four.on (w := w27.drew) O_27 Y28)
      have F_28 := (Two.on (w := w27.drew) F_27 Y28)
      have X_28 := (Four.on (w := w27.drew) X_27 Y28)
      have G_28 := (Two.on (w := w27.drew) G_27 Y28)
      have U_28 := (own_on (w := w27.drew) U_27 Y28)
      have M_28 := (Two.on (w := w27.drew) M_27 Y28)
      have T_28 := (own_on (w := w27.drew) T_27 Y28)
      have Z28 := (belowD Z27).trans (Y28.mono (belowD Z27).size)
      have CM_28 := (belowD CM_27).trans (Y28.mono (belowD CM_27).size)
      clear G_28_c0 G_28_c1 X_28_c0 X_28_c1 X_28_c2 X_28_c3
      clear R_27 D_27 D_27_c0 D_27_c1 D_27_c2 D_27_c3 B_27 B_27_c0 B_27_c1 O_27 O_27_c0 O_27_c1 O_27_c2 O_27_c3 F_27 F_27_c0 F_27_c1 X_27 X_27_c0 X_27_c1 X_27_c2 X_27_c3 G_27 G_27_c0 G_27_c1 U_27 M_27 M_27_c0 M_27_c1 M_27_f0 M_27_f1 T_27
      have D_28_c0 := D_28.c0
      have D_28_c1 := D_28.c1
      have D_28_c2 := D_28.c2
      have D_28_c3 := D_28.c3
      have B_28_c0 := B_28.c0
      have B_28_c1 := B_28.c1
      have O_28_c0 := O_28.c0
      have O_28_c1 := O_28.c1
      have O_28_c2 := O_28.c2
      have O_28_c3 := O_28.c3
      have F_28_c0 := F_28.c0
      have F_28_c1 := F_28.c1
      have X_28_c0 := X_28.c0
      have X_28_c1 := X_28.c1
      have X_28_c2 := X_28.c2
      have X_28_c3 := X_28.c3
      have G_28_c0 := G_28.c0
      have G_28_c1 := G_28.c1
      have M_28_c0 := M_28.c0
      have M_28_c1 := M_28.c1
      have M_28_f0 := M_28.f0
      have M_28_f1 := M_28.f1
      go_wp2
      go_ret
      exact ⟨rfl, Z28⟩
set_option maxRecDepth 100000 in
set_option maxHeartbeats 1600000 in
theorem ag_good_bad {A : Option Addr} {n c : Nat} {lo hi V p : Int} {t : Int} {l : List Nat} (h01 : Is01 l) (hl : l.length ≤ 131072) (hs : 2 ≤ l.length) (hbad : ¬ DecOk lo hi V t) (w : World) (h : Rd w A n c (bcells (pack l))) :
    Calls Try.prog 9 #[.agg #[.int .i64 lo, .int .i64 hi, .int .i64 V, .int .i64 t], .agg #[.slice A n c, .int .i64 l.length], .int .i64 p] w fun e w' => e = .returned (.bool true) ∧ Below w.heap.size w w' := by
  have HBO := Lib.hid (fun (W : World) (hW : Rd W A n c (bcells (pack l))) => bitsok_any hW (pack_lt h01) (by omega) (by omega) true ⟨fun _ => Ok.of_list h01 hl, fun _ => rfl⟩)
  have HBI := Lib.hid (fun (W : World) (hW : Rd W A n c (bcells (pack l))) => bits_any hW h01 hl (l.length : Nat) rfl)
  have hc6 : decide (l.length < 2) = false := by simp; omega
  have hc7 : decide ((l.length : Int) < 2) = false := by simp; omega
  obtain ⟨VO, hVO⟩ : ∃ VO : Nat, VO = num ((List.range 16).map fun i => l.getD i 0) := ⟨_, rfl⟩
  have HOP := Lib.hid (fun (W : World) (hW : Rd W A n c (bcells (pack l))) => ar_open_ok hW h01 hl hs VO hVO)
  have HNU := Lib.hid (fun (W : World) (A7 : Option Addr) (c7 : Nat) (hW : Rd W A7 16 c7 (ncells ((List.range 16).map fun i => l.getD i 0))) => same_flip (numref_any hW (range01 h01) (by simp)))
  rw [← hVO] at HNU
  have HDO := Lib.hid (fun (W : World) => decoderok_any lo hi V t false ⟨(fun h => by cases h), fun h => absurd h hbad⟩ W)
  have HGE := Lib.hid (fun (W : World) => get_bad (A := A) (n := n) (c := c) (cnt := (l.length : Nat)) (p := p) (w := W) hbad)
  have H01 := Lib.hid h01
  clear hs h01 hVO hbad
  obtain ⟨i0, hi0, hz0, hz1, hz2⟩ := info_parts int_info
  have R_0 := ((h).alloc (.cells #[.int .i64 lo, .int .i64 hi, .int .i64 V, .int .i64 t] 62)).alloc (.cells #[.slice A n c, .int .i64 l.length] 25)
  have D_0 := ((Four.new w 62 (.int .i64 lo) (.int .i64 hi) (.int .i64 V) (.int .i64 t))).alloc (.cells #[.slice A n c, .int .i64 l.length] 25)
  have B_0 := (Two.new1 w (.cells #[.int .i64 lo, .int .i64 hi, .int .i64 V, .int .i64 t] 62) 25 (.slice A n c) (.int .i64 l.length))
  have Z0 := ((Below.refl w.heap.size w).alloc (by simp) (.cells #[.int .i64 lo, .int .i64 hi, .int .i64 V, .int .i64 t] 62)).alloc (by simp) (.cells #[.slice A n c, .int .i64 l.length] 25)
  have D_0_c0 := D_0.c0
  have D_0_c1 := D_0.c1
  have D_0_c2 := D_0.c2
  have D_0_c3 := D_0.c3
  have B_0_c0 := B_0.c0
  have B_0_c1 := B_0.c1
  go_enter Try.func9, Try.ntmps9
  go_wp2_with fail
  refine (HOP.out _ R_0).mono ?_
  rintro e w1 ⟨rfl, y1⟩
  have R_1 := ((R_0.on y1).alloc (.cells #[.int .i64 0, .int .i64 65535, .int .i64 (VO : Nat), .int .i64 16] 62)).alloc (.cells #[.int .i64 0, .int .i64 0] 27)
  have D_1 := ((D_0.on y1).alloc (.cells #[.int .i64 0, .int .i64 65535, .int .i64 (VO : Nat), .int .i64 16] 62)).alloc (.cells #[.int .i64 0, .int .i64 0] 27)
  have B_1 := ((B_0.on y1).alloc (.cells #[.int .i64 0, .int .i64 65535, .int .i64 (VO : Nat), .int .i64 16] 62)).alloc (.cells #[.int .i64 0, .int .i64 0] 27)
  have O_1 := ((Four.new w1 62 (.int .i64 0) (.int .i64 65535) (.int .i64 (VO : Nat)) (.int .i64 16))).alloc (.cells #[.int .i64 0, .int .i64 0] 27)
  have F_1 := (Two.new1 w1 (.cells #[.int .i64 0, .int .i64 65535, .int .i64 (VO : Nat), .int .i64 16] 62) 27 (.int .i64 0) (.int .i64 0))
  clear R_0 D_0 D_0_c0 D_0_c1 D_0_c2 D_0_c3 B_0 B_0_c0 B_0_c1
  have z1 := Z0.trans (y1.mono Z0.size)
  have Z1 := ((z1).alloc (by have := z1.size; omega) (.cells #[.int .i64 0, .int .i64 65535, .int .i64 (VO : Nat), .int .i64 16] 62)).alloc (by have := z1.size; simp; omega) (.cells #[.int .i64 0, .int .i64 0] 27)
  have D_1_c0 := D_1.c0
  have D_1_c1 := D_1.c1
  have D_1_c2 := D_1.c2
  have D_1_c3 := D_1.c3
  have B_1_c0 := B_1.c0
  have B_1_c1 := B_1.c1
  have O_1_c0 := O_1.c0
  have O_1_c1 := O_1.c1
  have O_1_c2 := O_1.c2
  have O_1_c3 := O_1.c3
  have F_1_c0 := F_1.c0
  have F_1_c1 := F_1.c1
  go_wp2_with fail
  refine (HGE.out _).mono ?_
  rintro e w2 ⟨rfl, y2⟩
  have R_2 := ((R_1.on y2).alloc (.cells #[.int .i64 0, .int .i64 0, .int .i64 0, .int .i64 0] 62)).alloc (.cells #[.int .i64 6, .int .i64 (-1)] 27)
  have D_2 := ((D_1.on y2).alloc (.cells #[.int .i64 0, .int .i64 0, .int .i64 0, .int .i64 0] 62)).alloc (.cells #[.int .i64 6, .int .i64 (-1)] 27)
  have B_2 := ((B_1.on y2).alloc (.cells #[.int .i64 0, .int .i64 0, .int .i64 0, .int .i64 0] 62)).alloc (.cells #[.int .i64 6, .int .i64 (-1)] 27)
  have O_2 := ((O_1.on y2).alloc (.cells #[.int .i64 0, .int .i64 0, .int .i64 0, .int .i64 0] 62)).alloc (.cells #[.int .i64 6, .int .i64 (-1)] 27)
  have F_2 := ((F_1.on y2).alloc (.cells #[.int .i64 0, .int .i64 0, .int .i64 0, .int .i64 0] 62)).alloc (.cells #[.int .i64 6, .int .i64 (-1)] 27)
  have X_2 := ((Four.new w2 62 (.int .i64 0) (.int .i64 0) (.int .i64 0) (.int .i64 0))).alloc (.cells #[.int .i64 6, .int .i64 (-1)] 27)
  have G_2 := (Two.new1 w2 (.cells #[.int .i64 0, .int .i64 0, .int .i64 0, .int .i64 0] 62) 27 (.int .i64 6) (.int .i64 (-1)))
  clear R_1 D_1 D_1_c0 D_1_c1 D_1_c2 D_1_c3 B_1 B_1_c0 B_1_c1 O_1 O_1_c0 O_1_c1 O_1_c2 O_1_c3 F_1 F_1_c0 F_1_c1
  have z2 := Z1.trans (y2.mono Z1.size)
  have Z2 := ((z2).alloc (by have := z2.size; omega) (.cells #[.int .i64 0, .int .i64 0, .int .i64 0, .int .i64 0] 62)).alloc (by have := z2.size; simp; omega) (.cells #[.int .i64 6, .int .i64 (-1)] 27)
  have D_2_c0 := D_2.c0
  have D_2_c1 := D_2.c1
  have D_2_c2 := D_2.c2
  have D_2_c3 := D_2.c3
  have B_2_c0 := B_2.c0
  have B_2_c1 := B_2.c1
  have O_2_c0 := O_2.c0
  have O_2_c1 := O_2.c1
  have O_2_c2 := O_2.c2
  have O_2_c3 := O_2.c3
  have F_2_c0 := F_2.c0
  have F_2_c1 := F_2.c1
  have X_2_c0 := X_2.c0
  have X_2_c1 := X_2.c1
  have X_2_c2 := X_2.c2
  have X_2_c3 := X_2.c3
  have G_2_c0 := G_2.c0
  have G_2_c1 := G_2.c1
  go_wp2_with fail
  refine (codes_true _).mono ?_
  rintro e w3 ⟨rfl, y3⟩
  have R_3 := R_2.on y3
  have D_3 := D_2.on y3
  have B_3 := B_2.on y3
  have O_3 := O_2.on y3
  have F_3 := F_2.on y3
  have X_3 := X_2.on y3
  have G_3 := G_2.on y3
  clear R_2 D_2 D_2_c0 D_2_c1 D_2_c2 D_2_c3 B_2 B_2_c0 B_2_c1 O_2 O_2_c0 O_2_c1 O_2_c2 O_2_c3 F_2 F_2_c0 F_2_c1 X_2 X_2_c0 X_2_c1 X_2_c2 X_2_c3 G_2 G_2_c0 G_2_c1
  have z3 := Z2.trans (y3.mono Z2.size)
  have Z3 := z3
  have D_3_c0 := D_3.c0
  have D_3_c1 := D_3.c1
  have D_3_c2 := D_3.c2
  have D_3_c3 := D_3.c3
  have B_3_c0 := B_3.c0
  have B_3_c1 := B_3.c1
  have O_3_c0 := O_3.c0
  have O_3_c1 := O_3.c1
  have O_3_c2 := O_3.c2
  have O_3_c3 := O_3.c3
  have F_3_c0 := F_3.c0
  have F_3_c1 := F_3.c1
  have X_3_c0 := X_3.c0
  have X_3_c1 := X_3.c1
  have X_3_c2 := X_3.c2
  have X_3_c3 := X_3.c3
  have G_3_c0 := G_3.c0
  have G_3_c1 := G_3.c1
  go_wp2_with fail
  refine (HBO.out _ R_3).mono ?_
  rintro e w4 ⟨rfl, y4⟩
  have R_4 := R_3.on y4
  have D_4 := D_3.on y4
  have B_4 := B_3.on y4
  have O_4 := O_3.on y4
  have F_4 := F_3.on y4
  have X_4 := X_3.on y4
  have G_4 := G_3.on y4
  clear R_3 D_3 D_3_c0 D_3_c1 D_3_c2 D_3_c3 B_3 B_3_c0 B_3_c1 O_3 O_3_c0 O_3_c1 O_3_c2 O_3_c3 F_3 F_3_c0 F_3_c1 X_3 X_3_c0 X_3_c1 X_3_c2 X_3_c3 G_3 G_3_c0 G_3_c1
  have z4 := Z3.trans (y4.mono Z3.size)
  have Z4 := z4
  have D_4_c0 := D_4.c0
  have D_4_c1 := D_4.c1
  have D_4_c2 := D_4.c2
  have D_4_c3 := D_4.c3
  have B_4_c0 := B_4.c0
  have B_4_c1 := B_4.c1
  have O_4_c0 := O_4.c0
  have O_4_c1 := O_4.c1
  have O_4_c2 := O_4.c2
  have O_4_c3 := O_4.c3
  have F_4_c0 := F_4.c0
  have F_4_c1 := F_4.c1
  have X_4_c0 := X_4.c0
  have X_4_c1 := X_4.c1
  have X_4_c2 := X_4.c2
  have X_4_c3 := X_4.c3
  have G_4_c0 := G_4.c0
  have G_4_c1 := G_4.c1
  go_wp2_with fail
  refine (HBI.out _ R_4).mono ?_
  rintro e w6 ⟨A6, c6, rfl, o6, y6⟩
  have hs6 := y6.size
  go_wp2_with fail
  go_loopw [13, 14] (fun lv i wr => ∃ (j : Nat) (P2 : Option Addr) (p3 : Nat), j ≤ 32 ∧ i = .int .i64 (j : Nat) ∧ lv = .slice P2 (l.length + j) p3 ∧ Below w4.heap.size w4 wr ∧ w4.heap.size ≤ wr.heap.size ∧ wr.ownsRow w4.heap.size 3 1 (.slice P2 (l.length + j) p3) (l.length + j) (zl l j)) (fun _ i _ => 32 - (intOf i).toNat)
  case atStart => exact ⟨0, A6, c6, Nat.zero_le _, rfl, rfl, y6, hs6, by rw [zl_zero]; exact o6⟩
  case round =>
    obtain ⟨j, P2, p3, hj, rfl, rfl, yr, hsz, oP⟩ := hrel
    have HP := Lib.hid oP
    clear oP
    by_cases hlt : j < 32
    · have HPC := Lib.hid (zl_succ l j)
      have i1 : (0 : Int) ≤ (j : Int) := by omega
      have i2 : decide ((j : Int) < 32) = true := by simp; omega
      have i3 : decide (j < 32) = true := by simp; omega
      go_wp2_with (at_builtin; refine wpList_app1 _ rfl _ _ _ rfl w4.heap.size 3 i0 _ 8 Try.underlying34 hi0 hz0 hz1 hz2 rfl _ _ _ rfl HP.out (.int .i64 0) rfl rfl ?g1 ?g2 hsz ?_)
      case g1 => unfold maxLen; omega
      case g2 => omega
      intro A14 c14 w14 o14 g14
      have Y14 := below_grown yr HP.out g14 (Nat.le_refl _) hsz
      rw [← HPC.out] at o14
      have HP14 := Lib.hid o14
      have hs14 : w4.heap.size ≤ w14.heap.size := Y14.size
      clear o14 g14
      go_wp2_with fail
      go_roundw
      case rel => exact ⟨j + 1, A14, c14, by omega, by go_num, rfl, Y14, hs14, HP14.out⟩
      case measure => simp [intOf] <;> omega
    · obtain rfl : j = 32 := by omega
      obtain ⟨w20, hw20⟩ : ∃ w20, w20 = wr := ⟨_, rfl⟩
      rw [← hw20] at yr hsz HP ⊢
      clear hw20 wr
      have U_20 := HP.out
      clear HP
      have R_20 := R_4.on yr
      have D_20 := D_4.on yr
      have B_20 := B_4.on yr
      have O_20 := O_4.on yr
      have F_20 := F_4.on yr
      have X_20 := X_4.on yr
      have G_20 := G_4.on yr
      have Z20 := Z4.trans (yr.mono Z4.size)
      clear R_4 D_4 D_4_c0 D_4_c1 D_4_c2 D_4_c3 B_4 B_4_c0 B_4_c1 O_4 O_4_c0 O_4_c1 O_4_c2 O_4_c3 F_4 F_4_c0 F_4_c1 X_4 X_4_c0 X_4_c1 X_4_c2 X_4_c3 G_4 G_4_c0 G_4_c1
      have D_20_c0 := D_20.c0
      have D_20_c1 := D_20.c1
      have D_20_c2 := D_20.c2
      have D_20_c3 := D_20.c3
      have B_20_c0 := B_20.c0
      have B_20_c1 := B_20.c1
      have O_20_c0 := O_20.c0
      have O_20_c1 := O_20.c1
      have O_20_c2 := O_20.c2
      have O_20_c3 := O_20.c3
      have F_20_c0 := F_20.c0
      have F_20_c1 := F_20.c1
      have X_20_c0 := X_20.c0
      have X_20_c1 := X_20.c1
      have X_20_c2 := X_20.c2
      have X_20_c3 := X_20.c3
      have G_20_c0 := G_20.c0
      have G_20_c1 := G_20.c1
      have hu : 32 ≤ p3 := by have := Reads.cap (Rd.own U_20); omega
      have hu2 := Reads.capMax (Rd.own U_20)
      unfold maxLen at hu2
      have z20 := Z20
      have R_b := R_20
      have R_20q := R_20.alloc (.cells #[.int .i64 0, .int .i64 0] 27)
      have D_b := D_20
      have D_20q := D_20.alloc (.cells #[.int .i64 0, .int .i64 0] 27)
      have B_b := B_20
      have B_20q := B_20.alloc (.cells #[.int .i64 0, .int .i64 0] 27)
      have O_b := O_20
      have O_20q := O_20.alloc (.cells #[.int .i64 0, .int .i64 0] 27)
      have F_b := F_20
      have F_20q := F_20.alloc (.cells #[.int .i64 0, .int .i64 0] 27)
      have X_b := X_20
      have X_20q := X_20.alloc (.cells #[.int .i64 0, .int .i64 0] 27)
      have G_b := G_20
      have G_20q := G_20.alloc (.cells #[.int .i64 0, .int .i64 0] 27)
      have U_b := U_20
      have U_20q := (own_on U_20 ((Below.refl _ _).alloc (Nat.le_refl _) (.cells #[.int .i64 0, .int .i64 0] 27)))
      have M_20q := Two.new w20 27 (.int .i64 0) (.int .i64 0)
      have CM_20q := (Below.refl w20.heap.size w20).alloc (Nat.le_refl _) (.cells #[.int .i64 0, .int .i64 0] 27)
      have Z20q := Z20.alloc Z20.size (.cells #[.int .i64 0, .int .i64 0] 27)
      clear R_20 D_20 D_20_c0 D_20_c1 D_20_c2 D_20_c3 B_20 B_20_c0 B_20_c1 O_20 O_20_c0 O_20_c1 O_20_c2 O_20_c3 F_20 F_20_c0 F_20_c1 X_20 X_20_c0 X_20_c1 X_20_c2 X_20_c3 G_20 G_20_c0 G_20_c1 U_20
      have D_20q_c0 := D_20q.c0
      have D_20q_c1 := D_20q.c1
      have D_20q_c2 := D_20q.c2
      have D_20q_c3 := D_20q.c3
      have B_20q_c0 := B_20q.c0
      have B_20q_c1 := B_20q.c1
      have O_20q_c0 := O_20q.c0
      have O_20q_c1 := O_20q.c1
      have O_20q_c2 := O_20q.c2
      have O_20q_c3 := O_20q.c3
      have F_20q_c0 := F_20q.c0
      have F_20q_c1 := F_20q.c1
      have X_20q_c0 := X_20q.c0
      have X_20q_c1 := X_20q.c1
      have X_20q_c2 := X_20q.c2
      have X_20q_c3 := X_20q.c3
      have G_20q_c0 := G_20q.c0
      have G_20q_c1 := G_20q.c1
      have M_20q_c0 := M_20q.c0
      have M_20q_c1 := M_20q.c1
      have M_20q_f0 := M_20q.f0
      have M_20q_f1 := M_20q.f1
      go_wp2_with fail
      go_quiet ((go_at_call 33; exact Calls.quiet_of_same (HNU.out _ _ _ (pre16 (own_drewN U_20q _)))))
      have R_21 := Rd.drewN R_20q nq
      have D_21 := Four.drewN D_20q nq
      have B_21 := Two.drewN B_20q nq
      have O_21 := Four.drewN O_20q nq
      have F_21 := Two.drewN F_20q nq
      have X_21 := Four.drewN X_20q nq
      have G_21 := Two.drewN G_20q nq
      have U_21 := own_drewN U_20q nq
      have M_21 := Two.drewN M_20q nq
      have Z21 := belowN Z20q nq
      have CM_21 := belowN CM_20q nq
      clear R_20q D_20q D_20q_c0 D_20q_c1 D_20q_c2 D_20q_c3 B_20q B_20q_c0 B_20q_c1 O_20q O_20q_c0 O_20q_c1 O_20q_c2 O_20q_c3 F_20q F_20q_c0 F_20q_c1 X_20q X_20q_c0 X_20q_c1 X_20q_c2 X_20q_c3 G_20q G_20q_c0 G_20q_c1 U_20q M_20q M_20q_c0 M_20q_c1 M_20q_f0 M_20q_f1
      obtain ⟨w21, hw21⟩ : ∃ w21, w21 = (w20.alloc (.cells #[.int .i64 0, .int .i64 0] 27)).drewN nq := ⟨_, rfl⟩
      rw [← hw21] at R_21 D_21 B_21 O_21 F_21 X_21 G_21 U_21 M_21 Z21 CM_21
      rw [← hw21]
      clear hw21
      have D_21_c0 := D_21.c0
      have D_21_c1 := D_21.c1
      have D_21_c2 := D_21.c2
      have D_21_c3 := D_21.c3
      have B_21_c0 := B_21.c0
      have B_21_c1 := B_21.c1
      have O_21_c0 := O_21.c0
      have O_21_c1 := O_21.c1
      have O_21_c2 := O_21.c2
      have O_21_c3 := O_21.c3
      have F_21_c0 := F_21.c0
      have F_21_c1 := F_21.c1
      have X_21_c0 := X_21.c0
      have X_21_c1 := X_21.c1
      have X_21_c2 := X_21.c2
      have X_21_c3 := X_21.c3
      have G_21_c0 := G_21.c0
      have G_21_c1 := G_21.c1
      have M_21_c0 := M_21.c0
      have M_21_c1 := M_21.c1
      have M_21_f0 := M_21.f0
      have M_21_f1 := M_21.f1
      have CM_22 := (CM_21.setCell (p := ⟨w20.heap.size, 0, none⟩) (by simp) (.int .i64 0)).setCell (p := ⟨w20.heap.size, 1, none⟩) (by simp) (.int .i64 0)
      have Z22 := (Z21.setCell (p := ⟨w20.heap.size, 0, none⟩) (by have := z20.size; simp; omega) (.int .i64 0)).setCell (p := ⟨w20.heap.size, 1, none⟩) (by have := z20.size; simp; omega) (.int .i64 0)
      have R_22 := R_b.on CM_22
      have D_22 := D_b.on CM_22
      have B_22 := B_b.on CM_22
      have O_22 := O_b.on CM_22
      have F_22 := F_b.on CM_22
      have X_22 := X_b.on CM_22
      have G_22 := G_b.on CM_22
      have U_22 := own_on U_b CM_22
      have M_22 := (M_21.set0 (.int .i64 0)).set1 (.int .i64 0)
      have D_22_c0 := D_22.c0
      have D_22_c1 := D_22.c1
      have D_22_c2 := D_22.c2
      have D_22_c3 := D_22.c3
      have B_22_c0 := B_22.c0
      have B_22_c1 := B_22.c1
      have O_22_c0 := O_22.c0
      have O_22_c1 := O_22.c1
      have O_22_c2 := O_22.c2
      have O_22_c3 := O_22.c3
      have F_22_c0 := F_22.c0
      have F_22_c1 := F_22.c1
      have X_22_c0 := X_22.c0
      have X_22_c1 := X_22.c1
      have X_22_c2 := X_22.c2
      have X_22_c3 := X_22.c3
      have G_22_c0 := G_22.c0
      have G_22_c1 := G_22.c1
      have M_22_c0 := M_22.c0
      have M_22_c1 := M_22.c1
      have M_22_f0 := M_22.f0
      have M_22_f1 := M_22.f1
      go_wp2_with fail
      refine (HDO.out _).mono ?_
      rintro e w23 ⟨rfl, y23⟩
      have R_23 := R_22.on y23
      have D_23 := D_22.on y23
      have B_23 := B_22.on y23
      have O_23 := O_22.on y23
      have F_23 := F_22.on y23
      have X_23 := X_22.on y23
      have G_23 := G_22.on y23
      have U_23 := own_on U_22 y23
      have M_23 := M_22.on y23
      clear R_21 D_21 D_21_c0 D_21_c1 D_21_c2 D_21_c3 B_21 B_21_c0 B_21_c1 O_21 O_21_c0 O_21_c1 O_21_c2 O_21_c3 F_21 F_21_c0 F_21_c1 X_21 X_21_c0 X_21_c1 X_21_c2 X_21_c3 G_21 G_21_c0 G_21_c1 U_21 M_21 M_21_c0 M_21_c1 M_21_f0 M_21_f1 R_22 D_22 D_22_c0 D_22_c1 D_22_c2 D_22_c3 B_22 B_22_c0 B_22_c1 O_22 O_22_c0 O_22_c1 O_22_c2 O_22_c3 F_22 F_22_c0 F_22_c1 X_22 X_22_c0 X_22_c1 X_22_c2 X_22_c3 G_22 G_22_c0 G_22_c1 U_22 M_22 M_22_c0 M_22_c1 M_22_f0 M_22_f1
      have z23 := Z22.trans (y23.mono Z22.size)
      have Z23 := z23
      have cM23 := CM_22.trans (y23.mono CM_22.size)
      have CM_23 := cM23
      have D_23_c0 := D_23.c0
      have D_23_c1 := D_23.c1
      have D_23_c2 := D_23.c2
      have D_23_c3 := D_23.c3
      have B_23_c0 := B_23.c0
      have B_23_c1 := B_23.c1
      have O_23_c0 := O_23.c0
      have O_23_c1 := O_23.c1
      have O_23_c2 := O_23.c2
      have O_23_c3 := O_23.c3
      have F_23_c0 := F_23.c0
      have F_23_c1 := F_23.c1
      have X_23_c0 := X_23.c0
      have X_23_c1 := X_23.c1
      have X_23_c2 := X_23.c2
      have X_23_c3 := X_23.c3
      have G_23_c0 := G_23.c0
      have G_23_c1 := G_23.c1
      have M_23_c0 := M_23.c0
      have M_23_c1 := M_23.c1
      have M_23_f0 := M_23.f0
      have M_23_f1 := M_23.f1
      go_wp2_with fail
      refine (refat_any _ _ _).mono ?_
      rintro e w24 ⟨rfl, y24⟩
      have R_24 := R_23.on y24
      have D_24 := D_23.on y24
      have B_24 := B_23.on y24
      have O_24 := O_23.on y24
      have F_24 := F_23.on y24
      have X_24 := X_23.on y24
      have G_24 := G_23.on y24
      have U_24 := own_on U_23 y24
      have M_24 := M_23.on y24
      clear R_23 D_23 D_23_c0 D_23_c1 D_23_c2 D_23_c3 B_23 B_23_c0 B_23_c1 O_23 O_23_c0 O_23_c1 O_23_c2 O_23_c3 F_23 F_23_c0 F_23_c1 X_23 X_23_c0 X_23_c1 X_23_c2 X_23_c3 G_23 G_23_c0 G_23_c1 U_23 M_23 M_23_c0 M_23_c1 M_23_f0 M_23_f1
      have z24 := Z23.trans (y24.mono Z23.size)
      have Z24 := z24
      have cM24 := CM_23.trans (y24.mono CM_23.size)
      have CM_24 := cM24
      have D_24_c0 := D_24.c0
      have D_24_c1 := D_24.c1
      have D_24_c2 := D_24.c2
      have D_24_c3 := D_24.c3
      have B_24_c0 := B_24.c0
      have B_24_c1 := B_24.c1
      have O_24_c0 := O_24.c0
      have O_24_c1 := O_24.c1
      have O_24_c2 := O_24.c2
      have O_24_c3 := O_24.c3
      have F_24_c0 := F_24.c0
      have F_24_c1 := F_24.c1
      have X_24_c0 := X_24.c0
      have X_24_c1 := X_24.c1
      have X_24_c2 := X_24.c2
      have X_24_c3 := X_24.c3
      have G_24_c0 := G_24.c0
      have G_24_c1 := G_24.c1
      have M_24_c0 := M_24.c0
      have M_24_c1 := M_24.c1
      have M_24_f0 := M_24.f0
      have M_24_f1 := M_24.f1
      have CM_25 := (CM_24.setCell (p := ⟨w20.heap.size, 0, none⟩) (by simp) (.int .i64 6)).setCell (p := ⟨w20.heap.size, 1, none⟩) (by simp) (.int .i64 (-1))
      have Z25 := (Z24.setCell (p := ⟨w20.heap.size, 0, none⟩) (by have := z20.size; simp; omega) (.int .i64 6)).setCell (p := ⟨w20.heap.size, 1, none⟩) (by have := z20.size; simp; omega) (.int .i64 (-1))
      have R_25 := R_b.on CM_25
      have D_25 := D_b.on CM_25
      have B_25 := B_b.on CM_25
      have O_25 := O_b.on CM_25
      have F_25 := F_b.on CM_25
      have X_25 := X_b.on CM_25
      have G_25 := G_b.on CM_25
      have U_25 := own_on U_b CM_25
      have M_25 := (M_24.set0 (.int .i64 6)).set1 (.int .i64 (-1))
      have D_25_c0 := D_25.c0
      have D_25_c1 := D_25.c1
      have D_25_c2 := D_25.c2
      have D_25_c3 := D_25.c3
      have B_25_c0 := B_25.c0
      have B_25_c1 := B_25.c1
      have O_25_c0 := O_25.c0
      have O_25_c1 := O_25.c1
      have O_25_c2 := O_25.c2
      have O_25_c3 := O_25.c3
      have F_25_c0 := F_25.c0
      have F_25_c1 := F_25.c1
      have X_25_c0 := X_25.c0
      have X_25_c1 := X_25.c1
      have X_25_c2 := X_25.c2
      have X_25_c3 := X_25.c3
      have G_25_c0 := G_25.c0
      have G_25_c1 := G_25.c1
      have M_25_c0 := M_25.c0
      have M_25_c1 := M_25.c1
      have M_25_f0 := M_25.f0
      have M_25_f1 := M_25.f1
      go_wp2
      go_ret
      exact ⟨rfl, Z25⟩
set_option maxRecDepth 100000 in
set_option maxHeartbeats 1600000 in
theorem ag_good_prob {A : Option Addr} {n c : Nat} {lo hi V p : Int} {t : Int} {l : List Nat} (h01 : Is01 l) (hl : l.length ≤ 131072) (hs : 2 ≤ l.length) (hok : DecOk lo hi V t) (hp : ¬ (1 ≤ p ∧ p ≤ 4095)) (w : World) (h : Rd w A n c (bcells (pack l))) :
    Calls Try.prog 9 #[.agg #[.int .i64 lo, .int .i64 hi, .int .i64 V, .int .i64 t], .agg #[.slice A n c, .int .i64 l.length], .int .i64 p] w fun e w' => e = .returned (.bool true) ∧ Below w.heap.size w w' := by
  have HBO := Lib.hid (fun (W : World) (hW : Rd W A n c (bcells (pack l))) => bitsok_any hW (pack_lt h01) (by omega) (by omega) true ⟨fun _ => Ok.of_list h01 hl, fun _ => rfl⟩)
  have HBI := Lib.hid (fun (W : World) (hW : Rd W A n c (bcells (pack l))) => bits_any hW h01 hl (l.length : Nat) rfl)
  have hc6 : decide (l.length < 2) = false := by simp; omega
  have hc7 : decide ((l.length : Int) < 2) = false := by simp; omega
  obtain ⟨VO, hVO⟩ : ∃ VO : Nat, VO = num ((List.range 16).map fun i => l.getD i 0) := ⟨_, rfl⟩
  have HOP := Lib.hid (fun (W : World) (hW : Rd W A n c (bcells (pack l))) => ar_open_ok hW h01 hl hs VO hVO)
  have HNU := Lib.hid (fun (W : World) (A7 : Option Addr) (c7 : Nat) (hW : Rd W A7 16 c7 (ncells ((List.range 16).map fun i => l.getD i 0))) => same_flip (numref_any hW (range01 h01) (by simp)))
  rw [← hVO] at HNU
  have HDO := Lib.hid (fun (W : World) => decoderok_any lo hi V t true ⟨fun _ => hok, fun _ => rfl⟩ W)
  have HGE := Lib.hid (fun (W : World) (hW : Rd W A n c (bcells (pack l))) => get_prob hW h01 hl hok hp)
  have HPR := Lib.hid (show p < 1 ∨ 4095 < p by omega)
  have H01 := Lib.hid h01
  clear hs h01 hVO hok hp
  obtain ⟨i0, hi0, hz0, hz1, hz2⟩ := info_parts int_info
  have R_0 := ((h).alloc (.cells #[.int .i64 lo, .int .i64 hi, .int .i64 V, .int .i64 t] 62)).alloc (.cells #[.slice A n c, .int .i64 l.length] 25)
  have D_0 := ((Four.new w 62 (.int .i64 lo) (.int .i64 hi) (.int .i64 V) (.int .i64 t))).alloc (.cells #[.slice A n c, .int .i64 l.length] 25)
  have B_0 := (Two.new1 w (.cells #[.int .i64 lo, .int .i64 hi, .int .i64 V, .int .i64 t] 62) 25 (.slice A n c) (.int .i64 l.length))
  have Z0 := ((Below.refl w.heap.size w).alloc (by simp) (.cells #[.int .i64 lo, .int .i64 hi, .int .i64 V, .int .i64 t] 62)).alloc (by simp) (.cells #[.slice A n c, .int .i64 l.length] 25)
  have D_0_c0 := D_0.c0
  have D_0_c1 := D_0.c1
  have D_0_c2 := D_0.c2
  have D_0_c3 := D_0.c3
  have B_0_c0 := B_0.c0
  have B_0_c1 := B_0.c1
  go_enter Try.func9, Try.ntmps9
  go_wp2_with fail
  refine (HOP.out _ R_0).mono ?_
  rintro e w1 ⟨rfl, y1⟩
  have R_1 := ((R_0.on y1).alloc (.cells #[.int .i64 0, .int .i64 65535, .int .i64 (VO : Nat), .int .i64 16] 62)).alloc (.cells #[.int .i64 0, .int .i64 0] 27)
  have D_1 := ((D_0.on y1).alloc (.cells #[.int .i64 0, .int .i64 65535, .int .i64 (VO : Nat), .int .i64 16] 62)).alloc (.cells #[.int .i64 0, .int .i64 0] 27)
  have B_1 := ((B_0.on y1).alloc (.cells #[.int .i64 0, .int .i64 65535, .int .i64 (VO : Nat), .int .i64 16] 62)).alloc (.cells #[.int .i64 0, .int .i64 0] 27)
  have O_1 := ((Four.new w1 62 (.int .i64 0) (.int .i64 65535) (.int .i64 (VO : Nat)) (.int .i64 16))).alloc (.cells #[.int .i64 0, .int .i64 0] 27)
  have F_1 := (Two.new1 w1 (.cells #[.int .i64 0, .int .i64 65535, .int .i64 (VO : Nat), .int .i64 16] 62) 27 (.int .i64 0) (.int .i64 0))
  clear R_0 D_0 D_0_c0 D_0_c1 D_0_c2 D_0_c3 B_0 B_0_c0 B_0_c1
  have z1 := Z0.trans (y1.mono Z0.size)
  have Z1 := ((z1).alloc (by have := z1.size; omega) (.cells #[.int .i64 0, .int .i64 65535, .int .i64 (VO : Nat), .int .i64 16] 62)).alloc (by have := z1.size; simp; omega) (.cells #[.int .i64 0, .int .i64 0] 27)
  have D_1_c0 := D_1.c0
  have D_1_c1 := D_1.c1
  have D_1_c2 := D_1.c2
  have D_1_c3 := D_1.c3
  have B_1_c0 := B_1.c0
  have B_1_c1 := B_1.c1
  have O_1_c0 := O_1.c0
  have O_1_c1 := O_1.c1
  have O_1_c2 := O_1.c2
  have O_1_c3 := O_1.c3
  have F_1_c0 := F_1.c0
  have F_1_c1 := F_1.c1
  go_wp2_with fail
  refine (HGE.out _ R_1).mono ?_
  rintro e w2 ⟨rfl, y2⟩
  have R_2 := ((R_1.on y2).alloc (.cells #[.int .i64 0, .int .i64 0, .int .i64 0, .int .i64 0] 62)).alloc (.cells #[.int .i64 4, .int .i64 (-3)] 27)
  have D_2 := ((D_1.on y2).alloc (.cells #[.int .i64 0, .int .i64 0, .int .i64 0, .int .i64 0] 62)).alloc (.cells #[.int .i64 4, .int .i64 (-3)] 27)
  have B_2 := ((B_1.on y2).alloc (.cells #[.int .i64 0, .int .i64 0, .int .i64 0, .int .i64 0] 62)).alloc (.cells #[.int .i64 4, .int .i64 (-3)] 27)
  have O_2 := ((O_1.on y2).alloc (.cells #[.int .i64 0, .int .i64 0, .int .i64 0, .int .i64 0] 62)).alloc (.cells #[.int .i64 4, .int .i64 (-3)] 27)
  have F_2 := ((F_1.on y2).alloc (.cells #[.int .i64 0, .int .i64 0, .int .i64 0, .int .i64 0] 62)).alloc (.cells #[.int .i64 4, .int .i64 (-3)] 27)
  have X_2 := ((Four.new w2 62 (.int .i64 0) (.int .i64 0) (.int .i64 0) (.int .i64 0))).alloc (.cells #[.int .i64 4, .int .i64 (-3)] 27)
  have G_2 := (Two.new1 w2 (.cells #[.int .i64 0, .int .i64 0, .int .i64 0, .int .i64 0] 62) 27 (.int .i64 4) (.int .i64 (-3)))
  clear R_1 D_1 D_1_c0 D_1_c1 D_1_c2 D_1_c3 B_1 B_1_c0 B_1_c1 O_1 O_1_c0 O_1_c1 O_1_c2 O_1_c3 F_1 F_1_c0 F_1_c1
  have z2 := Z1.trans (y2.mono Z1.size)
  have Z2 := ((z2).alloc (by have := z2.size; omega) (.cells #[.int .i64 0, .int .i64 0, .int .i64 0, .int .i64 0] 62)).alloc (by have := z2.size; simp; omega) (.cells #[.int .i64 4, .int .i64 (-3)] 27)
  have D_2_c0 := D_2.c0
  have D_2_c1 := D_2.c1
  have D_2_c2 := D_2.c2
  have D_2_c3 := D_2.c3
  have B_2_c0 := B_2.c0
  have B_2_c1 := B_2.c1
  have O_2_c0 := O_2.c0
  have O_2_c1 := O_2.c1
  have O_2_c2 := O_2.c2
  have O_2_c3 := O_2.c3
  have F_2_c0 := F_2.c0
  have F_2_c1 := F_2.c1
  have X_2_c0 := X_2.c0
  have X_2_c1 := X_2.c1
  have X_2_c2 := X_2.c2
  have X_2_c3 := X_2.c3
  have G_2_c0 := G_2.c0
  have G_2_c1 := G_2.c1
  go_wp2_with fail
  refine (codes_true _).mono ?_
  rintro e w3 ⟨rfl, y3⟩
  have R_3 := R_2.on y3
  have D_3 := D_2.on y3
  have B_3 := B_2.on y3
  have O_3 := O_2.on y3
  have F_3 := F_2.on y3
  have X_3 := X_2.on y3
  have G_3 := G_2.on y3
  clear R_2 D_2 D_2_c0 D_2_c1 D_2_c2 D_2_c3 B_2 B_2_c0 B_2_c1 O_2 O_2_c0 O_2_c1 O_2_c2 O_2_c3 F_2 F_2_c0 F_2_c1 X_2 X_2_c0 X_2_c1 X_2_c2 X_2_c3 G_2 G_2_c0 G_2_c1
  have z3 := Z2.trans (y3.mono Z2.size)
  have Z3 := z3
  have D_3_c0 := D_3.c0
  have D_3_c1 := D_3.c1
  have D_3_c2 := D_3.c2
  have D_3_c3 := D_3.c3
  have B_3_c0 := B_3.c0
  have B_3_c1 := B_3.c1
  have O_3_c0 := O_3.c0
  have O_3_c1 := O_3.c1
  have O_3_c2 := O_3.c2
  have O_3_c3 := O_3.c3
  have F_3_c0 := F_3.c0
  have F_3_c1 := F_3.c1
  have X_3_c0 := X_3.c0
  have X_3_c1 := X_3.c1
  have X_3_c2 := X_3.c2
  have X_3_c3 := X_3.c3
  have G_3_c0 := G_3.c0
  have G_3_c1 := G_3.c1
  go_wp2_with fail
  refine (HBO.out _ R_3).mono ?_
  rintro e w4 ⟨rfl, y4⟩
  have R_4 := R_3.on y4
  have D_4 := D_3.on y4
  have B_4 := B_3.on y4
  have O_4 := O_3.on y4
  have F_4 := F_3.on y4
  have X_4 := X_3.on y4
  have G_4 := G_3.on y4
  clear R_3 D_3 D_3_c0 D_3_c1 D_3_c2 D_3_c3 B_3 B_3_c0 B_3_c1 O_3 O_3_c0 O_3_c1 O_3_c2 O_3_c3 F_3 F_3_c0 F_3_c1 X_3 X_3_c0 X_3_c1 X_3_c2 X_3_c3 G_3 G_3_c0 G_3_c1
  have z4 := Z3.trans (y4.mono Z3.size)
  have Z4 := z4
  have D_4_c0 := D_4.c0
  have D_4_c1 := D_4.c1
  have D_4_c2 := D_4.c2
  have D_4_c3 := D_4.c3
  have B_4_c0 := B_4.c0
  have B_4_c1 := B_4.c1
  have O_4_c0 := O_4.c0
  have O_4_c1 := O_4.c1
  have O_4_c2 := O_4.c2
  have O_4_c3 := O_4.c3
  have F_4_c0 := F_4.c0
  have F_4_c1 := F_4.c1
  have X_4_c0 := X_4.c0
  have X_4_c1 := X_4.c1
  have X_4_c2 := X_4.c2
  have X_4_c3 := X_4.c3
  have G_4_c0 := G_4.c0
  have G_4_c1 := G_4.c1
  go_wp2_with fail
  refine (HBI.out _ R_4).mono ?_
  rintro e w6 ⟨A6, c6, rfl, o6, y6⟩
  have hs6 := y6.size
  go_wp2_with fail
  go_loopw [13, 14] (fun lv i wr => ∃ (j : Nat) (P2 : Option Addr) (p3 : Nat), j ≤ 32 ∧ i = .int .i64 (j : Nat) ∧ lv = .slice P2 (l.length + j) p3 ∧ Below w4.heap.size w4 wr ∧ w4.heap.size ≤ wr.heap.size ∧ wr.ownsRow w4.heap.size 3 1 (.slice P2 (l.length + j) p3) (l.length + j) (zl l j)) (fun _ i _ => 32 - (intOf i).toNat)
  case atStart => exact ⟨0, A6, c6, Nat.zero_le _, rfl, rfl, y6, hs6, by rw [zl_zero]; exact o6⟩
  case round =>
    obtain ⟨j, P2, p3, hj, rfl, rfl, yr, hsz, oP⟩ := hrel
    have HP := Lib.hid oP
    clear oP
    by_cases hlt : j < 32
    · have HPC := Lib.hid (zl_succ l j)
      have i1 : (0 : Int) ≤ (j : Int) := by omega
      have i2 : decide ((j : Int) < 32) = true := by simp; omega
      have i3 : decide (j < 32) = true := by simp; omega
      go_wp2_with (at_builtin; refine wpList_app1 _ rfl _ _ _ rfl w4.heap.size 3 i0 _ 8 Try.underlying34 hi0 hz0 hz1 hz2 rfl _ _ _ rfl HP.out (.int .i64 0) rfl rfl ?g1 ?g2 hsz ?_)
      case g1 => unfold maxLen; omega
      case g2 => omega
      intro A14 c14 w14 o14 g14
      have Y14 := below_grown yr HP.out g14 (Nat.le_refl _) hsz
      rw [← HPC.out] at o14
      have HP14 := Lib.hid o14
      have hs14 : w4.heap.size ≤ w14.heap.size := Y14.size
      clear o14 g14
      go_wp2_with fail
      go_roundw
      case rel => exact ⟨j + 1, A14, c14, by omega, by go_num, rfl, Y14, hs14, HP14.out⟩
      case measure => simp [intOf] <;> omega
    · obtain rfl : j = 32 := by omega
      obtain ⟨w20, hw20⟩ : ∃ w20, w20 = wr := ⟨_, rfl⟩
      rw [← hw20] at yr hsz HP ⊢
      clear hw20 wr
      have U_20 := HP.out
      clear HP
      have R_20 := R_4.on yr
      have D_20 := D_4.on yr
      have B_20 := B_4.on yr
      have O_20 := O_4.on yr
      have F_20 := F_4.on yr
      have X_20 := X_4.on yr
      have G_20 := G_4.on yr
      have Z20 := Z4.trans (yr.mono Z4.size)
      clear R_4 D_4 D_4_c0 D_4_c1 D_4_c2 D_4_c3 B_4 B_4_c0 B_4_c1 O_4 O_4_c0 O_4_c1 O_4_c2 O_4_c3 F_4 F_4_c0 F_4_c1 X_4 X_4_c0 X_4_c1 X_4_c2 X_4_c3 G_4 G_4_c0 G_4_c1
      have D_20_c0 := D_20.c0
      have D_20_c1 := D_20.c1
      have D_20_c2 := D_20.c2
      have D_20_c3 := D_20.c3
      have B_20_c0 := B_20.c0
      have B_20_c1 := B_20.c1
      have O_20_c0 := O_20.c0
      have O_20_c1 := O_20.c1
      have O_20_c2 := O_20.c2
      have O_20_c3 := O_20.c3
      have F_20_c0 := F_20.c0
      have F_20_c1 := F_20.c1
      have X_20_c0 := X_20.c0
      have X_20_c1 := X_20.c1
      have X_20_c2 := X_20.c2
      have X_20_c3 := X_20.c3
      have G_20_c0 := G_20.c0
      have G_20_c1 := G_20.c1
      have hu : 32 ≤ p3 := by have := Reads.cap (Rd.own U_20); omega
      have hu2 := Reads.capMax (Rd.own U_20)
      unfold maxLen at hu2
      have z20 := Z20
      have R_b := R_20
      have R_20q := R_20.alloc (.cells #[.int .i64 0, .int .i64 0] 27)
      have D_b := D_20
      have D_20q := D_20.alloc (.cells #[.int .i64 0, .int .i64 0] 27)
      have B_b := B_20
      have B_20q := B_20.alloc (.cells #[.int .i64 0, .int .i64 0] 27)
      have O_b := O_20
      have O_20q := O_20.alloc (.cells #[.int .i64 0, .int .i64 0] 27)
      have F_b := F_20
      have F_20q := F_20.alloc (.cells #[.int .i64 0, .int .i64 0] 27)
      have X_b := X_20
      have X_20q := X_20.alloc (.cells #[.int .i64 0, .int .i64 0] 27)
      have G_b := G_20
      have G_20q := G_20.alloc (.cells #[.int .i64 0, .int .i64 0] 27)
      have U_b := U_20
      have U_20q := (own_on U_20 ((Below.refl _ _).alloc (Nat.le_refl _) (.cells #[.int .i64 0, .int .i64 0] 27)))
      have M_20q := Two.new w20 27 (.int .i64 0) (.int .i64 0)
      have CM_20q := (Below.refl w20.heap.size w20).alloc (Nat.le_refl _) (.cells #[.int .i64 0, .int .i64 0] 27)
      have Z20q := Z20.alloc Z20.size (.cells #[.int .i64 0, .int .i64 0] 27)
      clear R_20 D_20 D_20_c0 D_20_c1 D_20_c2 D_20_c3 B_20 B_20_c0 B_20_c1 O_20 O_20_c0 O_20_c1 O_20_c2 O_20_c3 F_20 F_20_c0 F_20_c1 X_20 X_20_c0 X_20_c1 X_20_c2 X_20_c3 G_20 G_20_c0 G_20_c1 U_20
      have D_20q_c0 := D_20q.c0
      have D_20q_c1 := D_20q.c1
      have D_20q_c2 := D_20q.c2
      have D_20q_c3 := D_20q.c3
      have B_20q_c0 := B_20q.c0
      have B_20q_c1 := B_20q.c1
      have O_20q_c0 := O_20q.c0
      have O_20q_c1 := O_20q.c1
      have O_20q_c2 := O_20q.c2
      have O_20q_c3 := O_20q.c3
      have F_20q_c0 := F_20q.c0
      have F_20q_c1 := F_20q.c1
      have X_20q_c0 := X_20q.c0
      have X_20q_c1 := X_20q.c1
      have X_20q_c2 := X_20q.c2
      have X_20q_c3 := X_20q.c3
      have G_20q_c0 := G_20q.c0
      have G_20q_c1 := G_20q.c1
      have M_20q_c0 := M_20q.c0
      have M_20q_c1 := M_20q.c1
      have M_20q_f0 := M_20q.f0
      have M_20q_f1 := M_20q.f1
      go_wp2_with fail
      go_quiet ((go_at_call 33; exact Calls.quiet_of_same (HNU.out _ _ _ (pre16 (own_drewN U_20q _)))))
      have R_21 := Rd.drewN R_20q nq
      have D_21 := Four.drewN D_20q nq
      have B_21 := Two.drewN B_20q nq
      have O_21 := Four.drewN O_20q nq
      have F_21 := Two.drewN F_20q nq
      have X_21 := Four.drewN X_20q nq
      have G_21 := Two.drewN G_20q nq
      have U_21 := own_drewN U_20q nq
      have M_21 := Two.drewN M_20q nq
      have Z21 := belowN Z20q nq
      have CM_21 := belowN CM_20q nq
      clear R_20q D_20q D_20q_c0 D_20q_c1 D_20q_c2 D_20q_c3 B_20q B_20q_c0 B_20q_c1 O_20q O_20q_c0 O_20q_c1 O_20q_c2 O_20q_c3 F_20q F_20q_c0 F_20q_c1 X_20q X_20q_c0 X_20q_c1 X_20q_c2 X_20q_c3 G_20q G_20q_c0 G_20q_c1 U_20q M_20q M_20q_c0 M_20q_c1 M_20q_f0 M_20q_f1
      obtain ⟨w21, hw21⟩ : ∃ w21, w21 = (w20.alloc (.cells #[.int .i64 0, .int .i64 0] 27)).drewN nq := ⟨_, rfl⟩
      rw [← hw21] at R_21 D_21 B_21 O_21 F_21 X_21 G_21 U_21 M_21 Z21 CM_21
      rw [← hw21]
      clear hw21
      have D_21_c0 := D_21.c0
      have D_21_c1 := D_21.c1
      have D_21_c2 := D_21.c2
      have D_21_c3 := D_21.c3
      have B_21_c0 := B_21.c0
      have B_21_c1 := B_21.c1
      have O_21_c0 := O_21.c0
      have O_21_c1 := O_21.c1
      have O_21_c2 := O_21.c2
      have O_21_c3 := O_21.c3
      have F_21_c0 := F_21.c0
      have F_21_c1 := F_21.c1
      have X_21_c0 := X_21.c0
      have X_21_c1 := X_21.c1
      have X_21_c2 := X_21.c2
      have X_21_c3 := X_21.c3
      have G_21_c0 := G_21.c0
      have G_21_c1 := G_21.c1
      have M_21_c0 := M_21.c0
      have M_21_c1 := M_21.c1
      have M_21_f0 := M_21.f0
      have M_21_f1 := M_21.f1
      have CM_22 := (CM_21.setCell (p := ⟨w20.heap.size, 0, none⟩) (by simp) (.int .i64 0)).setCell (p := ⟨w20.heap.size, 1, none⟩) (by simp) (.int .i64 0)
      have Z22 := (Z21.setCell (p := ⟨w20.heap.size, 0, none⟩) (by have := z20.size; simp; omega) (.int .i64 0)).setCell (p := ⟨w20.heap.size, 1, none⟩) (by have := z20.size; simp; omega) (.int .i64 0)
      have R_22 := R_b.on CM_22
      have D_22 := D_b.on CM_22
      have B_22 := B_b.on CM_22
      have O_22 := O_b.on CM_22
      have F_22 := F_b.on CM_22
      have X_22 := X_b.on CM_22
      have G_22 := G_b.on CM_22
      have U_22 := own_on U_b CM_22
      have M_22 := (M_21.set0 (.int .i64 0)).set1 (.int .i64 0)
      have D_22_c0 := D_22.c0
      have D_22_c1 := D_22.c1
      have D_22_c2 := D_22.c2
      have D_22_c3 := D_22.c3
      have B_22_c0 := B_22.c0
      have B_22_c1 := B_22.c1
      have O_22_c0 := O_22.c0
      have O_22_c1 := O_22.c1
      have O_22_c2 := O_22.c2
      have O_22_c3 := O_22.c3
      have F_22_c0 := F_22.c0
      have F_22_c1 := F_22.c1
      have X_22_c0 := X_22.c0
      have X_22_c1 := X_22.c1
      have X_22_c2 := X_22.c2
      have X_22_c3 := X_22.c3
      have G_22_c0 := G_22.c0
      have G_22_c1 := G_22.c1
      have M_22_c0 := M_22.c0
      have M_22_c1 := M_22.c1
      have M_22_f0 := M_22.f0
      have M_22_f1 := M_22.f1
      go_wp2_with fail
      refine (HDO.out _).mono ?_
      rintro e w23 ⟨rfl, y23⟩
      have R_23 := R_22.on y23
      have D_23 := D_22.on y23
      have B_23 := B_22.on y23
      have O_23 := O_22.on y23
      have F_23 := F_22.on y23
      have X_23 := X_22.on y23
      have G_23 := G_22.on y23
      have U_23 := own_on U_22 y23
      have M_23 := M_22.on y23
      clear R_21 D_21 D_21_c0 D_21_c1 D_21_c2 D_21_c3 B_21 B_21_c0 B_21_c1 O_21 O_21_c0 O_21_c1 O_21_c2 O_21_c3 F_21 F_21_c0 F_21_c1 X_21 X_21_c0 X_21_c1 X_21_c2 X_21_c3 G_21 G_21_c0 G_21_c1 U_21 M_21 M_21_c0 M_21_c1 M_21_f0 M_21_f1 R_22 D_22 D_22_c0 D_22_c1 D_22_c2 D_22_c3 B_22 B_22_c0 B_22_c1 O_22 O_22_c0 O_22_c1 O_22_c2 O_22_c3 F_22 F_22_c0 F_22_c1 X_22 X_22_c0 X_22_c1 X_22_c2 X_22_c3 G_22 G_22_c0 G_22_c1 U_22 M_22 M_22_c0 M_22_c1 M_22_f0 M_22_f1
      have z23 := Z22.trans (y23.mono Z22.size)
      have Z23 := z23
      have cM23 := CM_22.trans (y23.mono CM_22.size)
      have CM_23 := cM23
      have D_23_c0 := D_23.c0
      have D_23_c1 := D_23.c1
      have D_23_c2 := D_23.c2
      have D_23_c3 := D_23.c3
      have B_23_c0 := B_23.c0
      have B_23_c1 := B_23.c1
      have O_23_c0 := O_23.c0
      have O_23_c1 := O_23.c1
      have O_23_c2 := O_23.c2
      have O_23_c3 := O_23.c3
      have F_23_c0 := F_23.c0
      have F_23_c1 := F_23.c1
      have X_23_c0 := X_23.c0
      have X_23_c1 := X_23.c1
      have X_23_c2 := X_23.c2
      have X_23_c3 := X_23.c3
      have G_23_c0 := G_23.c0
      have G_23_c1 := G_23.c1
      have M_23_c0 := M_23.c0
      have M_23_c1 := M_23.c1
      have M_23_f0 := M_23.f0
      have M_23_f1 := M_23.f1
      go_wp2_with fail
      refine (in_no _ _ _ _ HPR.out).mono ?_
      rintro e w9_1 ⟨rfl, rfl⟩
      go_wp2_with fail
      refine (refat_any _ _ _).mono ?_
      rintro e w24 ⟨rfl, y24⟩
      have R_24 := R_23.on y24
      have D_24 := D_23.on y24
      have B_24 := B_23.on y24
      have O_24 := O_23.on y24
      have F_24 := F_23.on y24
      have X_24 := X_23.on y24
      have G_24 := G_23.on y24
      have U_24 := own_on U_23 y24
      have M_24 := M_23.on y24
      clear R_23 D_23 D_23_c0 D_23_c1 D_23_c2 D_23_c3 B_23 B_23_c0 B_23_c1 O_23 O_23_c0 O_23_c1 O_23_c2 O_23_c3 F_23 F_23_c0 F_23_c1 X_23 X_23_c0 X_23_c1 X_23_c2 X_23_c3 G_23 G_23_c0 G_23_c1 U_23 M_23 M_23_c0 M_23_c1 M_23_f0 M_23_f1
      have z24 := Z23.trans (y24.mono Z23.size)
      have Z24 := z24
      have cM24 := CM_23.trans (y24.mono CM_23.size)
      have CM_24 := cM24
      have D_24_c0 := D_24.c0
      have D_24_c1 := D_24.c1
      have D_24_c2 := D_24.c2
      have D_24_c3 := D_24.c3
      have B_24_c0 := B_24.c0
      have B_24_c1 := B_24.c1
      have O_24_c0 := O_24.c0
      have O_24_c1 := O_24.c1
      have O_24_c2 := O_24.c2
      have O_24_c3 := O_24.c3
      have F_24_c0 := F_24.c0
      have F_24_c1 := F_24.c1
      have X_24_c0 := X_24.c0
      have X_24_c1 := X_24.c1
      have X_24_c2 := X_24.c2
      have X_24_c3 := X_24.c3
      have G_24_c0 := G_24.c0
      have G_24_c1 := G_24.c1
      have M_24_c0 := M_24.c0
      have M_24_c1 := M_24.c1
      have M_24_f0 := M_24.f0
      have M_24_f1 := M_24.f1
      have CM_25 := (CM_24.setCell (p := ⟨w20.heap.size, 0, none⟩) (by simp) (.int .i64 4)).setCell (p := ⟨w20.heap.size, 1, none⟩) (by simp) (.int .i64 (-3))
      have Z25 := (Z24.setCell (p := ⟨w20.heap.size, 0, none⟩) (by have := z20.size; simp; omega) (.int .i64 4)).setCell (p := ⟨w20.heap.size, 1, none⟩) (by have := z20.size; simp; omega) (.int .i64 (-3))
      have R_25 := R_b.on CM_25
      have D_25 := D_b.on CM_25
      have B_25 := B_b.on CM_25
      have O_25 := O_b.on CM_25
      have F_25 := F_b.on CM_25
      have X_25 := X_b.on CM_25
      have G_25 := G_b.on CM_25
      have U_25 := own_on U_b CM_25
      have M_25 := (M_24.set0 (.int .i64 4)).set1 (.int .i64 (-3))
      have D_25_c0 := D_25.c0
      have D_25_c1 := D_25.c1
      have D_25_c2 := D_25.c2
      have D_25_c3 := D_25.c3
      have B_25_c0 := B_25.c0
      have B_25_c1 := B_25.c1
      have O_25_c0 := O_25.c0
      have O_25_c1 := O_25.c1
      have O_25_c2 := O_25.c2
      have O_25_c3 := O_25.c3
      have F_25_c0 := F_25.c0
      have F_25_c1 := F_25.c1
      have X_25_c0 := X_25.c0
      have X_25_c1 := X_25.c1
      have X_25_c2 := X_25.c2
      have X_25_c3 := X_25.c3
      have G_25_c0 := G_25.c0
      have G_25_c1 := G_25.c1
      have M_25_c0 := M_25.c0
      have M_25_c1 := M_25.c1
      have M_25_f0 := M_25.f0
      have M_25_f1 := M_25.f1
      go_wp2
      go_ret
      exact ⟨rfl, Z25⟩
set_option maxRecDepth 100000 in
set_option maxHeartbeats 1600000 in
theorem ag_good_big0 {A : Option Addr} {n c : Nat} {lo hi V p : Int} {t : Nat} {l : List Nat} (h01 : Is01 l) (hl : l.length ≤ 131072) (hs : 2 ≤ l.length) (hok : DecOk lo hi V (t : Nat)) (hp1 : 1 ≤ p) (hp2 : p ≤ 4095) (hb : ¬ V ≤ splitOf lo hi p) (hbig : l.length + 14 < t + (stp lo hi 0 p).2.2.length) (w : World) (h : Rd w A n c (bcells (pack l))) :
    Calls Try.prog 9 #[.agg #[.int .i64 lo, .int .i64 hi, .int .i64 V, .int .i64 (t : Nat)], .agg #[.slice A n c, .int .i64 l.length], .int .i64 p] w fun e w' => e = .returned (.bool true) ∧ Below w.heap.size w w' := by
  have HBO := Lib.hid (fun (W : World) (hW : Rd W A n c (bcells (pack l))) => bitsok_any hW (pack_lt h01) (by omega) (by omega) true ⟨fun _ => Ok.of_list h01 hl, fun _ => rfl⟩)
  have HBI := Lib.hid (fun (W : World) (hW : Rd W A n c (bcells (pack l))) => bits_any hW h01 hl (l.length : Nat) rfl)
  have hc6 : decide (l.length < 2) = false := by simp; omega
  have hc7 : decide ((l.length : Int) < 2) = false := by simp; omega
  obtain ⟨VO, hVO⟩ : ∃ VO : Nat, VO = num ((List.range 16).map fun i => l.getD i 0) := ⟨_, rfl⟩
  have HOP := Lib.hid (fun (W : World) (hW : Rd W A n c (bcells (pack l))) => ar_open_ok hW h01 hl hs VO hVO)
  have HNU := Lib.hid (fun (W : World) (A7 : Option Addr) (c7 : Nat) (hW : Rd W A7 16 c7 (ncells ((List.range 16).map fun i => l.getD i 0))) => same_flip (numref_any hW (range01 h01) (by simp)))
  rw [← hVO] at HNU
  have HDO := Lib.hid (fun (W : World) => decoderok_any lo hi V (t : Nat) true ⟨fun _ => hok, fun _ => rfl⟩ W)
  obtain ⟨LO, hLO⟩ : ∃ LO, LO = (stp lo hi 0 p).1 := ⟨_, rfl⟩
  obtain ⟨HI, hHI⟩ : ∃ HI, HI = (stp lo hi 0 p).2.1 := ⟨_, rfl⟩
  obtain ⟨R, hR⟩ : ∃ R, R = (stp lo hi 0 p).2.2 := ⟨_, rfl⟩
  obtain ⟨VV, hVV⟩ : ∃ VV, VV = dv l (stp lo hi 0 p).2.2 V t := ⟨_, rfl⟩
  obtain ⟨TT, hTT⟩ : ∃ TT, TT = t + (stp lo hi 0 p).2.2.length := ⟨_, rfl⟩
  obtain ⟨sp, hsp⟩ : ∃ sp, sp = splitOf lo hi p := ⟨_, rfl⟩
  have hok2 := hok
  obtain ⟨hw, ⟨d1, d2⟩, d3, d4⟩ := hok2
  obtain ⟨e1, e2, e3, e4, e5⟩ := id hw
  obtain ⟨f1, f2, f3, f4⟩ := stp_facts 0 hw hp1 hp2
  have hsb := split_in hw hp1 hp2
  rw [← hsp] at hsb
  have HSP := Lib.hid (fun (W : World) => same_flip (split_any hw hp1 hp2 sp hsp W))
  have HST := Lib.hid (fun (W : World) => steps_any hw hp1 hp2 (b := 0) (by decide) LO HI R hLO hHI hR (0 : Int) rfl W)
  rw [← hsp] at hb
  have hpk : 0 = pickb ⟨lo, hi, V, t⟩ p := by unfold pickb; rw [show splitOf (DS.mk lo hi V t).lo (DS.mk lo hi V t).hi p = sp from hsp.symm]; exact (if_neg hb).symm
  have kb : decide (V ≤ sp) = false := by simpa using hb
  rw [← hR] at hTT hVV f2 f3 hbig
  rw [← hTT] at hbig
  have HGE := Lib.hid (fun (W : World) (hW : Rd W A n c (bcells (pack l))) => get_big hW h01 hl hok hp1 hp2 0 LO HI VV TT hpk hLO hHI (by rw [← hR]; exact hVV) (by rw [← hR]; exact hTT) hbig)
  have kbig : decide ((l.length : Int) + 14 < (t : Int) + (R.length : Int)) = true := by simp; omega
  have HTT := Lib.hid hTT
  have hRl : R.length ≤ 14 := f2
  have ht0 : t ≤ 131100 := by omega
  have HP1 := Lib.hid hp1
  have HP2 := Lib.hid hp2
  have H01 := Lib.hid h01
  clear hs h01 hVO hok hw d1 d2 d3 d4 e1 e2 e3 e4 e5 f1 f3 f4 hb hpk hLO hHI hR hVV hTT hsp hbig hp1 hp2
  obtain ⟨i0, hi0, hz0, hz1, hz2⟩ := info_parts int_info
  have R_0 := ((h).alloc (.cells #[.int .i64 lo, .int .i64 hi, .int .i64 V, .int .i64 (t : Nat)] 62)).alloc (.cells #[.slice A n c, .int .i64 l.length] 25)
  have D_0 := ((Four.new w 62 (.int .i64 lo) (.int .i64 hi) (.int .i64 V) (.int .i64 (t : Nat)))).alloc (.cells #[.slice A n c, .int .i64 l.length] 25)
  have B_0 := (Two.new1 w (.cells #[.int .i64 lo, .int .i64 hi, .int .i64 V, .int .i64 (t : Nat)] 62) 25 (.slice A n c) (.int .i64 l.length))
  have Z0 := ((Below.refl w.heap.size w).alloc (by simp) (.cells #[.int .i64 lo, .int .i64 hi, .int .i64 V, .int .i64 (t : Nat)] 62)).alloc (by simp) (.cells #[.slice A n c, .int .i64 l.length] 25)
  have D_0_c0 := D_0.c0
  have D_0_c1 := D_0.c1
  have D_0_c2 := D_0.c2
  have D_0_c3 := D_0.c3
  have B_0_c0 := B_0.c0
  have B_0_c1 := B_0.c1
  go_enter Try.func9, Try.ntmps9
  go_wp2_with fail
  refine (HOP.out _ R_0).mono ?_
  rintro e w1 ⟨rfl, y1⟩
  have R_1 := ((R_0.on y1).alloc (.cells #[.int .i64 0, .int .i64 65535, .int .i64 (VO : Nat), .int .i64 16] 62)).alloc (.cells #[.int .i64 0, .int .i64 0] 27)
  have D_1 := ((D_0.on y1).alloc (.cells #[.int .i64 0, .int .i64 65535, .int .i64 (VO : Nat), .int .i64 16] 62)).alloc (.cells #[.int .i64 0, .int .i64 0] 27)
  have B_1 := ((B_0.on y1).alloc (.cells #[.int .i64 0, .int .i64 65535, .int .i64 (VO : Nat), .int .i64 16] 62)).alloc (.cells #[.int .i64 0, .int .i64 0] 27)
  have O_1 := ((Four.new w1 62 (.int .i64 0) (.int .i64 65535) (.int .i64 (VO : Nat)) (.int .i64 16))).alloc (.cells #[.int .i64 0, .int .i64 0] 27)
  have F_1 := (Two.new1 w1 (.cells #[.int .i64 0, .int .i64 65535, .int .i64 (VO : Nat), .int .i64 16] 62) 27 (.int .i64 0) (.int .i64 0))
  clear R_0 D_0 D_0_c0 D_0_c1 D_0_c2 D_0_c3 B_0 B_0_c0 B_0_c1
  have z1 := Z0.trans (y1.mono Z0.size)
  have Z1 := ((z1).alloc (by have := z1.size; omega) (.cells #[.int .i64 0, .int .i64 65535, .int .i64 (VO : Nat), .int .i64 16] 62)).alloc (by have := z1.size; simp; omega) (.cells #[.int .i64 0, .int .i64 0] 27)
  have D_1_c0 := D_1.c0
  have D_1_c1 := D_1.c1
  have D_1_c2 := D_1.c2
  have D_1_c3 := D_1.c3
  have B_1_c0 := B_1.c0
  have B_1_c1 := B_1.c1
  have O_1_c0 := O_1.c0
  have O_1_c1 := O_1.c1
  have O_1_c2 := O_1.c2
  have O_1_c3 := O_1.c3
  have F_1_c0 := F_1.c0
  have F_1_c1 := F_1.c1
  go_wp2_with fail
  refine (HGE.out _ R_1).mono ?_
  rintro e w2 ⟨rfl, y2⟩
  have R_2 := ((R_1.on y2).alloc (.cells #[.int .i64 0, .int .i64 0, .int .i64 0, .int .i64 0] 62)).alloc (.cells #[.int .i64 15, .int .i64 (-2)] 27)
  have D_2 := ((D_1.on y2).alloc (.cells #[.int .i64 0, .int .i64 0, .int .i64 0, .int .i64 0] 62)).alloc (.cells #[.int .i64 15, .int .i64 (-2)] 27)
  have B_2 := ((B_1.on y2).alloc (.cells #[.int .i64 0, .int .i64 0, .int .i64 0, .int .i64 0] 62)).alloc (.cells #[.int .i64 15, .int .i64 (-2)] 27)
  have O_2 := ((O_1.on y2).alloc (.cells #[.int .i64 0, .int .i64 0, .int .i64 0, .int .i64 0] 62)).alloc (.cells #[.int .i64 15, .int .i64 (-2)] 27)
  have F_2 := ((F_1.on y2).alloc (.cells #[.int .i64 0, .int .i64 0, .int .i64 0, .int .i64 0] 62)).alloc (.cells #[.int .i64 15, .int .i64 (-2)] 27)
  have X_2 := ((Four.new w2 62 (.int .i64 0) (.int .i64 0) (.int .i64 0) (.int .i64 0))).alloc (.cells #[.int .i64 15, .int .i64 (-2)] 27)
  have G_2 := (Two.new1 w2 (.cells #[.int .i64 0, .int .i64 0, .int .i64 0, .int .i64 0] 62) 27 (.int .i64 15) (.int .i64 (-2)))
  clear R_1 D_1 D_1_c0 D_1_c1 D_1_c2 D_1_c3 B_1 B_1_c0 B_1_c1 O_1 O_1_c0 O_1_c1 O_1_c2 O_1_c3 F_1 F_1_c0 F_1_c1
  have z2 := Z1.trans (y2.mono Z1.size)
  have Z2 := ((z2).alloc (by have := z2.size; omega) (.cells #[.int .i64 0, .int .i64 0, .int .i64 0, .int .i64 0] 62)).alloc (by have := z2.size; simp; omega) (.cells #[.int .i64 15, .int .i64 (-2)] 27)
  have D_2_c0 := D_2.c0
  have D_2_c1 := D_2.c1
  have D_2_c2 := D_2.c2
  have D_2_c3 := D_2.c3
  have B_2_c0 := B_2.c0
  have B_2_c1 := B_2.c1
  have O_2_c0 := O_2.c0
  have O_2_c1 := O_2.c1
  have O_2_c2 := O_2.c2
  have O_2_c3 := O_2.c3
  have F_2_c0 := F_2.c0
  have F_2_c1 := F_2.c1
  have X_2_c0 := X_2.c0
  have X_2_c1 := X_2.c1
  have X_2_c2 := X_2.c2
  have X_2_c3 := X_2.c3
  have G_2_c0 := G_2.c0
  have G_2_c1 := G_2.c1
  go_wp2_with fail
  refine (codes_true _).mono ?_
  rintro e w3 ⟨rfl, y3⟩
  have R_3 := R_2.on y3
  have D_3 := D_2.on y3
  have B_3 := B_2.on y3
  have O_3 := O_2.on y3
  have F_3 := F_2.on y3
  have X_3 := X_2.on y3
  have G_3 := G_2.on y3
  clear R_2 D_2 D_2_c0 D_2_c1 D_2_c2 D_2_c3 B_2 B_2_c0 B_2_c1 O_2 O_2_c0 O_2_c1 O_2_c2 O_2_c3 F_2 F_2_c0 F_2_c1 X_2 X_2_c0 X_2_c1 X_2_c2 X_2_c3 G_2 G_2_c0 G_2_c1
  have z3 := Z2.trans (y3.mono Z2.size)
  have Z3 := z3
  have D_3_c0 := D_3.c0
  have D_3_c1 := D_3.c1
  have D_3_c2 := D_3.c2
  have D_3_c3 := D_3.c3
  have B_3_c0 := B_3.c0
  have B_3_c1 := B_3.c1
  have O_3_c0 := O_3.c0
  have O_3_c1 := O_3.c1
  have O_3_c2 := O_3.c2
  have O_3_c3 := O_3.c3
  have F_3_c0 := F_3.c0
  have F_3_c1 := F_3.c1
  have X_3_c0 := X_3.c0
  have X_3_c1 := X_3.c1
  have X_3_c2 := X_3.c2
  have X_3_c3 := X_3.c3
  have G_3_c0 := G_3.c0
  have G_3_c1 := G_3.c1
  go_wp2_with fail
  refine (HBO.out _ R_3).mono ?_
  rintro e w4 ⟨rfl, y4⟩
  have R_4 := R_3.on y4
  have D_4 := D_3.on y4
  have B_4 := B_3.on y4
  have O_4 := O_3.on y4
  have F_4 := F_3.on y4
  have X_4 := X_3.on y4
  have G_4 := G_3.on y4
  clear R_3 D_3 D_3_c0 D_3_c1 D_3_c2 D_3_c3 B_3 B_3_c0 B_3_c1 O_3 O_3_c0 O_3_c1 O_3_c2 O_3_c3 F_3 F_3_c0 F_3_c1 X_3 X_3_c0 X_3_c1 X_3_c2 X_3_c3 G_3 G_3_c0 G_3_c1
  have z4 := Z3.trans (y4.mono Z3.size)
  have Z4 := z4
  have D_4_c0 := D_4.c0
  have D_4_c1 := D_4.c1
  have D_4_c2 := D_4.c2
  have D_4_c3 := D_4.c3
  have B_4_c0 := B_4.c0
  have B_4_c1 := B_4.c1
  have O_4_c0 := O_4.c0
  have O_4_c1 := O_4.c1
  have O_4_c2 := O_4.c2
  have O_4_c3 := O_4.c3
  have F_4_c0 := F_4.c0
  have F_4_c1 := F_4.c1
  have X_4_c0 := X_4.c0
  have X_4_c1 := X_4.c1
  have X_4_c2 := X_4.c2
  have X_4_c3 := X_4.c3
  have G_4_c0 := G_4.c0
  have G_4_c1 := G_4.c1
  go_wp2_with fail
  refine (HBI.out _ R_4).mono ?_
  rintro e w6 ⟨A6, c6, rfl, o6, y6⟩
  have hs6 := y6.size
  go_wp2_with fail
  go_loopw [13, 14] (fun lv i wr => ∃ (j : Nat) (P2 : Option Addr) (p3 : Nat), j ≤ 32 ∧ i = .int .i64 (j : Nat) ∧ lv = .slice P2 (l.length + j) p3 ∧ Below w4.heap.size w4 wr ∧ w4.heap.size ≤ wr.heap.size ∧ wr.ownsRow w4.heap.size 3 1 (.slice P2 (l.length + j) p3) (l.length + j) (zl l j)) (fun _ i _ => 32 - (intOf i).toNat)
  case atStart => exact ⟨0, A6, c6, Nat.zero_le _, rfl, rfl, y6, hs6, by rw [zl_zero]; exact o6⟩
  case round =>
    obtain ⟨j, P2, p3, hj, rfl, rfl, yr, hsz, oP⟩ := hrel
    have HP := Lib.hid oP
    clear oP
    by_cases hlt : j < 32
    · have HPC := Lib.hid (zl_succ l j)
      have i1 : (0 : Int) ≤ (j : Int) := by omega
      have i2 : decide ((j : Int) < 32) = true := by simp; omega
      have i3 : decide (j < 32) = true := by simp; omega
      go_wp2_with (at_builtin; refine wpList_app1 _ rfl _ _ _ rfl w4.heap.size 3 i0 _ 8 Try.underlying34 hi0 hz0 hz1 hz2 rfl _ _ _ rfl HP.out (.int .i64 0) rfl rfl ?g1 ?g2 hsz ?_)
      case g1 => unfold maxLen; omega
      case g2 => omega
      intro A14 c14 w14 o14 g14
      have Y14 := below_grown yr HP.out g14 (Nat.le_refl _) hsz
      rw [← HPC.out] at o14
      have HP14 := Lib.hid o14
      have hs14 : w4.heap.size ≤ w14.heap.size := Y14.size
      clear o14 g14
      go_wp2_with fail
      go_roundw
      case rel => exact ⟨j + 1, A14, c14, by omega, by go_num, rfl, Y14, hs14, HP14.out⟩
      case measure => simp [intOf] <;> omega
    · obtain rfl : j = 32 := by omega
      obtain ⟨w20, hw20⟩ : ∃ w20, w20 = wr := ⟨_, rfl⟩
      rw [← hw20] at yr hsz HP ⊢
      clear hw20 wr
      have U_20 := HP.out
      clear HP
      have R_20 := R_4.on yr
      have D_20 := D_4.on yr
      have B_20 := B_4.on yr
      have O_20 := O_4.on yr
      have F_20 := F_4.on yr
      have X_20 := X_4.on yr
      have G_20 := G_4.on yr
      have Z20 := Z4.trans (yr.mono Z4.size)
      clear R_4 D_4 D_4_c0 D_4_c1 D_4_c2 D_4_c3 B_4 B_4_c0 B_4_c1 O_4 O_4_c0 O_4_c1 O_4_c2 O_4_c3 F_4 F_4_c0 F_4_c1 X_4 X_4_c0 X_4_c1 X_4_c2 X_4_c3 G_4 G_4_c0 G_4_c1
      have D_20_c0 := D_20.c0
      have D_20_c1 := D_20.c1
      have D_20_c2 := D_20.c2
      have D_20_c3 := D_20.c3
      have B_20_c0 := B_20.c0
      have B_20_c1 := B_20.c1
      have O_20_c0 := O_20.c0
      have O_20_c1 := O_20.c1
      have O_20_c2 := O_20.c2
      have O_20_c3 := O_20.c3
      have F_20_c0 := F_20.c0
      have F_20_c1 := F_20.c1
      have X_20_c0 := X_20.c0
      have X_20_c1 := X_20.c1
      have X_20_c2 := X_20.c2
      have X_20_c3 := X_20.c3
      have G_20_c0 := G_20.c0
      have G_20_c1 := G_20.c1
      have hu : 32 ≤ p3 := by have := Reads.cap (Rd.own U_20); omega
      have hu2 := Reads.capMax (Rd.own U_20)
      unfold maxLen at hu2
      have z20 := Z20
      have R_b := R_20
      have R_20q := R_20.alloc (.cells #[.int .i64 0, .int .i64 0] 27)
      have D_b := D_20
      have D_20q := D_20.alloc (.cells #[.int .i64 0, .int .i64 0] 27)
      have B_b := B_20
      have B_20q := B_20.alloc (.cells #[.int .i64 0, .int .i64 0] 27)
      have O_b := O_20
      have O_20q := O_20.alloc (.cells #[.int .i64 0, .int .i64 0] 27)
      have F_b := F_20
      have F_20q := F_20.alloc (.cells #[.int .i64 0, .int .i64 0] 27)
      have X_b := X_20
      have X_20q := X_20.alloc (.cells #[.int .i64 0, .int .i64 0] 27)
      have G_b := G_20
      have G_20q := G_20.alloc (.cells #[.int .i64 0, .int .i64 0] 27)
      have U_b := U_20
      have U_20q := (own_on U_20 ((Below.refl _ _).alloc (Nat.le_refl _) (.cells #[.int .i64 0, .int .i64 0] 27)))
      have M_20q := Two.new w20 27 (.int .i64 0) (.int .i64 0)
      have CM_20q := (Below.refl w20.heap.size w20).alloc (Nat.le_refl _) (.cells #[.int .i64 0, .int .i64 0] 27)
      have Z20q := Z20.alloc Z20.size (.cells #[.int .i64 0, .int .i64 0] 27)
      clear R_20 D_20 D_20_c0 D_20_c1 D_20_c2 D_20_c3 B_20 B_20_c0 B_20_c1 O_20 O_20_c0 O_20_c1 O_20_c2 O_20_c3 F_20 F_20_c0 F_20_c1 X_20 X_20_c0 X_20_c1 X_20_c2 X_20_c3 G_20 G_20_c0 G_20_c1 U_20
      have D_20q_c0 := D_20q.c0
      have D_20q_c1 := D_20q.c1
      have D_20q_c2 := D_20q.c2
      have D_20q_c3 := D_20q.c3
      have B_20q_c0 := B_20q.c0
      have B_20q_c1 := B_20q.c1
      have O_20q_c0 := O_20q.c0
      have O_20q_c1 := O_20q.c1
      have O_20q_c2 := O_20q.c2
      have O_20q_c3 := O_20q.c3
      have F_20q_c0 := F_20q.c0
      have F_20q_c1 := F_20q.c1
      have X_20q_c0 := X_20q.c0
      have X_20q_c1 := X_20q.c1
      have X_20q_c2 := X_20q.c2
      have X_20q_c3 := X_20q.c3
      have G_20q_c0 := G_20q.c0
      have G_20q_c1 := G_20q.c1
      have M_20q_c0 := M_20q.c0
      have M_20q_c1 := M_20q.c1
      have M_20q_f0 := M_20q.f0
      have M_20q_f1 := M_20q.f1
      go_wp2_with fail
      go_quiet ((go_at_call 33; exact Calls.quiet_of_same (HNU.out _ _ _ (pre16 (own_drewN U_20q _)))))
      have R_21 := Rd.drewN R_20q nq
      have D_21 := Four.drewN D_20q nq
      have B_21 := Two.drewN B_20q nq
      have O_21 := Four.drewN O_20q nq
      have F_21 := Two.drewN F_20q nq
      have X_21 := Four.drewN X_20q nq
      have G_21 := Two.drewN G_20q nq
      have U_21 := own_drewN U_20q nq
      have M_21 := Two.drewN M_20q nq
      have Z21 := belowN Z20q nq
      have CM_21 := belowN CM_20q nq
      clear R_20q D_20q D_20q_c0 D_20q_c1 D_20q_c2 D_20q_c3 B_20q B_20q_c0 B_20q_c1 O_20q O_20q_c0 O_20q_c1 O_20q_c2 O_20q_c3 F_20q F_20q_c0 F_20q_c1 X_20q X_20q_c0 X_20q_c1 X_20q_c2 X_20q_c3 G_20q G_20q_c0 G_20q_c1 U_20q M_20q M_20q_c0 M_20q_c1 M_20q_f0 M_20q_f1
      obtain ⟨w21, hw21⟩ : ∃ w21, w21 = (w20.alloc (.cells #[.int .i64 0, .int .i64 0] 27)).drewN nq := ⟨_, rfl⟩
      rw [← hw21] at R_21 D_21 B_21 O_21 F_21 X_21 G_21 U_21 M_21 Z21 CM_21
      rw [← hw21]
      clear hw21
      have D_21_c0 := D_21.c0
      have D_21_c1 := D_21.c1
      have D_21_c2 := D_21.c2
      have D_21_c3 := D_21.c3
      have B_21_c0 := B_21.c0
      have B_21_c1 := B_21.c1
      have O_21_c0 := O_21.c0
      have O_21_c1 := O_21.c1
      have O_21_c2 := O_21.c2
      have O_21_c3 := O_21.c3
      have F_21_c0 := F_21.c0
      have F_21_c1 := F_21.c1
      have X_21_c0 := X_21.c0
      have X_21_c1 := X_21.c1
      have X_21_c2 := X_21.c2
      have X_21_c3 := X_21.c3
      have G_21_c0 := G_21.c0
      have G_21_c1 := G_21.c1
      have M_21_c0 := M_21.c0
      have M_21_c1 := M_21.c1
      have M_21_f0 := M_21.f0
      have M_21_f1 := M_21.f1
      have CM_22 := (CM_21.setCell (p := ⟨w20.heap.size, 0, none⟩) (by simp) (.int .i64 0)).setCell (p := ⟨w20.heap.size, 1, none⟩) (by simp) (.int .i64 0)
      have Z22 := (Z21.setCell (p := ⟨w20.heap.size, 0, none⟩) (by have := z20.size; simp; omega) (.int .i64 0)).setCell (p := ⟨w20.heap.size, 1, none⟩) (by have := z20.size; simp; omega) (.int .i64 0)
      have R_22 := R_b.on CM_22
      have D_22 := D_b.on CM_22
      have B_22 := B_b.on CM_22
      have O_22 := O_b.on CM_22
      have F_22 := F_b.on CM_22
      have X_22 := X_b.on CM_22
      have G_22 := G_b.on CM_22
      have U_22 := own_on U_b CM_22
      have M_22 := (M_21.set0 (.int .i64 0)).set1 (.int .i64 0)
      have D_22_c0 := D_22.c0
      have D_22_c1 := D_22.c1
      have D_22_c2 := D_22.c2
      have D_22_c3 := D_22.c3
      have B_22_c0 := B_22.c0
      have B_22_c1 := B_22.c1
      have O_22_c0 := O_22.c0
      have O_22_c1 := O_22.c1
      have O_22_c2 := O_22.c2
      have O_22_c3 := O_22.c3
      have F_22_c0 := F_22.c0
      have F_22_c1 := F_22.c1
      have X_22_c0 := X_22.c0
      have X_22_c1 := X_22.c1
      have X_22_c2 := X_22.c2
      have X_22_c3 := X_22.c3
      have G_22_c0 := G_22.c0
      have G_22_c1 := G_22.c1
      have M_22_c0 := M_22.c0
      have M_22_c1 := M_22.c1
      have M_22_f0 := M_22.f0
      have M_22_f1 := M_22.f1
      go_wp2_with fail
      refine (HDO.out _).mono ?_
      rintro e w23 ⟨rfl, y23⟩
      have R_23 := R_22.on y23
      have D_23 := D_22.on y23
      have B_23 := B_22.on y23
      have O_23 := O_22.on y23
      have F_23 := F_22.on y23
      have X_23 := X_22.on y23
      have G_23 := G_22.on y23
      have U_23 := own_on U_22 y23
      have M_23 := M_22.on y23
      clear R_21 D_21 D_21_c0 D_21_c1 D_21_c2 D_21_c3 B_21 B_21_c0 B_21_c1 O_21 O_21_c0 O_21_c1 O_21_c2 O_21_c3 F_21 F_21_c0 F_21_c1 X_21 X_21_c0 X_21_c1 X_21_c2 X_21_c3 G_21 G_21_c0 G_21_c1 U_21 M_21 M_21_c0 M_21_c1 M_21_f0 M_21_f1 R_22 D_22 D_22_c0 D_22_c1 D_22_c2 D_22_c3 B_22 B_22_c0 B_22_c1 O_22 O_22_c0 O_22_c1 O_22_c2 O_22_c3 F_22 F_22_c0 F_22_c1 X_22 X_22_c0 X_22_c1 X_22_c2 X_22_c3 G_22 G_22_c0 G_22_c1 U_22 M_22 M_22_c0 M_22_c1 M_22_f0 M_22_f1
      have z23 := Z22.trans (y23.mono Z22.size)
      have Z23 := z23
      have cM23 := CM_22.trans (y23.mono CM_22.size)
      have CM_23 := cM23
      have D_23_c0 := D_23.c0
      have D_23_c1 := D_23.c1
      have D_23_c2 := D_23.c2
      have D_23_c3 := D_23.c3
      have B_23_c0 := B_23.c0
      have B_23_c1 := B_23.c1
      have O_23_c0 := O_23.c0
      have O_23_c1 := O_23.c1
      have O_23_c2 := O_23.c2
      have O_23_c3 := O_23.c3
      have F_23_c0 := F_23.c0
      have F_23_c1 := F_23.c1
      have X_23_c0 := X_23.c0
      have X_23_c1 := X_23.c1
      have X_23_c2 := X_23.c2
      have X_23_c3 := X_23.c3
      have G_23_c0 := G_23.c0
      have G_23_c1 := G_23.c1
      have M_23_c0 := M_23.c0
      have M_23_c1 := M_23.c1
      have M_23_f0 := M_23.f0
      have M_23_f1 := M_23.f1
      go_wp2_with fail
      refine (in_yes _ _ _ _ HP1.out HP2.out).mono ?_
      rintro e w9_1 ⟨rfl, rfl⟩
      go_wp2_with fail
      go_quiet ((go_at_call 35; exact Calls.quiet_of_same (HSP.out _)))
      have R_24 := Rd.drewN R_23 nq
      have D_24 := Four.drewN D_23 nq
      have B_24 := Two.drewN B_23 nq
      have O_24 := Four.drewN O_23 nq
      have F_24 := Two.drewN F_23 nq
      have X_24 := Four.drewN X_23 nq
      have G_24 := Two.drewN G_23 nq
      have U_24 := own_drewN U_23 nq
      have M_24 := Two.drewN M_23 nq
      have Z24 := belowN Z23 nq
      have CM_24 := belowN CM_23 nq
      clear R_23 D_23 D_23_c0 D_23_c1 D_23_c2 D_23_c3 B_23 B_23_c0 B_23_c1 O_23 O_23_c0 O_23_c1 O_23_c2 O_23_c3 F_23 F_23_c0 F_23_c1 X_23 X_23_c0 X_23_c1 X_23_c2 X_23_c3 G_23 G_23_c0 G_23_c1 U_23 M_23 M_23_c0 M_23_c1 M_23_f0 M_23_f1
      obtain ⟨w24, hw24⟩ : ∃ w24, w24 = w23.drewN nq := ⟨_, rfl⟩
      rw [← hw24] at R_24 D_24 B_24 O_24 F_24 X_24 G_24 U_24 M_24 Z24 CM_24
      rw [← hw24]
      clear hw24
      have D_24_c0 := D_24.c0
      have D_24_c1 := D_24.c1
      have D_24_c2 := D_24.c2
      have D_24_c3 := D_24.c3
      have B_24_c0 := B_24.c0
      have B_24_c1 := B_24.c1
      have O_24_c0 := O_24.c0
      have O_24_c1 := O_24.c1
      have O_24_c2 := O_24.c2
      have O_24_c3 := O_24.c3
      have F_24_c0 := F_24.c0
      have F_24_c1 := F_24.c1
      have X_24_c0 := X_24.c0
      have X_24_c1 := X_24.c1
      have X_24_c2 := X_24.c2
      have X_24_c3 := X_24.c3
      have G_24_c0 := G_24.c0
      have G_24_c1 := G_24.c1
      have M_24_c0 := M_24.c0
      have M_24_c1 := M_24.c1
      have M_24_f0 := M_24.f0
      have M_24_f1 := M_24.f1
      go_wp2_with fail
      refine (HST.out _).mono ?_
      rintro e w25 ⟨A15, n15, c15, rfl, hn15, o15, y25⟩
      have R_25 := R_24.on y25
      have D_25 := D_24.on y25
      have B_25 := B_24.on y25
      have O_25 := O_24.on y25
      have F_25 := F_24.on y25
      have X_25 := X_24.on y25
      have G_25 := G_24.on y25
      have U_25 := own_on U_24 y25
      have M_25 := M_24.on y25
      have T_25 := o15
      clear R_24 D_24 D_24_c0 D_24_c1 D_24_c2 D_24_c3 B_24 B_24_c0 B_24_c1 O_24 O_24_c0 O_24_c1 O_24_c2 O_24_c3 F_24 F_24_c0 F_24_c1 X_24 X_24_c0 X_24_c1 X_24_c2 X_24_c3 G_24 G_24_c0 G_24_c1 U_24 M_24 M_24_c0 M_24_c1 M_24_f0 M_24_f1
      have z25 := Z24.trans (y25.mono Z24.size)
      have Z25 := z25
      have cM25 := CM_24.trans (y25.mono CM_24.size)
      have CM_25 := cM25
      have D_25_c0 := D_25.c0
      have D_25_c1 := D_25.c1
      have D_25_c2 := D_25.c2
      have D_25_c3 := D_25.c3
      have B_25_c0 := B_25.c0
      have B_25_c1 := B_25.c1
      have O_25_c0 := O_25.c0
      have O_25_c1 := O_25.c1
      have O_25_c2 := O_25.c2
      have O_25_c3 := O_25.c3
      have F_25_c0 := F_25.c0
      have F_25_c1 := F_25.c1
      have X_25_c0 := X_25.c0
      have X_25_c1 := X_25.c1
      have X_25_c2 := X_25.c2
      have X_25_c3 := X_25.c3
      have G_25_c0 := G_25.c0
      have G_25_c1 := G_25.c1
      have M_25_c0 := M_25.c0
      have M_25_c1 := M_25.c1
      have M_25_f0 := M_25.f0
      have M_25_f1 := M_25.f1
      subst hn15
      go_wp2_with fail
      go_region_held3 (fun w' => w'.cell? ⟨w2.heap.size + 1, 0, none⟩ = some (.int .i64 15) ∧ w'.cell? ⟨w2.heap.size + 1, 1, none⟩ = some (.int .i64 (-2)) ∧ w'.cell? ⟨w2.heap.size, 0, none⟩ = some (.int .i64 0) ∧ w'.cell? ⟨w2.heap.size, 1, none⟩ = some (.int .i64 0) ∧ w'.cell? ⟨w2.heap.size, 2, none⟩ = some (.int .i64 0) ∧ w'.cell? ⟨w2.heap.size, 3, none⟩ = some (.int .i64 0)) (go_keep) ((go_at_call 19; refine (refat_any _ _ _).mono ?_; rintro e w26 ⟨rfl, y26⟩; have Y26 : Below w25.heap.size w25.drew w26 := y26; have G_26_c0 := ((Two.on (w := w25.drew) G_25 Y26)).c0; have G_26_c1 := ((Two.on (w := w25.drew) G_25 Y26)).c1; have X_26_c0 := ((Four.on (w := w25.drew) X_25 Y26)).c0; have X_26_c1 := ((Four.on (w := w25.drew) X_25 Y26)).c1; have X_26_c2 := ((Four.on (w := w25.drew) X_25 Y26)).c2; have X_26_c3 := ((Four.on (w := w25.drew) X_25 Y26)).c3))
      have R_26 := (Rd.on (w := w25.drew) R_25 Y26)
      have D_26 := (Four.on (w := w25.drew) D_25 Y26)
      have B_26 := (Two.on (w := w25.drew) B_25 Y26)
      have O_26 := (Four.on (w := w25.drew) O_25 Y26)
      have F_26 := (Two.on (w := w25.drew) F_25 Y26)
      have X_26 := (Four.on (w := w25.drew) X_25 Y26)
      have G_26 := (Two.on (w := w25.drew) G_25 Y26)
      have U_26 := (own_on (w := w25.drew) U_25 Y26)
      have M_26 := (Two.on (w := w25.drew) M_25 Y26)
      have T_26 := (own_on (w := w25.drew) T_25 Y26)
      have Z26 := (belowD Z25).trans (Y26.mono (belowD Z25).size)
      have CM_26 := (belowD CM_25).trans (Y26.mono (belowD CM_25).size)
      clear G_26_c0 G_26_c1 X_26_c0 X_26_c1 X_26_c2 X_26_c3
      clear R_25 D_25 D_25_c0 D_25_c1 D_25_c2 D_25_c3 B_25 B_25_c0 B_25_c1 O_25 O_25_c0 O_25_c1 O_25_c2 O_25_c3 F_25 F_25_c0 F_25_c1 X_25 X_25_c0 X_25_c1 X_25_c2 X_25_c3 G_25 G_25_c0 G_25_c1 U_25 M_25 M_25_c0 M_25_c1 M_25_f0 M_25_f1 T_25
      have D_26_c0 := D_26.c0
      have D_26_c1 := D_26.c1
      have D_26_c2 := D_26.c2
      have D_26_c3 := D_26.c3
      have B_26_c0 := B_26.c0
      have B_26_c1 := B_26.c1
      have O_26_c0 := O_26.c0
      have O_26_c1 := O_26.c1
      have O_26_c2 := O_26.c2
      have O_26_c3 := O_26.c3
      have F_26_c0 := F_26.c0
      have F_26_c1 := F_26.c1
      have X_26_c0 := X_26.c0
      have X_26_c1 := X_26.c1
      have X_26_c2 := X_26.c2
      have X_26_c3 := X_26.c3
      have G_26_c0 := G_26.c0
      have G_26_c1 := G_26.c1
      have M_26_c0 := M_26.c0
      have M_26_c1 := M_26.c1
      have M_26_f0 := M_26.f0
      have M_26_f1 := M_26.f1
      go_wp2
      go_ret
      exact ⟨rfl, Z26⟩
set_option maxRecDepth 100000 in
set_option maxHeartbeats 1600000 in
theorem ag_good_big1 {A : Option Addr} {n c : Nat} {lo hi V p : Int} {t : Nat} {l : List Nat} (h01 : Is01 l) (hl : l.length ≤ 131072) (hs : 2 ≤ l.length) (hok : DecOk lo hi V (t : Nat)) (hp1 : 1 ≤ p) (hp2 : p ≤ 4095) (hb : V ≤ splitOf lo hi p) (hbig : l.length + 14 < t + (stp lo hi 1 p).2.2.length) (w : World) (h : Rd w A n c (bcells (pack l))) :
    Calls Try.prog 9 #[.agg #[.int .i64 lo, .int .i64 hi, .int .i64 V, .int .i64 (t : Nat)], .agg #[.slice A n c, .int .i64 l.length], .int .i64 p] w fun e w' => e = .returned (.bool true) ∧ Below w.heap.size w w' := by
  have HBO := Lib.hid (fun (W : World) (hW : Rd W A n c (bcells (pack l))) => bitsok_any hW (pack_lt h01) (by omega) (by omega) true ⟨fun _ => Ok.of_list h01 hl, fun _ => rfl⟩)
  have HBI := Lib.hid (fun (W : World) (hW : Rd W A n c (bcells (pack l))) => bits_any hW h01 hl (l.length : Nat) rfl)
  have hc6 : decide (l.length < 2) = false := by simp; omega
  have hc7 : decide ((l.length : Int) < 2) = false := by simp; omega
  obtain ⟨VO, hVO⟩ : ∃ VO : Nat, VO = num ((List.range 16).map fun i => l.getD i 0) := ⟨_, rfl⟩
  have HOP := Lib.hid (fun (W : World) (hW : Rd W A n c (bcells (pack l))) => ar_open_ok hW h01 hl hs VO hVO)
  have HNU := Lib.hid (fun (W : World) (A7 : Option Addr) (c7 : Nat) (hW : Rd W A7 16 c7 (ncells ((List.range 16).map fun i => l.getD i 0))) => same_flip (numref_any hW (range01 h01) (by simp)))
  rw [← hVO] at HNU
  have HDO := Lib.hid (fun (W : World) => decoderok_any lo hi V (t : Nat) true ⟨fun _ => hok, fun _ => rfl⟩ W)
  obtain ⟨LO, hLO⟩ : ∃ LO, LO = (stp lo hi 1 p).1 := ⟨_, rfl⟩
  obtain ⟨HI, hHI⟩ : ∃ HI, HI = (stp lo hi 1 p).2.1 := ⟨_, rfl⟩
  obtain ⟨R, hR⟩ : ∃ R, R = (stp lo hi 1 p).2.2 := ⟨_, rfl⟩
  obtain ⟨VV, hVV⟩ : ∃ VV, VV = dv l (stp lo hi 1 p).2.2 V t := ⟨_, rfl⟩
  obtain ⟨TT, hTT⟩ : ∃ TT, TT = t + (stp lo hi 1 p).2.2.length := ⟨_, rfl⟩
  obtain ⟨sp, hsp⟩ : ∃ sp, sp = splitOf lo hi p := ⟨_, rfl⟩
  have hok2 := hok
  obtain ⟨hw, ⟨d1, d2⟩, d3, d4⟩ := hok2
  obtain ⟨e1, e2, e3, e4, e5⟩ := id hw
  obtain ⟨f1, f2, f3, f4⟩ := stp_facts 1 hw hp1 hp2
  have hsb := split_in hw hp1 hp2
  rw [← hsp] at hsb
  have HSP := Lib.hid (fun (W : World) => same_flip (split_any hw hp1 hp2 sp hsp W))
  have HST := Lib.hid (fun (W : World) => steps_any hw hp1 hp2 (b := 1) (by decide) LO HI R hLO hHI hR (1 : Int) rfl W)
  rw [← hsp] at hb
  have hpk : 1 = pickb ⟨lo, hi, V, t⟩ p := by unfold pickb; rw [show splitOf (DS.mk lo hi V t).lo (DS.mk lo hi V t).hi p = sp from hsp.symm]; exact (if_pos hb).symm
  have kb : decide (V ≤ sp) = true := by simpa using hb
  rw [← hR] at hTT hVV f2 f3 hbig
  rw [← hTT] at hbig
  have HGE := Lib.hid (fun (W : World) (hW : Rd W A n c (bcells (pack l))) => get_big hW h01 hl hok hp1 hp2 1 LO HI VV TT hpk hLO hHI (by rw [← hR]; exact hVV) (by rw [← hR]; exact hTT) hbig)
  have kbig : decide ((l.length : Int) + 14 < (t : Int) + (R.length : Int)) = true := by simp; omega
  have HTT := Lib.hid hTT
  have hRl : R.length ≤ 14 := f2
  have ht0 : t ≤ 131100 := by omega
  have HP1 := Lib.hid hp1
  have HP2 := Lib.hid hp2
  have H01 := Lib.hid h01
  clear hs h01 hVO hok hw d1 d2 d3 d4 e1 e2 e3 e4 e5 f1 f3 f4 hb hpk hLO hHI hR hVV hTT hsp hbig hp1 hp2
  obtain ⟨i0, hi0, hz0, hz1, hz2⟩ := info_parts int_info
  have R_0 := ((h).alloc (.cells #[.int .i64 lo, .int .i64 hi, .int .i64 V, .int .i64 (t : Nat)] 62)).alloc (.cells #[.slice A n c, .int .i64 l.length] 25)
  have D_0 := ((Four.new w 62 (.int .i64 lo) (.int .i64 hi) (.int .i64 V) (.int .i64 (t : Nat)))).alloc (.cells #[.slice A n c, .int .i64 l.length] 25)
  have B_0 := (Two.new1 w (.cells #[.int .i64 lo, .int .i64 hi, .int .i64 V, .int .i64 (t : Nat)] 62) 25 (.slice A n c) (.int .i64 l.length))
  have Z0 := ((Below.refl w.heap.size w).alloc (by simp) (.cells #[.int .i64 lo, .int .i64 hi, .int .i64 V, .int .i64 (t : Nat)] 62)).alloc (by simp) (.cells #[.slice A n c, .int .i64 l.length] 25)
  have D_0_c0 := D_0.c0
  have D_0_c1 := D_0.c1
  have D_0_c2 := D_0.c2
  have D_0_c3 := D_0.c3
  have B_0_c0 := B_0.c0
  have B_0_c1 := B_0.c1
  go_enter Try.func9, Try.ntmps9
  go_wp2_with fail
  refine (HOP.out _ R_0).mono ?_
  rintro e w1 ⟨rfl, y1⟩
  have R_1 := ((R_0.on y1).alloc (.cells #[.int .i64 0, .int .i64 65535, .int .i64 (VO : Nat), .int .i64 16] 62)).alloc (.cells #[.int .i64 0, .int .i64 0] 27)
  have D_1 := ((D_0.on y1).alloc (.cells #[.int .i64 0, .int .i64 65535, .int .i64 (VO : Nat), .int .i64 16] 62)).alloc (.cells #[.int .i64 0, .int .i64 0] 27)
  have B_1 := ((B_0.on y1).alloc (.cells #[.int .i64 0, .int .i64 65535, .int .i64 (VO : Nat), .int .i64 16] 62)).alloc (.cells #[.int .i64 0, .int .i64 0] 27)
  have O_1 := ((Four.new w1 62 (.int .i64 0) (.int .i64 65535) (.int .i64 (VO : Nat)) (.int .i64 16))).alloc (.cells #[.int .i64 0, .int .i64 0] 27)
  have F_1 := (Two.new1 w1 (.cells #[.int .i64 0, .int .i64 65535, .int .i64 (VO : Nat), .int .i64 16] 62) 27 (.int .i64 0) (.int .i64 0))
  clear R_0 D_0 D_0_c0 D_0_c1 D_0_c2 D_0_c3 B_0 B_0_c0 B_0_c1
  have z1 := Z0.trans (y1.mono Z0.size)
  have Z1 := ((z1).alloc (by have := z1.size; omega) (.cells #[.int .i64 0, .int .i64 65535, .int .i64 (VO : Nat), .int .i64 16] 62)).alloc (by have := z1.size; simp; omega) (.cells #[.int .i64 0, .int .i64 0] 27)
  have D_1_c0 := D_1.c0
  have D_1_c1 := D_1.c1
  have D_1_c2 := D_1.c2
  have D_1_c3 := D_1.c3
  have B_1_c0 := B_1.c0
  have B_1_c1 := B_1.c1
  have O_1_c0 := O_1.c0
  have O_1_c1 := O_1.c1
  have O_1_c2 := O_1.c2
  have O_1_c3 := O_1.c3
  have F_1_c0 := F_1.c0
  have F_1_c1 := F_1.c1
  go_wp2_with fail
  refine (HGE.out _ R_1).mono ?_
  rintro e w2 ⟨rfl, y2⟩
  have R_2 := ((R_1.on y2).alloc (.cells #[.int .i64 0, .int .i64 0, .int .i64 0, .int .i64 0] 62)).alloc (.cells #[.int .i64 15, .int .i64 (-2)] 27)
  have D_2 := ((D_1.on y2).alloc (.cells #[.int .i64 0, .int .i64 0, .int .i64 0, .int .i64 0] 62)).alloc (.cells #[.int .i64 15, .int .i64 (-2)] 27)
  have B_2 := ((B_1.on y2).alloc (.cells #[.int .i64 0, .int .i64 0, .int .i64 0, .int .i64 0] 62)).alloc (.cells #[.int .i64 15, .int .i64 (-2)] 27)
  have O_2 := ((O_1.on y2).alloc (.cells #[.int .i64 0, .int .i64 0, .int .i64 0, .int .i64 0] 62)).alloc (.cells #[.int .i64 15, .int .i64 (-2)] 27)
  have F_2 := ((F_1.on y2).alloc (.cells #[.int .i64 0, .int .i64 0, .int .i64 0, .int .i64 0] 62)).alloc (.cells #[.int .i64 15, .int .i64 (-2)] 27)
  have X_2 := ((Four.new w2 62 (.int .i64 0) (.int .i64 0) (.int .i64 0) (.int .i64 0))).alloc (.cells #[.int .i64 15, .int .i64 (-2)] 27)
  have G_2 := (Two.new1 w2 (.cells #[.int .i64 0, .int .i64 0, .int .i64 0, .int .i64 0] 62) 27 (.int .i64 15) (.int .i64 (-2)))
  clear R_1 D_1 D_1_c0 D_1_c1 D_1_c2 D_1_c3 B_1 B_1_c0 B_1_c1 O_1 O_1_c0 O_1_c1 O_1_c2 O_1_c3 F_1 F_1_c0 F_1_c1
  have z2 := Z1.trans (y2.mono Z1.size)
  have Z2 := ((z2).alloc (by have := z2.size; omega) (.cells #[.int .i64 0, .int .i64 0, .int .i64 0, .int .i64 0] 62)).alloc (by have := z2.size; simp; omega) (.cells #[.int .i64 15, .int .i64 (-2)] 27)
  have D_2_c0 := D_2.c0
  have D_2_c1 := D_2.c1
  have D_2_c2 := D_2.c2
  have D_2_c3 := D_2.c3
  have B_2_c0 := B_2.c0
  have B_2_c1 := B_2.c1
  have O_2_c0 := O_2.c0
  have O_2_c1 := O_2.c1
  have O_2_c2 := O_2.c2
  have O_2_c3 := O_2.c3
  have F_2_c0 := F_2.c0
  have F_2_c1 := F_2.c1
  have X_2_c0 := X_2.c0
  have X_2_c1 := X_2.c1
  have X_2_c2 := X_2.c2
  have X_2_c3 := X_2.c3
  have G_2_c0 := G_2.c0
  have G_2_c1 := G_2.c1
  go_wp2_with fail
  refine (codes_true _).mono ?_
  rintro e w3 ⟨rfl, y3⟩
  have R_3 := R_2.on y3
  have D_3 := D_2.on y3
  have B_3 := B_2.on y3
  have O_3 := O_2.on y3
  have F_3 := F_2.on y3
  have X_3 := X_2.on y3
  have G_3 := G_2.on y3
  clear R_2 D_2 D_2_c0 D_2_c1 D_2_c2 D_2_c3 B_2 B_2_c0 B_2_c1 O_2 O_2_c0 O_2_c1 O_2_c2 O_2_c3 F_2 F_2_c0 F_2_c1 X_2 X_2_c0 X_2_c1 X_2_c2 X_2_c3 G_2 G_2_c0 G_2_c1
  have z3 := Z2.trans (y3.mono Z2.size)
  have Z3 := z3
  have D_3_c0 := D_3.c0
  have D_3_c1 := D_3.c1
  have D_3_c2 := D_3.c2
  have D_3_c3 := D_3.c3
  have B_3_c0 := B_3.c0
  have B_3_c1 := B_3.c1
  have O_3_c0 := O_3.c0
  have O_3_c1 := O_3.c1
  have O_3_c2 := O_3.c2
  have O_3_c3 := O_3.c3
  have F_3_c0 := F_3.c0
  have F_3_c1 := F_3.c1
  have X_3_c0 := X_3.c0
  have X_3_c1 := X_3.c1
  have X_3_c2 := X_3.c2
  have X_3_c3 := X_3.c3
  have G_3_c0 := G_3.c0
  have G_3_c1 := G_3.c1
  go_wp2_with fail
  refine (HBO.out _ R_3).mono ?_
  rintro e w4 ⟨rfl, y4⟩
  have R_4 := R_3.on y4
  have D_4 := D_3.on y4
  have B_4 := B_3.on y4
  have O_4 := O_3.on y4
  have F_4 := F_3.on y4
  have X_4 := X_3.on y4
  have G_4 := G_3.on y4
  clear R_3 D_3 D_3_c0 D_3_c1 D_3_c2 D_3_c3 B_3 B_3_c0 B_3_c1 O_3 O_3_c0 O_3_c1 O_3_c2 O_3_c3 F_3 F_3_c0 F_3_c1 X_3 X_3_c0 X_3_c1 X_3_c2 X_3_c3 G_3 G_3_c0 G_3_c1
  have z4 := Z3.trans (y4.mono Z3.size)
  have Z4 := z4
  have D_4_c0 := D_4.c0
  have D_4_c1 := D_4.c1
  have D_4_c2 := D_4.c2
  have D_4_c3 := D_4.c3
  have B_4_c0 := B_4.c0
  have B_4_c1 := B_4.c1
  have O_4_c0 := O_4.c0
  have O_4_c1 := O_4.c1
  have O_4_c2 := O_4.c2
  have O_4_c3 := O_4.c3
  have F_4_c0 := F_4.c0
  have F_4_c1 := F_4.c1
  have X_4_c0 := X_4.c0
  have X_4_c1 := X_4.c1
  have X_4_c2 := X_4.c2
  have X_4_c3 := X_4.c3
  have G_4_c0 := G_4.c0
  have G_4_c1 := G_4.c1
  go_wp2_with fail
  refine (HBI.out _ R_4).mono ?_
  rintro e w6 ⟨A6, c6, rfl, o6, y6⟩
  have hs6 := y6.size
  go_wp2_with fail
  go_loopw [13, 14] (fun lv i wr => ∃ (j : Nat) (P2 : Option Addr) (p3 : Nat), j ≤ 32 ∧ i = .int .i64 (j : Nat) ∧ lv = .slice P2 (l.length + j) p3 ∧ Below w4.heap.size w4 wr ∧ w4.heap.size ≤ wr.heap.size ∧ wr.ownsRow w4.heap.size 3 1 (.slice P2 (l.length + j) p3) (l.length + j) (zl l j)) (fun _ i _ => 32 - (intOf i).toNat)
  case atStart => exact ⟨0, A6, c6, Nat.zero_le _, rfl, rfl, y6, hs6, by rw [zl_zero]; exact o6⟩
  case round =>
    obtain ⟨j, P2, p3, hj, rfl, rfl, yr, hsz, oP⟩ := hrel
    have HP := Lib.hid oP
    clear oP
    by_cases hlt : j < 32
    · have HPC := Lib.hid (zl_succ l j)
      have i1 : (0 : Int) ≤ (j : Int) := by omega
      have i2 : decide ((j : Int) < 32) = true := by simp; omega
      have i3 : decide (j < 32) = true := by simp; omega
      go_wp2_with (at_builtin; refine wpList_app1 _ rfl _ _ _ rfl w4.heap.size 3 i0 _ 8 Try.underlying34 hi0 hz0 hz1 hz2 rfl _ _ _ rfl HP.out (.int .i64 0) rfl rfl ?g1 ?g2 hsz ?_)
      case g1 => unfold maxLen; omega
      case g2 => omega
      intro A14 c14 w14 o14 g14
      have Y14 := below_grown yr HP.out g14 (Nat.le_refl _) hsz
      rw [← HPC.out] at o14
      have HP14 := Lib.hid o14
      have hs14 : w4.heap.size ≤ w14.heap.size := Y14.size
      clear o14 g14
      go_wp2_with fail
      go_roundw
      case rel => exact ⟨j + 1, A14, c14, by omega, by go_num, rfl, Y14, hs14, HP14.out⟩
      case measure => simp [intOf] <;> omega
    · obtain rfl : j = 32 := by omega
      obtain ⟨w20, hw20⟩ : ∃ w20, w20 = wr := ⟨_, rfl⟩
      rw [← hw20] at yr hsz HP ⊢
      clear hw20 wr
      have U_20 := HP.out
      clear HP
      have R_20 := R_4.on yr
      have D_20 := D_4.on yr
      have B_20 := B_4.on yr
      have O_20 := O_4.on yr
      have F_20 := F_4.on yr
      have X_20 := X_4.on yr
      have G_20 := G_4.on yr
      have Z20 := Z4.trans (yr.mono Z4.size)
      clear R_4 D_4 D_4_c0 D_4_c1 D_4_c2 D_4_c3 B_4 B_4_c0 B_4_c1 O_4 O_4_c0 O_4_c1 O_4_c2 O_4_c3 F_4 F_4_c0 F_4_c1 X_4 X_4_c0 X_4_c1 X_4_c2 X_4_c3 G_4 G_4_c0 G_4_c1
      have D_20_c0 := D_20.c0
      have D_20_c1 := D_20.c1
      have D_20_c2 := D_20.c2
      have D_20_c3 := D_20.c3
      have B_20_c0 := B_20.c0
      have B_20_c1 := B_20.c1
      have O_20_c0 := O_20.c0
      have O_20_c1 := O_20.c1
      have O_20_c2 := O_20.c2
      have O_20_c3 := O_20.c3
      have F_20_c0 := F_20.c0
      have F_20_c1 := F_20.c1
      have X_20_c0 := X_20.c0
      have X_20_c1 := X_20.c1
      have X_20_c2 := X_20.c2
      have X_20_c3 := X_20.c3
      have G_20_c0 := G_20.c0
      have G_20_c1 := G_20.c1
      have hu : 32 ≤ p3 := by have := Reads.cap (Rd.own U_20); omega
      have hu2 := Reads.capMax (Rd.own U_20)
      unfold maxLen at hu2
      have z20 := Z20
      have R_b := R_20
      have R_20q := R_20.alloc (.cells #[.int .i64 0, .int .i64 0] 27)
      have D_b := D_20
      have D_20q := D_20.alloc (.cells #[.int .i64 0, .int .i64 0] 27)
      have B_b := B_20
      have B_20q := B_20.alloc (.cells #[.int .i64 0, .int .i64 0] 27)
      have O_b := O_20
      have O_20q := O_20.alloc (.cells #[.int .i64 0, .int .i64 0] 27)
      have F_b := F_20
      have F_20q := F_20.alloc (.cells #[.int .i64 0, .int .i64 0] 27)
      have X_b := X_20
      have X_20q := X_20.alloc (.cells #[.int .i64 0, .int .i64 0] 27)
      have G_b := G_20
      have G_20q := G_20.alloc (.cells #[.int .i64 0, .int .i64 0] 27)
      have U_b := U_20
      have U_20q := (own_on U_20 ((Below.refl _ _).alloc (Nat.le_refl _) (.cells #[.int .i64 0, .int .i64 0] 27)))
      have M_20q := Two.new w20 27 (.int .i64 0) (.int .i64 0)
      have CM_20q := (Below.refl w20.heap.size w20).alloc (Nat.le_refl _) (.cells #[.int .i64 0, .int .i64 0] 27)
      have Z20q := Z20.alloc Z20.size (.cells #[.int .i64 0, .int .i64 0] 27)
      clear R_20 D_20 D_20_c0 D_20_c1 D_20_c2 D_20_c3 B_20 B_20_c0 B_20_c1 O_20 O_20_c0 O_20_c1 O_20_c2 O_20_c3 F_20 F_20_c0 F_20_c1 X_20 X_20_c0 X_20_c1 X_20_c2 X_20_c3 G_20 G_20_c0 G_20_c1 U_20
      have D_20q_c0 := D_20q.c0
      have D_20q_c1 := D_20q.c1
      have D_20q_c2 := D_20q.c2
      have D_20q_c3 := D_20q.c3
      have B_20q_c0 := B_20q.c0
      have B_20q_c1 := B_20q.c1
      have O_20q_c0 := O_20q.c0
      have O_20q_c1 := O_20q.c1
      have O_20q_c2 := O_20q.c2
      have O_20q_c3 := O_20q.c3
      have F_20q_c0 := F_20q.c0
      have F_20q_c1 := F_20q.c1
      have X_20q_c0 := X_20q.c0
      have X_20q_c1 := X_20q.c1
      have X_20q_c2 := X_20q.c2
      have X_20q_c3 := X_20q.c3
      have G_20q_c0 := G_20q.c0
      have G_20q_c1 := G_20q.c1
      have M_20q_c0 := M_20q.c0
      have M_20q_c1 := M_20q.c1
      have M_20q_f0 := M_20q.f0
      have M_20q_f1 := M_20q.f1
      go_wp2_with fail
      go_quiet ((go_at_call 33; exact Calls.quiet_of_same (HNU.out _ _ _ (pre16 (own_drewN U_20q _)))))
      have R_21 := Rd.drewN R_20q nq
      have D_21 := Four.drewN D_20q nq
      have B_21 := Two.drewN B_20q nq
      have O_21 := Four.drewN O_20q nq
      have F_21 := Two.drewN F_20q nq
      have X_21 := Four.drewN X_20q nq
      have G_21 := Two.drewN G_20q nq
      have U_21 := own_drewN U_20q nq
      have M_21 := Two.drewN M_20q nq
      have Z21 := belowN Z20q nq
      have CM_21 := belowN CM_20q nq
      clear R_20q D_20q D_20q_c0 D_20q_c1 D_20q_c2 D_20q_c3 B_20q B_20q_c0 B_20q_c1 O_20q O_20q_c0 O_20q_c1 O_20q_c2 O_20q_c3 F_20q F_20q_c0 F_20q_c1 X_20q X_20q_c0 X_20q_c1 X_20q_c2 X_20q_c3 G_20q G_20q_c0 G_20q_c1 U_20q M_20q M_20q_c0 M_20q_c1 M_20q_f0 M_20q_f1
      obtain ⟨w21, hw21⟩ : ∃ w21, w21 = (w20.alloc (.cells #[.int .i64 0, .int .i64 0] 27)).drewN nq := ⟨_, rfl⟩
      rw [← hw21] at R_21 D_21 B_21 O_21 F_21 X_21 G_21 U_21 M_21 Z21 CM_21
      rw [← hw21]
      clear hw21
      have D_21_c0 := D_21.c0
      have D_21_c1 := D_21.c1
      have D_21_c2 := D_21.c2
      have D_21_c3 := D_21.c3
      have B_21_c0 := B_21.c0
      have B_21_c1 := B_21.c1
      have O_21_c0 := O_21.c0
      have O_21_c1 := O_21.c1
      have O_21_c2 := O_21.c2
      have O_21_c3 := O_21.c3
      have F_21_c0 := F_21.c0
      have F_21_c1 := F_21.c1
      have X_21_c0 := X_21.c0
      have X_21_c1 := X_21.c1
      have X_21_c2 := X_21.c2
      have X_21_c3 := X_21.c3
      have G_21_c0 := G_21.c0
      have G_21_c1 := G_21.c1
      have M_21_c0 := M_21.c0
      have M_21_c1 := M_21.c1
      have M_21_f0 := M_21.f0
      have M_21_f1 := M_21.f1
      have CM_22 := (CM_21.setCell (p := ⟨w20.heap.size, 0, none⟩) (by simp) (.int .i64 0)).setCell (p := ⟨w20.heap.size, 1, none⟩) (by simp) (.int .i64 0)
      have Z22 := (Z21.setCell (p := ⟨w20.heap.size, 0, none⟩) (by have := z20.size; simp; omega) (.int .i64 0)).setCell (p := ⟨w20.heap.size, 1, none⟩) (by have := z20.size; simp; omega) (.int .i64 0)
      have R_22 := R_b.on CM_22
      have D_22 := D_b.on CM_22
      have B_22 := B_b.on CM_22
      have O_22 := O_b.on CM_22
      have F_22 := F_b.on CM_22
      have X_22 := X_b.on CM_22
      have G_22 := G_b.on CM_22
      have U_22 := own_on U_b CM_22
      have M_22 := (M_21.set0 (.int .i64 0)).set1 (.int .i64 0)
      have D_22_c0 := D_22.c0
      have D_22_c1 := D_22.c1
      have D_22_c2 := D_22.c2
      have D_22_c3 := D_22.c3
      have B_22_c0 := B_22.c0
      have B_22_c1 := B_22.c1
      have O_22_c0 := O_22.c0
      have O_22_c1 := O_22.c1
      have O_22_c2 := O_22.c2
      have O_22_c3 := O_22.c3
      have F_22_c0 := F_22.c0
      have F_22_c1 := F_22.c1
      have X_22_c0 := X_22.c0
      have X_22_c1 := X_22.c1
      have X_22_c2 := X_22.c2
      have X_22_c3 := X_22.c3
      have G_22_c0 := G_22.c0
      have G_22_c1 := G_22.c1
      have M_22_c0 := M_22.c0
      have M_22_c1 := M_22.c1
      have M_22_f0 := M_22.f0
      have M_22_f1 := M_22.f1
      go_wp2_with fail
      refine (HDO.out _).mono ?_
      rintro e w23 ⟨rfl, y23⟩
      have R_23 := R_22.on y23
      have D_23 := D_22.on y23
      have B_23 := B_22.on y23
      have O_23 := O_22.on y23
      have F_23 := F_22.on y23
      have X_23 := X_22.on y23
      have G_23 := G_22.on y23
      have U_23 := own_on U_22 y23
      have M_23 := M_22.on y23
      clear R_21 D_21 D_21_c0 D_21_c1 D_21_c2 D_21_c3 B_21 B_21_c0 B_21_c1 O_21 O_21_c0 O_21_c1 O_21_c2 O_21_c3 F_21 F_21_c0 F_21_c1 X_21 X_21_c0 X_21_c1 X_21_c2 X_21_c3 G_21 G_21_c0 G_21_c1 U_21 M_21 M_21_c0 M_21_c1 M_21_f0 M_21_f1 R_22 D_22 D_22_c0 D_22_c1 D_22_c2 D_22_c3 B_22 B_22_c0 B_22_c1 O_22 O_22_c0 O_22_c1 O_22_c2 O_22_c3 F_22 F_22_c0 F_22_c1 X_22 X_22_c0 X_22_c1 X_22_c2 X_22_c3 G_22 G_22_c0 G_22_c1 U_22 M_22 M_22_c0 M_22_c1 M_22_f0 M_22_f1
      have z23 := Z22.trans (y23.mono Z22.size)
      have Z23 := z23
      have cM23 := CM_22.trans (y23.mono CM_22.size)
      have CM_23 := cM23
      have D_23_c0 := D_23.c0
      have D_23_c1 := D_23.c1
      have D_23_c2 := D_23.c2
      have D_23_c3 := D_23.c3
      have B_23_c0 := B_23.c0
      have B_23_c1 := B_23.c1
      have O_23_c0 := O_23.c0
      have O_23_c1 := O_23.c1
      have O_23_c2 := O_23.c2
      have O_23_c3 := O_23.c3
      have F_23_c0 := F_23.c0
      have F_23_c1 := F_23.c1
      have X_23_c0 := X_23.c0
      have X_23_c1 := X_23.c1
      have X_23_c2 := X_23.c2
      have X_23_c3 := X_23.c3
      have G_23_c0 := G_23.c0
      have G_23_c1 := G_23.c1
      have M_23_c0 := M_23.c0
      have M_23_c1 := M_23.c1
      have M_23_f0 := M_23.f0
      have M_23_f1 := M_23.f1
      go_wp2_with fail
      refine (in_yes _ _ _ _ HP1.out HP2.out).mono ?_
      rintro e w9_1 ⟨rfl, rfl⟩
      go_wp2_with fail
      go_quiet ((go_at_call 35; exact Calls.quiet_of_same (HSP.out _)))
      have R_24 := Rd.drewN R_23 nq
      have D_24 := Four.drewN D_23 nq
      have B_24 := Two.drewN B_23 nq
      have O_24 := Four.drewN O_23 nq
      have F_24 := Two.drewN F_23 nq
      have X_24 := Four.drewN X_23 nq
      have G_24 := Two.drewN G_23 nq
      have U_24 := own_drewN U_23 nq
      have M_24 := Two.drewN M_23 nq
      have Z24 := belowN Z23 nq
      have CM_24 := belowN CM_23 nq
      clear R_23 D_23 D_23_c0 D_23_c1 D_23_c2 D_23_c3 B_23 B_23_c0 B_23_c1 O_23 O_23_c0 O_23_c1 O_23_c2 O_23_c3 F_23 F_23_c0 F_23_c1 X_23 X_23_c0 X_23_c1 X_23_c2 X_23_c3 G_23 G_23_c0 G_23_c1 U_23 M_23 M_23_c0 M_23_c1 M_23_f0 M_23_f1
      obtain ⟨w24, hw24⟩ : ∃ w24, w24 = w23.drewN nq := ⟨_, rfl⟩
      rw [← hw24] at R_24 D_24 B_24 O_24 F_24 X_24 G_24 U_24 M_24 Z24 CM_24
      rw [← hw24]
      clear hw24
      have D_24_c0 := D_24.c0
      have D_24_c1 := D_24.c1
      have D_24_c2 := D_24.c2
      have D_24_c3 := D_24.c3
      have B_24_c0 := B_24.c0
      have B_24_c1 := B_24.c1
      have O_24_c0 := O_24.c0
      have O_24_c1 := O_24.c1
      have O_24_c2 := O_24.c2
      have O_24_c3 := O_24.c3
      have F_24_c0 := F_24.c0
      have F_24_c1 := F_24.c1
      have X_24_c0 := X_24.c0
      have X_24_c1 := X_24.c1
      have X_24_c2 := X_24.c2
      have X_24_c3 := X_24.c3
      have G_24_c0 := G_24.c0
      have G_24_c1 := G_24.c1
      have M_24_c0 := M_24.c0
      have M_24_c1 := M_24.c1
      have M_24_f0 := M_24.f0
      have M_24_f1 := M_24.f1
      go_wp2_with fail
      refine (HST.out _).mono ?_
      rintro e w25 ⟨A15, n15, c15, rfl, hn15, o15, y25⟩
      have R_25 := R_24.on y25
      have D_25 := D_24.on y25
      have B_25 := B_24.on y25
      have O_25 := O_24.on y25
      have F_25 := F_24.on y25
      have X_25 := X_24.on y25
      have G_25 := G_24.on y25
      have U_25 := own_on U_24 y25
      have M_25 := M_24.on y25
      have T_25 := o15
      clear R_24 D_24 D_24_c0 D_24_c1 D_24_c2 D_24_c3 B_24 B_24_c0 B_24_c1 O_24 O_24_c0 O_24_c1 O_24_c2 O_24_c3 F_24 F_24_c0 F_24_c1 X_24 X_24_c0 X_24_c1 X_24_c2 X_24_c3 G_24 G_24_c0 G_24_c1 U_24 M_24 M_24_c0 M_24_c1 M_24_f0 M_24_f1
      have z25 := Z24.trans (y25.mono Z24.size)
      have Z25 := z25
      have cM25 := CM_24.trans (y25.mono CM_24.size)
      have CM_25 := cM25
      have D_25_c0 := D_25.c0
      have D_25_c1 := D_25.c1
      have D_25_c2 := D_25.c2
      have D_25_c3 := D_25.c3
      have B_25_c0 := B_25.c0
      have B_25_c1 := B_25.c1
      have O_25_c0 := O_25.c0
      have O_25_c1 := O_25.c1
      have O_25_c2 := O_25.c2
      have O_25_c3 := O_25.c3
      have F_25_c0 := F_25.c0
      have F_25_c1 := F_25.c1
      have X_25_c0 := X_25.c0
      have X_25_c1 := X_25.c1
      have X_25_c2 := X_25.c2
      have X_25_c3 := X_25.c3
      have G_25_c0 := G_25.c0
      have G_25_c1 := G_25.c1
      have M_25_c0 := M_25.c0
      have M_25_c1 := M_25.c1
      have M_25_f0 := M_25.f0
      have M_25_f1 := M_25.f1
      subst hn15
      go_wp2_with fail
      go_region_held3 (fun w' => w'.cell? ⟨w2.heap.size + 1, 0, none⟩ = some (.int .i64 15) ∧ w'.cell? ⟨w2.heap.size + 1, 1, none⟩ = some (.int .i64 (-2)) ∧ w'.cell? ⟨w2.heap.size, 0, none⟩ = some (.int .i64 0) ∧ w'.cell? ⟨w2.heap.size, 1, none⟩ = some (.int .i64 0) ∧ w'.cell? ⟨w2.heap.size, 2, none⟩ = some (.int .i64 0) ∧ w'.cell? ⟨w2.heap.size, 3, none⟩ = some (.int .i64 0)) (go_keep) ((go_at_call 19; refine (refat_any _ _ _).mono ?_; rintro e w26 ⟨rfl, y26⟩; have Y26 : Below w25.heap.size w25.drew w26 := y26; have G_26_c0 := ((Two.on (w := w25.drew) G_25 Y26)).c0; have G_26_c1 := ((Two.on (w := w25.drew) G_25 Y26)).c1; have X_26_c0 := ((Four.on (w := w25.drew) X_25 Y26)).c0; have X_26_c1 := ((Four.on (w := w25.drew) X_25 Y26)).c1; have X_26_c2 := ((Four.on (w := w25.drew) X_25 Y26)).c2; have X_26_c3 := ((Four.on (w := w25.drew) X_25 Y26)).c3))
      have R_26 := (Rd.on (w := w25.drew) R_25 Y26)
      have D_26 := (Four.on (w := w25.drew) D_25 Y26)
      have B_26 := (Two.on (w := w25.drew) B_25 Y26)
      have O_26 := (Four.on (w := w25.drew) O_25 Y26)
      have F_26 := (Two.on (w := w25.drew) F_25 Y26)
      have X_26 := (Four.on (w := w25.drew) X_25 Y26)
      have G_26 := (Two.on (w := w25.drew) G_25 Y26)
      have U_26 := (own_on (w := w25.drew) U_25 Y26)
      have M_26 := (Two.on (w := w25.drew) M_25 Y26)
      have T_26 := (own_on (w := w25.drew) T_25 Y26)
      have Z26 := (belowD Z25).trans (Y26.mono (belowD Z25).size)
      have CM_26 := (belowD CM_25).trans (Y26.mono (belowD CM_25).size)
      clear G_26_c0 G_26_c1 X_26_c0 X_26_c1 X_26_c2 X_26_c3
      clear R_25 D_25 D_25_c0 D_25_c1 D_25_c2 D_25_c3 B_25 B_25_c0 B_25_c1 O_25 O_25_c0 O_25_c1 O_25_c2 O_25_c3 F_25 F_25_c0 F_25_c1 X_25 X_25_c0 X_25_c1 X_25_c2 X_25_c3 G_25 G_25_c0 G_25_c1 U_25 M_25 M_25_c0 M_25_c1 M_25_f0 M_25_f1 T_25
      have D_26_c0 := D_26.c0
      have D_26_c1 := D_26.c1
      have D_26_c2 := D_26.c2
      have D_26_c3 := D_26.c3
      have B_26_c0 := B_26.c0
      have B_26_c1 := B_26.c1
      have O_26_c0 := O_26.c0
      have O_26_c1 := O_26.c1
      have O_26_c2 := O_26.c2
      have O_26_c3 := O_26.c3
      have F_26_c0 := F_26.c0
      have F_26_c1 := F_26.c1
      have X_26_c0 := X_26.c0
      have X_26_c1 := X_26.c1
      have X_26_c2 := X_26.c2
      have X_26_c3 := X_26.c3
      have G_26_c0 := G_26.c0
      have G_26_c1 := G_26.c1
      have M_26_c0 := M_26.c0
      have M_26_c1 := M_26.c1
      have M_26_f0 := M_26.f0
      have M_26_f1 := M_26.f1
      go_wp2
      go_ret
      exact ⟨rfl, Z26⟩
set_option maxRecDepth 100000 in
set_option maxHeartbeats 1600000 in
theorem ag_good_ok0 {A : Option Addr} {n c : Nat} {lo hi V p : Int} {t : Nat} {l : List Nat} (h01 : Is01 l) (hl : l.length ≤ 131072) (hs : 2 ≤ l.length) (hok : DecOk lo hi V (t : Nat)) (hp1 : 1 ≤ p) (hp2 : p ≤ 4095) (hb : ¬ V ≤ splitOf lo hi p) (hbig : t + (stp lo hi 0 p).2.2.length ≤ l.length + 14) (w : World) (h : Rd w A n c (bcells (pack l))) :
    Calls Try.prog 9 #[.agg #[.int .i64 lo, .int .i64 hi, .int .i64 V, .int .i64 (t : Nat)], .agg #[.slice A n c, .int .i64 l.length], .int .i64 p] w fun e w' => e = .returned (.bool true) ∧ Below w.heap.size w w' := by
  have HBO := Lib.hid (fun (W : World) (hW : Rd W A n c (bcells (pack l))) => bitsok_any hW (pack_lt h01) (by omega) (by omega) true ⟨fun _ => Ok.of_list h01 hl, fun _ => rfl⟩)
  have HBI := Lib.hid (fun (W : World) (hW : Rd W A n c (bcells (pack l))) => bits_any hW h01 hl (l.length : Nat) rfl)
  have hc6 : decide (l.length < 2) = false := by simp; omega
  have hc7 : decide ((l.length : Int) < 2) = false := by simp; omega
  obtain ⟨VO, hVO⟩ : ∃ VO : Nat, VO = num ((List.range 16).map fun i => l.getD i 0) := ⟨_, rfl⟩
  have HOP := Lib.hid (fun (W : World) (hW : Rd W A n c (bcells (pack l))) => ar_open_ok hW h01 hl hs VO hVO)
  have HNU := Lib.hid (fun (W : World) (A7 : Option Addr) (c7 : Nat) (hW : Rd W A7 16 c7 (ncells ((List.range 16).map fun i => l.getD i 0))) => same_flip (numref_any hW (range01 h01) (by simp)))
  rw [← hVO] at HNU
  have HDO := Lib.hid (fun (W : World) => decoderok_any lo hi V (t : Nat) true ⟨fun _ => hok, fun _ => rfl⟩ W)
  obtain ⟨LO, hLO⟩ : ∃ LO, LO = (stp lo hi 0 p).1 := ⟨_, rfl⟩
  obtain ⟨HI, hHI⟩ : ∃ HI, HI = (stp lo hi 0 p).2.1 := ⟨_, rfl⟩
  obtain ⟨R, hR⟩ : ∃ R, R = (stp lo hi 0 p).2.2 := ⟨_, rfl⟩
  obtain ⟨VV, hVV⟩ : ∃ VV, VV = dv l (stp lo hi 0 p).2.2 V t := ⟨_, rfl⟩
  obtain ⟨TT, hTT⟩ : ∃ TT, TT = t + (stp lo hi 0 p).2.2.length := ⟨_, rfl⟩
  obtain ⟨sp, hsp⟩ : ∃ sp, sp = splitOf lo hi p := ⟨_, rfl⟩
  have hok2 := hok
  obtain ⟨hw, ⟨d1, d2⟩, d3, d4⟩ := hok2
  obtain ⟨e1, e2, e3, e4, e5⟩ := id hw
  obtain ⟨f1, f2, f3, f4⟩ := stp_facts 0 hw hp1 hp2
  have hsb := split_in hw hp1 hp2
  rw [← hsp] at hsb
  have HSP := Lib.hid (fun (W : World) => same_flip (split_any hw hp1 hp2 sp hsp W))
  have HST := Lib.hid (fun (W : World) => steps_any hw hp1 hp2 (b := 0) (by decide) LO HI R hLO hHI hR (0 : Int) rfl W)
  rw [← hsp] at hb
  have hpk : 0 = pickb ⟨lo, hi, V, t⟩ p := by unfold pickb; rw [show splitOf (DS.mk lo hi V t).lo (DS.mk lo hi V t).hi p = sp from hsp.symm]; exact (if_neg hb).symm
  have kb : decide (V ≤ sp) = false := by simpa using hb
  rw [← hR] at hTT hVV f2 f3 hbig
  rw [← hTT] at hbig
  have HGE := Lib.hid (fun (W : World) (hW : Rd W A n c (bcells (pack l))) => get_ok hW h01 hl hok hp1 hp2 0 LO HI VV TT hpk hLO hHI (by rw [← hR]; exact hVV) (by rw [← hR]; exact hTT) hbig)
  have HIN := Lib.hid (dvi_in l R V t h01 f3 (by omega) (by omega) f2)
  have HD0 := Lib.hid (dvi_zero l R V t)
  have HDF := Lib.hid (show dvi l R V t R.length = VV by rw [dvi_full, hVV])
  have HDS := Lib.hid (dvi_succ l R V t)
  have H3 := Lib.hid f3
  have kbig : decide ((l.length : Int) + 14 < (t : Int) + (R.length : Int)) = false := by simp; omega
  have HTT := Lib.hid hTT
  have hRl : R.length ≤ 14 := f2
  have ht0 : t ≤ 131100 := by omega
  have HP1 := Lib.hid hp1
  have HP2 := Lib.hid hp2
  have H01 := Lib.hid h01
  clear hs h01 hVO hok hw d1 d2 d3 d4 e1 e2 e3 e4 e5 f1 f3 f4 hb hpk hLO hHI hR hVV hTT hsp hbig hp1 hp2
  obtain ⟨i0, hi0, hz0, hz1, hz2⟩ := info_parts int_info
  have R_0 := ((h).alloc (.cells #[.int .i64 lo, .int .i64 hi, .int .i64 V, .int .i64 (t : Nat)] 62)).alloc (.cells #[.slice A n c, .int .i64 l.length] 25)
  have D_0 := ((Four.new w 62 (.int .i64 lo) (.int .i64 hi) (.int .i64 V) (.int .i64 (t : Nat)))).alloc (.cells #[.slice A n c, .int .i64 l.length] 25)
  have B_0 := (Two.new1 w (.cells #[.int .i64 lo, .int .i64 hi, .int .i64 V, .int .i64 (t : Nat)] 62) 25 (.slice A n c) (.int .i64 l.length))
  have Z0 := ((Below.refl w.heap.size w).alloc (by simp) (.cells #[.int .i64 lo, .int .i64 hi, .int .i64 V, .int .i64 (t : Nat)] 62)).alloc (by simp) (.cells #[.slice A n c, .int .i64 l.length] 25)
  have D_0_c0 := D_0.c0
  have D_0_c1 := D_0.c1
  have D_0_c2 := D_0.c2
  have D_0_c3 := D_0.c3
  have B_0_c0 := B_0.c0
  have B_0_c1 := B_0.c1
  go_enter Try.func9, Try.ntmps9
  go_wp2_with fail
  refine (HOP.out _ R_0).mono ?_
  rintro e w1 ⟨rfl, y1⟩
  have R_1 := ((R_0.on y1).alloc (.cells #[.int .i64 0, .int .i64 65535, .int .i64 (VO : Nat), .int .i64 16] 62)).alloc (.cells #[.int .i64 0, .int .i64 0] 27)
  have D_1 := ((D_0.on y1).alloc (.cells #[.int .i64 0, .int .i64 65535, .int .i64 (VO : Nat), .int .i64 16] 62)).alloc (.cells #[.int .i64 0, .int .i64 0] 27)
  have B_1 := ((B_0.on y1).alloc (.cells #[.int .i64 0, .int .i64 65535, .int .i64 (VO : Nat), .int .i64 16] 62)).alloc (.cells #[.int .i64 0, .int .i64 0] 27)
  have O_1 := ((Four.new w1 62 (.int .i64 0) (.int .i64 65535) (.int .i64 (VO : Nat)) (.int .i64 16))).alloc (.cells #[.int .i64 0, .int .i64 0] 27)
  have F_1 := (Two.new1 w1 (.cells #[.int .i64 0, .int .i64 65535, .int .i64 (VO : Nat), .int .i64 16] 62) 27 (.int .i64 0) (.int .i64 0))
  clear R_0 D_0 D_0_c0 D_0_c1 D_0_c2 D_0_c3 B_0 B_0_c0 B_0_c1
  have z1 := Z0.trans (y1.mono Z0.size)
  have Z1 := ((z1).alloc (by have := z1.size; omega) (.cells #[.int .i64 0, .int .i64 65535, .int .i64 (VO : Nat), .int .i64 16] 62)).alloc (by have := z1.size; simp; omega) (.cells #[.int .i64 0, .int .i64 0] 27)
  have D_1_c0 := D_1.c0
  have D_1_c1 := D_1.c1
  have D_1_c2 := D_1.c2
  have D_1_c3 := D_1.c3
  have B_1_c0 := B_1.c0
  have B_1_c1 := B_1.c1
  have O_1_c0 := O_1.c0
  have O_1_c1 := O_1.c1
  have O_1_c2 := O_1.c2
  have O_1_c3 := O_1.c3
  have F_1_c0 := F_1.c0
  have F_1_c1 := F_1.c1
  go_wp2_with fail
  refine (HGE.out _ R_1).mono ?_
  rintro e w2 ⟨rfl, y2⟩
  have R_2 := ((R_1.on y2).alloc (.cells #[.int .i64 LO, .int .i64 HI, .int .i64 VV, .int .i64 (TT : Nat)] 62)).alloc (.cells #[.int .i64 0, .int .i64 0] 27)
  have D_2 := ((D_1.on y2).alloc (.cells #[.int .i64 LO, .int .i64 HI, .int .i64 VV, .int .i64 (TT : Nat)] 62)).alloc (.cells #[.int .i64 0, .int .i64 0] 27)
  have B_2 := ((B_1.on y2).alloc (.cells #[.int .i64 LO, .int .i64 HI, .int .i64 VV, .int .i64 (TT : Nat)] 62)).alloc (.cells #[.int .i64 0, .int .i64 0] 27)
  have O_2 := ((O_1.on y2).alloc (.cells #[.int .i64 LO, .int .i64 HI, .int .i64 VV, .int .i64 (TT : Nat)] 62)).alloc (.cells #[.int .i64 0, .int .i64 0] 27)
  have F_2 := ((F_1.on y2).alloc (.cells #[.int .i64 LO, .int .i64 HI, .int .i64 VV, .int .i64 (TT : Nat)] 62)).alloc (.cells #[.int .i64 0, .int .i64 0] 27)
  have X_2 := ((Four.new w2 62 (.int .i64 LO) (.int .i64 HI) (.int .i64 VV) (.int .i64 (TT : Nat)))).alloc (.cells #[.int .i64 0, .int .i64 0] 27)
  have G_2 := (Two.new1 w2 (.cells #[.int .i64 LO, .int .i64 HI, .int .i64 VV, .int .i64 (TT : Nat)] 62) 27 (.int .i64 0) (.int .i64 0))
  clear R_1 D_1 D_1_c0 D_1_c1 D_1_c2 D_1_c3 B_1 B_1_c0 B_1_c1 O_1 O_1_c0 O_1_c1 O_1_c2 O_1_c3 F_1 F_1_c0 F_1_c1
  have z2 := Z1.trans (y2.mono Z1.size)
  have Z2 := ((z2).alloc (by have := z2.size; omega) (.cells #[.int .i64 LO, .int .i64 HI, .int .i64 VV, .int .i64 (TT : Nat)] 62)).alloc (by have := z2.size; simp; omega) (.cells #[.int .i64 0, .int .i64 0] 27)
  have D_2_c0 := D_2.c0
  have D_2_c1 := D_2.c1
  have D_2_c2 := D_2.c2
  have D_2_c3 := D_2.c3
  have B_2_c0 := B_2.c0
  have B_2_c1 := B_2.c1
  have O_2_c0 := O_2.c0
  have O_2_c1 := O_2.c1
  have O_2_c2 := O_2.c2
  have O_2_c3 := O_2.c3
  have F_2_c0 := F_2.c0
  have F_2_c1 := F_2.c1
  have X_2_c0 := X_2.c0
  have X_2_c1 := X_2.c1
  have X_2_c2 := X_2.c2
  have X_2_c3 := X_2.c3
  have G_2_c0 := G_2.c0
  have G_2_c1 := G_2.c1
  go_wp2_with fail
  refine (codes_true _).mono ?_
  rintro e w3 ⟨rfl, y3⟩
  have R_3 := R_2.on y3
  have D_3 := D_2.on y3
  have B_3 := B_2.on y3
  have O_3 := O_2.on y3
  have F_3 := F_2.on y3
  have X_3 := X_2.on y3
  have G_3 := G_2.on y3
  clear R_2 D_2 D_2_c0 D_2_c1 D_2_c2 D_2_c3 B_2 B_2_c0 B_2_c1 O_2 O_2_c0 O_2_c1 O_2_c2 O_2_c3 F_2 F_2_c0 F_2_c1 X_2 X_2_c0 X_2_c1 X_2_c2 X_2_c3 G_2 G_2_c0 G_2_c1
  have z3 := Z2.trans (y3.mono Z2.size)
  have Z3 := z3
  have D_3_c0 := D_3.c0
  have D_3_c1 := D_3.c1
  have D_3_c2 := D_3.c2
  have D_3_c3 := D_3.c3
  have B_3_c0 := B_3.c0
  have B_3_c1 := B_3.c1
  have O_3_c0 := O_3.c0
  have O_3_c1 := O_3.c1
  have O_3_c2 := O_3.c2
  have O_3_c3 := O_3.c3
  have F_3_c0 := F_3.c0
  have F_3_c1 := F_3.c1
  have X_3_c0 := X_3.c0
  have X_3_c1 := X_3.c1
  have X_3_c2 := X_3.c2
  have X_3_c3 := X_3.c3
  have G_3_c0 := G_3.c0
  have G_3_c1 := G_3.c1
  go_wp2_with fail
  refine (HBO.out _ R_3).mono ?_
  rintro e w4 ⟨rfl, y4⟩
  have R_4 := R_3.on y4
  have D_4 := D_3.on y4
  have B_4 := B_3.on y4
  have O_4 := O_3.on y4
  have F_4 := F_3.on y4
  have X_4 := X_3.on y4
  have G_4 := G_3.on y4
  clear R_3 D_3 D_3_c0 D_3_c1 D_3_c2 D_3_c3 B_3 B_3_c0 B_3_c1 O_3 O_3_c0 O_3_c1 O_3_c2 O_3_c3 F_3 F_3_c0 F_3_c1 X_3 X_3_c0 X_3_c1 X_3_c2 X_3_c3 G_3 G_3_c0 G_3_c1
  have z4 := Z3.trans (y4.mono Z3.size)
  have Z4 := z4
  have D_4_c0 := D_4.c0
  have D_4_c1 := D_4.c1
  have D_4_c2 := D_4.c2
  have D_4_c3 := D_4.c3
  have B_4_c0 := B_4.c0
  have B_4_c1 := B_4.c1
  have O_4_c0 := O_4.c0
  have O_4_c1 := O_4.c1
  have O_4_c2 := O_4.c2
  have O_4_c3 := O_4.c3
  have F_4_c0 := F_4.c0
  have F_4_c1 := F_4.c1
  have X_4_c0 := X_4.c0
  have X_4_c1 := X_4.c1
  have X_4_c2 := X_4.c2
  have X_4_c3 := X_4.c3
  have G_4_c0 := G_4.c0
  have G_4_c1 := G_4.c1
  go_wp2_with fail
  refine (HBI.out _ R_4).mono ?_
  rintro e w6 ⟨A6, c6, rfl, o6, y6⟩
  have hs6 := y6.size
  go_wp2_with fail
  go_loopw [13, 14] (fun lv i wr => ∃ (j : Nat) (P2 : Option Addr) (p3 : Nat), j ≤ 32 ∧ i = .int .i64 (j : Nat) ∧ lv = .slice P2 (l.length + j) p3 ∧ Below w4.heap.size w4 wr ∧ w4.heap.size ≤ wr.heap.size ∧ wr.ownsRow w4.heap.size 3 1 (.slice P2 (l.length + j) p3) (l.length + j) (zl l j)) (fun _ i _ => 32 - (intOf i).toNat)
  case atStart => exact ⟨0, A6, c6, Nat.zero_le _, rfl, rfl, y6, hs6, by rw [zl_zero]; exact o6⟩
  case round =>
    obtain ⟨j, P2, p3, hj, rfl, rfl, yr, hsz, oP⟩ := hrel
    have HP := Lib.hid oP
    clear oP
    by_cases hlt : j < 32
    · have HPC := Lib.hid (zl_succ l j)
      have i1 : (0 : Int) ≤ (j : Int) := by omega
      have i2 : decide ((j : Int) < 32) = true := by simp; omega
      have i3 : decide (j < 32) = true := by simp; omega
      go_wp2_with (at_builtin; refine wpList_app1 _ rfl _ _ _ rfl w4.heap.size 3 i0 _ 8 Try.underlying34 hi0 hz0 hz1 hz2 rfl _ _ _ rfl HP.out (.int .i64 0) rfl rfl ?g1 ?g2 hsz ?_)
      case g1 => unfold maxLen; omega
      case g2 => omega
      intro A14 c14 w14 o14 g14
      have Y14 := below_grown yr HP.out g14 (Nat.le_refl _) hsz
      rw [← HPC.out] at o14
      have HP14 := Lib.hid o14
      have hs14 : w4.heap.size ≤ w14.heap.size := Y14.size
      clear o14 g14
      go_wp2_with fail
      go_roundw
      case rel => exact ⟨j + 1, A14, c14, by omega, by go_num, rfl, Y14, hs14, HP14.out⟩
      case measure => simp [intOf] <;> omega
    · obtain rfl : j = 32 := by omega
      obtain ⟨w20, hw20⟩ : ∃ w20, w20 = wr := ⟨_, rfl⟩
      rw [← hw20] at yr hsz HP ⊢
      clear hw20 wr
      have U_20 := HP.out
      clear HP
      have R_20 := R_4.on yr
      have D_20 := D_4.on yr
      have B_20 := B_4.on yr
      have O_20 := O_4.on yr
      have F_20 := F_4.on yr
      have X_20 := X_4.on yr
      have G_20 := G_4.on yr
      have Z20 := Z4.trans (yr.mono Z4.size)
      clear R_4 D_4 D_4_c0 D_4_c1 D_4_c2 D_4_c3 B_4 B_4_c0 B_4_c1 O_4 O_4_c0 O_4_c1 O_4_c2 O_4_c3 F_4 F_4_c0 F_4_c1 X_4 X_4_c0 X_4_c1 X_4_c2 X_4_c3 G_4 G_4_c0 G_4_c1
      have D_20_c0 := D_20.c0
      have D_20_c1 := D_20.c1
      have D_20_c2 := D_20.c2
      have D_20_c3 := D_20.c3
      have B_20_c0 := B_20.c0
      have B_20_c1 := B_20.c1
      have O_20_c0 := O_20.c0
      have O_20_c1 := O_20.c1
      have O_20_c2 := O_20.c2
      have O_20_c3 := O_20.c3
      have F_20_c0 := F_20.c0
      have F_20_c1 := F_20.c1
      have X_20_c0 := X_20.c0
      have X_20_c1 := X_20.c1
      have X_20_c2 := X_20.c2
      have X_20_c3 := X_20.c3
      have G_20_c0 := G_20.c0
      have G_20_c1 := G_20.c1
      have hu : 32 ≤ p3 := by have := Reads.cap (Rd.own U_20); omega
      have hu2 := Reads.capMax (Rd.own U_20)
      unfold maxLen at hu2
      have z20 := Z20
      have R_b := R_20
      have R_20q := R_20.alloc (.cells #[.int .i64 0, .int .i64 0] 27)
      have D_b := D_20
      have D_20q := D_20.alloc (.cells #[.int .i64 0, .int .i64 0] 27)
      have B_b := B_20
      have B_20q := B_20.alloc (.cells #[.int .i64 0, .int .i64 0] 27)
      have O_b := O_20
      have O_20q := O_20.alloc (.cells #[.int .i64 0, .int .i64 0] 27)
      have F_b := F_20
      have F_20q := F_20.alloc (.cells #[.int .i64 0, .int .i64 0] 27)
      have X_b := X_20
      have X_20q := X_20.alloc (.cells #[.int .i64 0, .int .i64 0] 27)
      have G_b := G_20
      have G_20q := G_20.alloc (.cells #[.int .i64 0, .int .i64 0] 27)
      have U_b := U_20
      have U_20q := (own_on U_20 ((Below.refl _ _).alloc (Nat.le_refl _) (.cells #[.int .i64 0, .int .i64 0] 27)))
      have M_20q := Two.new w20 27 (.int .i64 0) (.int .i64 0)
      have CM_20q := (Below.refl w20.heap.size w20).alloc (Nat.le_refl _) (.cells #[.int .i64 0, .int .i64 0] 27)
      have Z20q := Z20.alloc Z20.size (.cells #[.int .i64 0, .int .i64 0] 27)
      clear R_20 D_20 D_20_c0 D_20_c1 D_20_c2 D_20_c3 B_20 B_20_c0 B_20_c1 O_20 O_20_c0 O_20_c1 O_20_c2 O_20_c3 F_20 F_20_c0 F_20_c1 X_20 X_20_c0 X_20_c1 X_20_c2 X_20_c3 G_20 G_20_c0 G_20_c1 U_20
      have D_20q_c0 := D_20q.c0
      have D_20q_c1 := D_20q.c1
      have D_20q_c2 := D_20q.c2
      have D_20q_c3 := D_20q.c3
      have B_20q_c0 := B_20q.c0
      have B_20q_c1 := B_20q.c1
      have O_20q_c0 := O_20q.c0
      have O_20q_c1 := O_20q.c1
      have O_20q_c2 := O_20q.c2
      have O_20q_c3 := O_20q.c3
      have F_20q_c0 := F_20q.c0
      have F_20q_c1 := F_20q.c1
      have X_20q_c0 := X_20q.c0
      have X_20q_c1 := X_20q.c1
      have X_20q_c2 := X_20q.c2
      have X_20q_c3 := X_20q.c3
      have G_20q_c0 := G_20q.c0
      have G_20q_c1 := G_20q.c1
      have M_20q_c0 := M_20q.c0
      have M_20q_c1 := M_20q.c1
      have M_20q_f0 := M_20q.f0
      have M_20q_f1 := M_20q.f1
      go_wp2_with fail
      go_quiet ((go_at_call 33; exact Calls.quiet_of_same (HNU.out _ _ _ (pre16 (own_drewN U_20q _)))))
      have R_21 := Rd.drewN R_20q nq
      have D_21 := Four.drewN D_20q nq
      have B_21 := Two.drewN B_20q nq
      have O_21 := Four.drewN O_20q nq
      have F_21 := Two.drewN F_20q nq
      have X_21 := Four.drewN X_20q nq
      have G_21 := Two.drewN G_20q nq
      have U_21 := own_drewN U_20q nq
      have M_21 := Two.drewN M_20q nq
      have Z21 := belowN Z20q nq
      have CM_21 := belowN CM_20q nq
      clear R_20q D_20q D_20q_c0 D_20q_c1 D_20q_c2 D_20q_c3 B_20q B_20q_c0 B_20q_c1 O_20q O_20q_c0 O_20q_c1 O_20q_c2 O_20q_c3 F_20q F_20q_c0 F_20q_c1 X_20q X_20q_c0 X_20q_c1 X_20q_c2 X_20q_c3 G_20q G_20q_c0 G_20q_c1 U_20q M_20q M_20q_c0 M_20q_c1 M_20q_f0 M_20q_f1
      obtain ⟨w21, hw21⟩ : ∃ w21, w21 = (w20.alloc (.cells #[.int .i64 0, .int .i64 0] 27)).drewN nq := ⟨_, rfl⟩
      rw [← hw21] at R_21 D_21 B_21 O_21 F_21 X_21 G_21 U_21 M_21 Z21 CM_21
      rw [← hw21]
      clear hw21
      have D_21_c0 := D_21.c0
      have D_21_c1 := D_21.c1
      have D_21_c2 := D_21.c2
      have D_21_c3 := D_21.c3
      have B_21_c0 := B_21.c0
      have B_21_c1 := B_21.c1
      have O_21_c0 := O_21.c0
      have O_21_c1 := O_21.c1
      have O_21_c2 := O_21.c2
      have O_21_c3 := O_21.c3
      have F_21_c0 := F_21.c0
      have F_21_c1 := F_21.c1
      have X_21_c0 := X_21.c0
      have X_21_c1 := X_21.c1
      have X_21_c2 := X_21.c2
      have X_21_c3 := X_21.c3
      have G_21_c0 := G_21.c0
      have G_21_c1 := G_21.c1
      have M_21_c0 := M_21.c0
      have M_21_c1 := M_21.c1
      have M_21_f0 := M_21.f0
      have M_21_f1 := M_21.f1
      have CM_22 := (CM_21.setCell (p := ⟨w20.heap.size, 0, none⟩) (by simp) (.int .i64 0)).setCell (p := ⟨w20.heap.size, 1, none⟩) (by simp) (.int .i64 0)
      have Z22 := (Z21.setCell (p := ⟨w20.heap.size, 0, none⟩) (by have := z20.size; simp; omega) (.int .i64 0)).setCell (p := ⟨w20.heap.size, 1, none⟩) (by have := z20.size; simp; omega) (.int .i64 0)
      have R_22 := R_b.on CM_22
      have D_22 := D_b.on CM_22
      have B_22 := B_b.on CM_22
      have O_22 := O_b.on CM_22
      have F_22 := F_b.on CM_22
      have X_22 := X_b.on CM_22
      have G_22 := G_b.on CM_22
      have U_22 := own_on U_b CM_22
      have M_22 := (M_21.set0 (.int .i64 0)).set1 (.int .i64 0)
      have D_22_c0 := D_22.c0
      have D_22_c1 := D_22.c1
      have D_22_c2 := D_22.c2
      have D_22_c3 := D_22.c3
      have B_22_c0 := B_22.c0
      have B_22_c1 := B_22.c1
      have O_22_c0 := O_22.c0
      have O_22_c1 := O_22.c1
      have O_22_c2 := O_22.c2
      have O_22_c3 := O_22.c3
      have F_22_c0 := F_22.c0
      have F_22_c1 := F_22.c1
      have X_22_c0 := X_22.c0
      have X_22_c1 := X_22.c1
      have X_22_c2 := X_22.c2
      have X_22_c3 := X_22.c3
      have G_22_c0 := G_22.c0
      have G_22_c1 := G_22.c1
      have M_22_c0 := M_22.c0
      have M_22_c1 := M_22.c1
      have M_22_f0 := M_22.f0
      have M_22_f1 := M_22.f1
      go_wp2_with fail
      refine (HDO.out _).mono ?_
      rintro e w23 ⟨rfl, y23⟩
      have R_23 := R_22.on y23
      have D_23 := D_22.on y23
      have B_23 := B_22.on y23
      have O_23 := O_22.on y23
      have F_23 := F_22.on y23
      have X_23 := X_22.on y23
      have G_23 := G_22.on y23
      have U_23 := own_on U_22 y23
      have M_23 := M_22.on y23
      clear R_21 D_21 D_21_c0 D_21_c1 D_21_c2 D_21_c3 B_21 B_21_c0 B_21_c1 O_21 O_21_c0 O_21_c1 O_21_c2 O_21_c3 F_21 F_21_c0 F_21_c1 X_21 X_21_c0 X_21_c1 X_21_c2 X_21_c3 G_21 G_21_c0 G_21_c1 U_21 M_21 M_21_c0 M_21_c1 M_21_f0 M_21_f1 R_22 D_22 D_22_c0 D_22_c1 D_22_c2 D_22_c3 B_22 B_22_c0 B_22_c1 O_22 O_22_c0 O_22_c1 O_22_c2 O_22_c3 F_22 F_22_c0 F_22_c1 X_22 X_22_c0 X_22_c1 X_22_c2 X_22_c3 G_22 G_22_c0 G_22_c1 U_22 M_22 M_22_c0 M_22_c1 M_22_f0 M_22_f1
      have z23 := Z22.trans (y23.mono Z22.size)
      have Z23 := z23
      have cM23 := CM_22.trans (y23.mono CM_22.size)
      have CM_23 := cM23
      have D_23_c0 := D_23.c0
      have D_23_c1 := D_23.c1
      have D_23_c2 := D_23.c2
      have D_23_c3 := D_23.c3
      have B_23_c0 := B_23.c0
      have B_23_c1 := B_23.c1
      have O_23_c0 := O_23.c0
      have O_23_c1 := O_23.c1
      have O_23_c2 := O_23.c2
      have O_23_c3 := O_23.c3
      have F_23_c0 := F_23.c0
      have F_23_c1 := F_23.c1
      have X_23_c0 := X_23.c0
      have X_23_c1 := X_23.c1
      have X_23_c2 := X_23.c2
      have X_23_c3 := X_23.c3
      have G_23_c0 := G_23.c0
      have G_23_c1 := G_23.c1
      have M_23_c0 := M_23.c0
      have M_23_c1 := M_23.c1
      have M_23_f0 := M_23.f0
      have M_23_f1 := M_23.f1
      go_wp2_with fail
      refine (in_yes _ _ _ _ HP1.out HP2.out).mono ?_
      rintro e w9_1 ⟨rfl, rfl⟩
      go_wp2_with fail
      go_quiet ((go_at_call 35; exact Calls.quiet_of_same (HSP.out _)))
      have R_24 := Rd.drewN R_23 nq
      have D_24 := Four.drewN D_23 nq
      have B_24 := Two.drewN B_23 nq
      have O_24 := Four.drewN O_23 nq
      have F_24 := Two.drewN F_23 nq
      have X_24 := Four.drewN X_23 nq
      have G_24 := Two.drewN G_23 nq
      have U_24 := own_drewN U_23 nq
      have M_24 := Two.drewN M_23 nq
      have Z24 := belowN Z23 nq
      have CM_24 := belowN CM_23 nq
      clear R_23 D_23 D_23_c0 D_23_c1 D_23_c2 D_23_c3 B_23 B_23_c0 B_23_c1 O_23 O_23_c0 O_23_c1 O_23_c2 O_23_c3 F_23 F_23_c0 F_23_c1 X_23 X_23_c0 X_23_c1 X_23_c2 X_23_c3 G_23 G_23_c0 G_23_c1 U_23 M_23 M_23_c0 M_23_c1 M_23_f0 M_23_f1
      obtain ⟨w24, hw24⟩ : ∃ w24, w24 = w23.drewN nq := ⟨_, rfl⟩
      rw [← hw24] at R_24 D_24 B_24 O_24 F_24 X_24 G_24 U_24 M_24 Z24 CM_24
      rw [← hw24]
      clear hw24
      have D_24_c0 := D_24.c0
      have D_24_c1 := D_24.c1
      have D_24_c2 := D_24.c2
      have D_24_c3 := D_24.c3
      have B_24_c0 := B_24.c0
      have B_24_c1 := B_24.c1
      have O_24_c0 := O_24.c0
      have O_24_c1 := O_24.c1
      have O_24_c2 := O_24.c2
      have O_24_c3 := O_24.c3
      have F_24_c0 := F_24.c0
      have F_24_c1 := F_24.c1
      have X_24_c0 := X_24.c0
      have X_24_c1 := X_24.c1
      have X_24_c2 := X_24.c2
      have X_24_c3 := X_24.c3
      have G_24_c0 := G_24.c0
      have G_24_c1 := G_24.c1
      have M_24_c0 := M_24.c0
      have M_24_c1 := M_24.c1
      have M_24_f0 := M_24.f0
      have M_24_f1 := M_24.f1
      go_wp2_with fail
      refine (HST.out _).mono ?_
      rintro e w25 ⟨A15, n15, c15, rfl, hn15, o15, y25⟩
      have R_25 := R_24.on y25
      have D_25 := D_24.on y25
      have B_25 := B_24.on y25
      have O_25 := O_24.on y25
      have F_25 := F_24.on y25
      have X_25 := X_24.on y25
      have G_25 := G_24.on y25
      have U_25 := own_on U_24 y25
      have M_25 := M_24.on y25
      have T_25 := o15
      clear R_24 D_24 D_24_c0 D_24_c1 D_24_c2 D_24_c3 B_24 B_24_c0 B_24_c1 O_24 O_24_c0 O_24_c1 O_24_c2 O_24_c3 F_24 F_24_c0 F_24_c1 X_24 X_24_c0 X_24_c1 X_24_c2 X_24_c3 G_24 G_24_c0 G_24_c1 U_24 M_24 M_24_c0 M_24_c1 M_24_f0 M_24_f1
      have z25 := Z24.trans (y25.mono Z24.size)
      have Z25 := z25
      have cM25 := CM_24.trans (y25.mono CM_24.size)
      have CM_25 := cM25
      have D_25_c0 := D_25.c0
      have D_25_c1 := D_25.c1
      have D_25_c2 := D_25.c2
      have D_25_c3 := D_25.c3
      have B_25_c0 := B_25.c0
      have B_25_c1 := B_25.c1
      have O_25_c0 := O_25.c0
      have O_25_c1 := O_25.c1
      have O_25_c2 := O_25.c2
      have O_25_c3 := O_25.c3
      have F_25_c0 := F_25.c0
      have F_25_c1 := F_25.c1
      have X_25_c0 := X_25.c0
      have X_25_c1 := X_25.c1
      have X_25_c2 := X_25.c2
      have X_25_c3 := X_25.c3
      have G_25_c0 := G_25.c0
      have G_25_c1 := G_25.c1
      have M_25_c0 := M_25.c0
      have M_25_c1 := M_25.c1
      have M_25_f0 := M_25.f0
      have M_25_f1 := M_25.f1
      subst hn15
      have RT := Rd.own T_25
      have RU := Rd.own U_25
      go_wp2_with fail
      go_loopw [20, 21] (fun v i wr => ∃ j m : Nat, j ≤ R.length ∧ i = .int .i64 (j : Nat) ∧ v = .int .i64 (dvi l R V t j) ∧ wr = w25.drewN m) (fun _ i _ => R.length - (intOf i).toNat)
      case atStart => exact ⟨0, 0, Nat.zero_le _, rfl, by rw [HD0.out], rfl⟩
      case round =>
        obtain ⟨j, m, hj, rfl, rfl, rfl⟩ := hrel
        obtain ⟨v1, v2⟩ := HIN.out j hj
        by_cases hlt : j < R.length
        · have hsu := HDS.out j hlt
          obtain ⟨v3, v4⟩ := HIN.out (j + 1) hlt
          have hk2 := H3.out _ (List.getElem_mem hlt)
          obtain ⟨kj, hkj⟩ : ∃ kj, kj = R[j] := ⟨_, rfl⟩
          have hg1 := getD01 H01.out (t + j)
          have hg2 := zl_get (l := l) (j := 32) (i := t + j) (by have := kbig; simp at this; omega)
          obtain ⟨bj, hbj⟩ : ∃ bj, bj = l.getD (t + j) 0 := ⟨_, rfl⟩
          rw [← hkj] at hsu hk2
          rw [← hbj] at hsu hg1 hg2
          obtain ⟨g7, o7, hA7, hb7, hc7⟩ := RT.2.2.2 (by omega)
          obtain ⟨g8, o8, hA8, hb8, hc8⟩ := RU.2.2.2 (by omega)
          subst hA7 hA8
          have hcell7 := hc7 j (.int .i64 (kj : Nat)) (by unfold ncells; rw [List.getElem?_map, List.getElem?_eq_getElem hlt, hkj]; rfl)
          have hcell8 := hc8 (t + j) _ hg2
          obtain ⟨dj, hdj⟩ : ∃ dj, dj = dvi l R V t j := ⟨_, rfl⟩
          obtain ⟨dk, hdk⟩ : ∃ dk, dk = dvi l R V t (j + 1) := ⟨_, rfl⟩
          rw [← hdj] at v1 v2 hsu ⊢
          rw [← hdk] at v3 v4 hsu
          have HDK := Lib.hid hdk
          have i1 : (0 : Int) ≤ (j : Int) := by omega
          have i2 : (j : Int) < (R.length : Int) := by omega
          have i3 : (0 : Int) ≤ (t : Int) + (j : Int) := by omega
          have i4 : (t : Int) + (j : Int) < (l.length : Int) + 32 := by have := kbig; simp at this; omega
          have HSU := Lib.hid hsu
          clear hc7 hc8 hkj hbj hdj hdk hsu hg2
          go_wp2_with fail
          go_quiet (fail)
          go_wp2_with fail
          go_roundw
          case rel => exact ⟨j + 1, m + nq, by omega, by go_num, by rw [← HDK.out, HSU.out], rfl⟩
          case measure => simp [intOf] <;> omega
        · obtain rfl : j = R.length := by omega
          rw [HDF.out]
          clear T_25 U_25 R_25
          have D_26 := D_25.drewN m
          have B_26 := B_25.drewN m
          have O_26 := O_25.drewN m
          have F_26 := F_25.drewN m
          have X_26 := X_25.drewN m
          have G_26 := G_25.drewN m
          have M_26 := M_25.drewN m
          have Z26 := belowN Z25 m
          clear D_25 D_25_c0 D_25_c1 D_25_c2 D_25_c3 B_25 B_25_c0 B_25_c1 O_25 O_25_c0 O_25_c1 O_25_c2 O_25_c3 F_25 F_25_c0 F_25_c1 X_25 X_25_c0 X_25_c1 X_25_c2 X_25_c3 G_25 G_25_c0 G_25_c1 M_25 M_25_c0 M_25_c1 M_25_f0 M_25_f1
          obtain ⟨w26, hw26⟩ : ∃ w26, w26 = w25.drewN m := ⟨_, rfl⟩
          rw [← hw26] at D_26 B_26 O_26 F_26 X_26 G_26 M_26 Z26
          rw [← hw26]
          clear hw26
          have D_26_c0 := D_26.c0
          have D_26_c1 := D_26.c1
          have D_26_c2 := D_26.c2
          have D_26_c3 := D_26.c3
          have B_26_c0 := B_26.c0
          have B_26_c1 := B_26.c1
          have O_26_c0 := O_26.c0
          have O_26_c1 := O_26.c1
          have O_26_c2 := O_26.c2
          have O_26_c3 := O_26.c3
          have F_26_c0 := F_26.c0
          have F_26_c1 := F_26.c1
          have X_26_c0 := X_26.c0
          have X_26_c1 := X_26.c1
          have X_26_c2 := X_26.c2
          have X_26_c3 := X_26.c3
          have G_26_c0 := G_26.c0
          have G_26_c1 := G_26.c1
          have M_26_c0 := M_26.c0
          have M_26_c1 := M_26.c1
          have M_26_f0 := M_26.f0
          have M_26_f1 := M_26.f1
          have hTT2 := HTT.out
          subst hTT2
          go_wp2
          go_ret
          exact ⟨rfl, Z26⟩
set_option maxRecDepth 100000 in
set_option maxHeartbeats 1600000 in
theorem ag_good_ok1 {A : Option Addr} {n c : Nat} {lo hi V p : Int} {t : Nat} {l : List Nat} (h01 : Is01 l) (hl : l.length ≤ 131072) (hs : 2 ≤ l.length) (hok : DecOk lo hi V (t : Nat)) (hp1 : 1 ≤ p) (hp2 : p ≤ 4095) (hb : V ≤ splitOf lo hi p) (hbig : t + (stp lo hi 1 p).2.2.length ≤ l.length + 14) (w : World) (h : Rd w A n c (bcells (pack l))) :
    Calls Try.prog 9 #[.agg #[.int .i64 lo, .int .i64 hi, .int .i64 V, .int .i64 (t : Nat)], .agg #[.slice A n c, .int .i64 l.length], .int .i64 p] w fun e w' => e = .returned (.bool true) ∧ Below w.heap.size w w' := by
  have HBO := Lib.hid (fun (W : World) (hW : Rd W A n c (bcells (pack l))) => bitsok_any hW (pack_lt h01) (by omega) (by omega) true ⟨fun _ => Ok.of_list h01 hl, fun _ => rfl⟩)
  have HBI := Lib.hid (fun (W : World) (hW : Rd W A n c (bcells (pack l))) => bits_any hW h01 hl (l.length : Nat) rfl)
  have hc6 : decide (l.length < 2) = false := by simp; omega
  have hc7 : decide ((l.length : Int) < 2) = false := by simp; omega
  obtain ⟨VO, hVO⟩ : ∃ VO : Nat, VO = num ((List.range 16).map fun i => l.getD i 0) := ⟨_, rfl⟩
  have HOP := Lib.hid (fun (W : World) (hW : Rd W A n c (bcells (pack l))) => ar_open_ok hW h01 hl hs VO hVO)
  have HNU := Lib.hid (fun (W : World) (A7 : Option Addr) (c7 : Nat) (hW : Rd W A7 16 c7 (ncells ((List.range 16).map fun i => l.getD i 0))) => same_flip (numref_any hW (range01 h01) (by simp)))
  rw [← hVO] at HNU
  have HDO := Lib.hid (fun (W : World) => decoderok_any lo hi V (t : Nat) true ⟨fun _ => hok, fun _ => rfl⟩ W)
  obtain ⟨LO, hLO⟩ : ∃ LO, LO = (stp lo hi 1 p).1 := ⟨_, rfl⟩
  obtain ⟨HI, hHI⟩ : ∃ HI, HI = (stp lo hi 1 p).2.1 := ⟨_, rfl⟩
  obtain ⟨R, hR⟩ : ∃ R, R = (stp lo hi 1 p).2.2 := ⟨_, rfl⟩
  obtain ⟨VV, hVV⟩ : ∃ VV, VV = dv l (stp lo hi 1 p).2.2 V t := ⟨_, rfl⟩
  obtain ⟨TT, hTT⟩ : ∃ TT, TT = t + (stp lo hi 1 p).2.2.length := ⟨_, rfl⟩
  obtain ⟨sp, hsp⟩ : ∃ sp, sp = splitOf lo hi p := ⟨_, rfl⟩
  have hok2 := hok
  obtain ⟨hw, ⟨d1, d2⟩, d3, d4⟩ := hok2
  obtain ⟨e1, e2, e3, e4, e5⟩ := id hw
  obtain ⟨f1, f2, f3, f4⟩ := stp_facts 1 hw hp1 hp2
  have hsb := split_in hw hp1 hp2
  rw [← hsp] at hsb
  have HSP := Lib.hid (fun (W : World) => same_flip (split_any hw hp1 hp2 sp hsp W))
  have HST := Lib.hid (fun (W : World) => steps_any hw hp1 hp2 (b := 1) (by decide) LO HI R hLO hHI hR (1 : Int) rfl W)
  rw [← hsp] at hb
  have hpk : 1 = pickb ⟨lo, hi, V, t⟩ p := by unfold pickb; rw [show splitOf (DS.mk lo hi V t).lo (DS.mk lo hi V t).hi p = sp from hsp.symm]; exact (if_pos hb).symm
  have kb : decide (V ≤ sp) = true := by simpa using hb
  rw [← hR] at hTT hVV f2 f3 hbig
  rw [← hTT] at hbig
  have HGE := Lib.hid (fun (W : World) (hW : Rd W A n c (bcells (pack l))) => get_ok hW h01 hl hok hp1 hp2 1 LO HI VV TT hpk hLO hHI (by rw [← hR]; exact hVV) (by rw [← hR]; exact hTT) hbig)
  have HIN := Lib.hid (dvi_in l R V t h01 f3 (by omega) (by omega) f2)
  have HD0 := Lib.hid (dvi_zero l R V t)
  have HDF := Lib.hid (show dvi l R V t R.length = VV by rw [dvi_full, hVV])
  have HDS := Lib.hid (dvi_succ l R V t)
  have H3 := Lib.hid f3
  have kbig : decide ((l.length : Int) + 14 < (t : Int) + (R.length : Int)) = false := by simp; omega
  have HTT := Lib.hid hTT
  have hRl : R.length ≤ 14 := f2
  have ht0 : t ≤ 131100 := by omega
  have HP1 := Lib.hid hp1
  have HP2 := Lib.hid hp2
  have H01 := Lib.hid h01
  clear hs h01 hVO hok hw d1 d2 d3 d4 e1 e2 e3 e4 e5 f1 f3 f4 hb hpk hLO hHI hR hVV hTT hsp hbig hp1 hp2
  obtain ⟨i0, hi0, hz0, hz1, hz2⟩ := info_parts int_info
  have R_0 := ((h).alloc (.cells #[.int .i64 lo, .int .i64 hi, .int .i64 V, .int .i64 (t : Nat)] 62)).alloc (.cells #[.slice A n c, .int .i64 l.length] 25)
  have D_0 := ((Four.new w 62 (.int .i64 lo) (.int .i64 hi) (.int .i64 V) (.int .i64 (t : Nat)))).alloc (.cells #[.slice A n c, .int .i64 l.length] 25)
  have B_0 := (Two.new1 w (.cells #[.int .i64 lo, .int .i64 hi, .int .i64 V, .int .i64 (t : Nat)] 62) 25 (.slice A n c) (.int .i64 l.length))
  have Z0 := ((Below.refl w.heap.size w).alloc (by simp) (.cells #[.int .i64 lo, .int .i64 hi, .int .i64 V, .int .i64 (t : Nat)] 62)).alloc (by simp) (.cells #[.slice A n c, .int .i64 l.length] 25)
  have D_0_c0 := D_0.c0
  have D_0_c1 := D_0.c1
  have D_0_c2 := D_0.c2
  have D_0_c3 := D_0.c3
  have B_0_c0 := B_0.c0
  have B_0_c1 := B_0.c1
  go_enter Try.func9, Try.ntmps9
  go_wp2_with fail
  refine (HOP.out _ R_0).mono ?_
  rintro e w1 ⟨rfl, y1⟩
  have R_1 := ((R_0.on y1).alloc (.cells #[.int .i64 0, .int .i64 65535, .int .i64 (VO : Nat), .int .i64 16] 62)).alloc (.cells #[.int .i64 0, .int .i64 0] 27)
  have D_1 := ((D_0.on y1).alloc (.cells #[.int .i64 0, .int .i64 65535, .int .i64 (VO : Nat), .int .i64 16] 62)).alloc (.cells #[.int .i64 0, .int .i64 0] 27)
  have B_1 := ((B_0.on y1).alloc (.cells #[.int .i64 0, .int .i64 65535, .int .i64 (VO : Nat), .int .i64 16] 62)).alloc (.cells #[.int .i64 0, .int .i64 0] 27)
  have O_1 := ((Four.new w1 62 (.int .i64 0) (.int .i64 65535) (.int .i64 (VO : Nat)) (.int .i64 16))).alloc (.cells #[.int .i64 0, .int .i64 0] 27)
  have F_1 := (Two.new1 w1 (.cells #[.int .i64 0, .int .i64 65535, .int .i64 (VO : Nat), .int .i64 16] 62) 27 (.int .i64 0) (.int .i64 0))
  clear R_0 D_0 D_0_c0 D_0_c1 D_0_c2 D_0_c3 B_0 B_0_c0 B_0_c1
  have z1 := Z0.trans (y1.mono Z0.size)
  have Z1 := ((z1).alloc (by have := z1.size; omega) (.cells #[.int .i64 0, .int .i64 65535, .int .i64 (VO : Nat), .int .i64 16] 62)).alloc (by have := z1.size; simp; omega) (.cells #[.int .i64 0, .int .i64 0] 27)
  have D_1_c0 := D_1.c0
  have D_1_c1 := D_1.c1
  have D_1_c2 := D_1.c2
  have D_1_c3 := D_1.c3
  have B_1_c0 := B_1.c0
  have B_1_c1 := B_1.c1
  have O_1_c0 := O_1.c0
  have O_1_c1 := O_1.c1
  have O_1_c2 := O_1.c2
  have O_1_c3 := O_1.c3
  have F_1_c0 := F_1.c0
  have F_1_c1 := F_1.c1
  go_wp2_with fail
  refine (HGE.out _ R_1).mono ?_
  rintro e w2 ⟨rfl, y2⟩
  have R_2 := ((R_1.on y2).alloc (.cells #[.int .i64 LO, .int .i64 HI, .int .i64 VV, .int .i64 (TT : Nat)] 62)).alloc (.cells #[.int .i64 0, .int .i64 0] 27)
  have D_2 := ((D_1.on y2).alloc (.cells #[.int .i64 LO, .int .i64 HI, .int .i64 VV, .int .i64 (TT : Nat)] 62)).alloc (.cells #[.int .i64 0, .int .i64 0] 27)
  have B_2 := ((B_1.on y2).alloc (.cells #[.int .i64 LO, .int .i64 HI, .int .i64 VV, .int .i64 (TT : Nat)] 62)).alloc (.cells #[.int .i64 0, .int .i64 0] 27)
  have O_2 := ((O_1.on y2).alloc (.cells #[.int .i64 LO, .int .i64 HI, .int .i64 VV, .int .i64 (TT : Nat)] 62)).alloc (.cells #[.int .i64 0, .int .i64 0] 27)
  have F_2 := ((F_1.on y2).alloc (.cells #[.int .i64 LO, .int .i64 HI, .int .i64 VV, .int .i64 (TT : Nat)] 62)).alloc (.cells #[.int .i64 0, .int .i64 0] 27)
  have X_2 := ((Four.new w2 62 (.int .i64 LO) (.int .i64 HI) (.int .i64 VV) (.int .i64 (TT : Nat)))).alloc (.cells #[.int .i64 0, .int .i64 0] 27)
  have G_2 := (Two.new1 w2 (.cells #[.int .i64 LO, .int .i64 HI, .int .i64 VV, .int .i64 (TT : Nat)] 62) 27 (.int .i64 0) (.int .i64 0))
  clear R_1 D_1 D_1_c0 D_1_c1 D_1_c2 D_1_c3 B_1 B_1_c0 B_1_c1 O_1 O_1_c0 O_1_c1 O_1_c2 O_1_c3 F_1 F_1_c0 F_1_c1
  have z2 := Z1.trans (y2.mono Z1.size)
  have Z2 := ((z2).alloc (by have := z2.size; omega) (.cells #[.int .i64 LO, .int .i64 HI, .int .i64 VV, .int .i64 (TT : Nat)] 62)).alloc (by have := z2.size; simp; omega) (.cells #[.int .i64 0, .int .i64 0] 27)
  have D_2_c0 := D_2.c0
  have D_2_c1 := D_2.c1
  have D_2_c2 := D_2.c2
  have D_2_c3 := D_2.c3
  have B_2_c0 := B_2.c0
  have B_2_c1 := B_2.c1
  have O_2_c0 := O_2.c0
  have O_2_c1 := O_2.c1
  have O_2_c2 := O_2.c2
  have O_2_c3 := O_2.c3
  have F_2_c0 := F_2.c0
  have F_2_c1 := F_2.c1
  have X_2_c0 := X_2.c0
  have X_2_c1 := X_2.c1
  have X_2_c2 := X_2.c2
  have X_2_c3 := X_2.c3
  have G_2_c0 := G_2.c0
  have G_2_c1 := G_2.c1
  go_wp2_with fail
  refine (codes_true _).mono ?_
  rintro e w3 ⟨rfl, y3⟩
  have R_3 := R_2.on y3
  have D_3 := D_2.on y3
  have B_3 := B_2.on y3
  have O_3 := O_2.on y3
  have F_3 := F_2.on y3
  have X_3 := X_2.on y3
  have G_3 := G_2.on y3
  clear R_2 D_2 D_2_c0 D_2_c1 D_2_c2 D_2_c3 B_2 B_2_c0 B_2_c1 O_2 O_2_c0 O_2_c1 O_2_c2 O_2_c3 F_2 F_2_c0 F_2_c1 X_2 X_2_c0 X_2_c1 X_2_c2 X_2_c3 G_2 G_2_c0 G_2_c1
  have z3 := Z2.trans (y3.mono Z2.size)
  have Z3 := z3
  have D_3_c0 := D_3.c0
  have D_3_c1 := D_3.c1
  have D_3_c2 := D_3.c2
  have D_3_c3 := D_3.c3
  have B_3_c0 := B_3.c0
  have B_3_c1 := B_3.c1
  have O_3_c0 := O_3.c0
  have O_3_c1 := O_3.c1
  have O_3_c2 := O_3.c2
  have O_3_c3 := O_3.c3
  have F_3_c0 := F_3.c0
  have F_3_c1 := F_3.c1
  have X_3_c0 := X_3.c0
  have X_3_c1 := X_3.c1
  have X_3_c2 := X_3.c2
  have X_3_c3 := X_3.c3
  have G_3_c0 := G_3.c0
  have G_3_c1 := G_3.c1
  go_wp2_with fail
  refine (HBO.out _ R_3).mono ?_
  rintro e w4 ⟨rfl, y4⟩
  have R_4 := R_3.on y4
  have D_4 := D_3.on y4
  have B_4 := B_3.on y4
  have O_4 := O_3.on y4
  have F_4 := F_3.on y4
  have X_4 := X_3.on y4
  have G_4 := G_3.on y4
  clear R_3 D_3 D_3_c0 D_3_c1 D_3_c2 D_3_c3 B_3 B_3_c0 B_3_c1 O_3 O_3_c0 O_3_c1 O_3_c2 O_3_c3 F_3 F_3_c0 F_3_c1 X_3 X_3_c0 X_3_c1 X_3_c2 X_3_c3 G_3 G_3_c0 G_3_c1
  have z4 := Z3.trans (y4.mono Z3.size)
  have Z4 := z4
  have D_4_c0 := D_4.c0
  have D_4_c1 := D_4.c1
  have D_4_c2 := D_4.c2
  have D_4_c3 := D_4.c3
  have B_4_c0 := B_4.c0
  have B_4_c1 := B_4.c1
  have O_4_c0 := O_4.c0
  have O_4_c1 := O_4.c1
  have O_4_c2 := O_4.c2
  have O_4_c3 := O_4.c3
  have F_4_c0 := F_4.c0
  have F_4_c1 := F_4.c1
  have X_4_c0 := X_4.c0
  have X_4_c1 := X_4.c1
  have X_4_c2 := X_4.c2
  have X_4_c3 := X_4.c3
  have G_4_c0 := G_4.c0
  have G_4_c1 := G_4.c1
  go_wp2_with fail
  refine (HBI.out _ R_4).mono ?_
  rintro e w6 ⟨A6, c6, rfl, o6, y6⟩
  have hs6 := y6.size
  go_wp2_with fail
  go_loopw [13, 14] (fun lv i wr => ∃ (j : Nat) (P2 : Option Addr) (p3 : Nat), j ≤ 32 ∧ i = .int .i64 (j : Nat) ∧ lv = .slice P2 (l.length + j) p3 ∧ Below w4.heap.size w4 wr ∧ w4.heap.size ≤ wr.heap.size ∧ wr.ownsRow w4.heap.size 3 1 (.slice P2 (l.length + j) p3) (l.length + j) (zl l j)) (fun _ i _ => 32 - (intOf i).toNat)
  case atStart => exact ⟨0, A6, c6, Nat.zero_le _, rfl, rfl, y6, hs6, by rw [zl_zero]; exact o6⟩
  case round =>
    obtain ⟨j, P2, p3, hj, rfl, rfl, yr, hsz, oP⟩ := hrel
    have HP := Lib.hid oP
    clear oP
    by_cases hlt : j < 32
    · have HPC := Lib.hid (zl_succ l j)
      have i1 : (0 : Int) ≤ (j : Int) := by omega
      have i2 : decide ((j : Int) < 32) = true := by simp; omega
      have i3 : decide (j < 32) = true := by simp; omega
      go_wp2_with (at_builtin; refine wpList_app1 _ rfl _ _ _ rfl w4.heap.size 3 i0 _ 8 Try.underlying34 hi0 hz0 hz1 hz2 rfl _ _ _ rfl HP.out (.int .i64 0) rfl rfl ?g1 ?g2 hsz ?_)
      case g1 => unfold maxLen; omega
      case g2 => omega
      intro A14 c14 w14 o14 g14
      have Y14 := below_grown yr HP.out g14 (Nat.le_refl _) hsz
      rw [← HPC.out] at o14
      have HP14 := Lib.hid o14
      have hs14 : w4.heap.size ≤ w14.heap.size := Y14.size
      clear o14 g14
      go_wp2_with fail
      go_roundw
      case rel => exact ⟨j + 1, A14, c14, by omega, by go_num, rfl, Y14, hs14, HP14.out⟩
      case measure => simp [intOf] <;> omega
    · obtain rfl : j = 32 := by omega
      obtain ⟨w20, hw20⟩ : ∃ w20, w20 = wr := ⟨_, rfl⟩
      rw [← hw20] at yr hsz HP ⊢
      clear hw20 wr
      have U_20 := HP.out
      clear HP
      have R_20 := R_4.on yr
      have D_20 := D_4.on yr
      have B_20 := B_4.on yr
      have O_20 := O_4.on yr
      have F_20 := F_4.on yr
      have X_20 := X_4.on yr
      have G_20 := G_4.on yr
      have Z20 := Z4.trans (yr.mono Z4.size)
      clear R_4 D_4 D_4_c0 D_4_c1 D_4_c2 D_4_c3 B_4 B_4_c0 B_4_c1 O_4 O_4_c0 O_4_c1 O_4_c2 O_4_c3 F_4 F_4_c0 F_4_c1 X_4 X_4_c0 X_4_c1 X_4_c2 X_4_c3 G_4 G_4_c0 G_4_c1
      have D_20_c0 := D_20.c0
      have D_20_c1 := D_20.c1
      have D_20_c2 := D_20.c2
      have D_20_c3 := D_20.c3
      have B_20_c0 := B_20.c0
      have B_20_c1 := B_20.c1
      have O_20_c0 := O_20.c0
      have O_20_c1 := O_20.c1
      have O_20_c2 := O_20.c2
      have O_20_c3 := O_20.c3
      have F_20_c0 := F_20.c0
      have F_20_c1 := F_20.c1
      have X_20_c0 := X_20.c0
      have X_20_c1 := X_20.c1
      have X_20_c2 := X_20.c2
      have X_20_c3 := X_20.c3
      have G_20_c0 := G_20.c0
      have G_20_c1 := G_20.c1
      have hu : 32 ≤ p3 := by have := Reads.cap (Rd.own U_20); omega
      have hu2 := Reads.capMax (Rd.own U_20)
      unfold maxLen at hu2
      have z20 := Z20
      have R_b := R_20
      have R_20q := R_20.alloc (.cells #[.int .i64 0, .int .i64 0] 27)
      have D_b := D_20
      have D_20q := D_20.alloc (.cells #[.int .i64 0, .int .i64 0] 27)
      have B_b := B_20
      have B_20q := B_20.alloc (.cells #[.int .i64 0, .int .i64 0] 27)
      have O_b := O_20
      have O_20q := O_20.alloc (.cells #[.int .i64 0, .int .i64 0] 27)
      have F_b := F_20
      have F_20q := F_20.alloc (.cells #[.int .i64 0, .int .i64 0] 27)
      have X_b := X_20
      have X_20q := X_20.alloc (.cells #[.int .i64 0, .int .i64 0] 27)
      have G_b := G_20
      have G_20q := G_20.alloc (.cells #[.int .i64 0, .int .i64 0] 27)
      have U_b := U_20
      have U_20q := (own_on U_20 ((Below.refl _ _).alloc (Nat.le_refl _) (.cells #[.int .i64 0, .int .i64 0] 27)))
      have M_20q := Two.new w20 27 (.int .i64 0) (.int .i64 0)
      have CM_20q := (Below.refl w20.heap.size w20).alloc (Nat.le_refl _) (.cells #[.int .i64 0, .int .i64 0] 27)
      have Z20q := Z20.alloc Z20.size (.cells #[.int .i64 0, .int .i64 0] 27)
      clear R_20 D_20 D_20_c0 D_20_c1 D_20_c2 D_20_c3 B_20 B_20_c0 B_20_c1 O_20 O_20_c0 O_20_c1 O_20_c2 O_20_c3 F_20 F_20_c0 F_20_c1 X_20 X_20_c0 X_20_c1 X_20_c2 X_20_c3 G_20 G_20_c0 G_20_c1 U_20
      have D_20q_c0 := D_20q.c0
      have D_20q_c1 := D_20q.c1
      have D_20q_c2 := D_20q.c2
      have D_20q_c3 := D_20q.c3
      have B_20q_c0 := B_20q.c0
      have B_20q_c1 := B_20q.c1
      have O_20q_c0 := O_20q.c0
      have O_20q_c1 := O_20q.c1
      have O_20q_c2 := O_20q.c2
      have O_20q_c3 := O_20q.c3
      have F_20q_c0 := F_20q.c0
      have F_20q_c1 := F_20q.c1
      have X_20q_c0 := X_20q.c0
      have X_20q_c1 := X_20q.c1
      have X_20q_c2 := X_20q.c2
      have X_20q_c3 := X_20q.c3
      have G_20q_c0 := G_20q.c0
      have G_20q_c1 := G_20q.c1
      have M_20q_c0 := M_20q.c0
      have M_20q_c1 := M_20q.c1
      have M_20q_f0 := M_20q.f0
      have M_20q_f1 := M_20q.f1
      go_wp2_with fail
      go_quiet ((go_at_call 33; exact Calls.quiet_of_same (HNU.out _ _ _ (pre16 (own_drewN U_20q _)))))
      have R_21 := Rd.drewN R_20q nq
      have D_21 := Four.drewN D_20q nq
      have B_21 := Two.drewN B_20q nq
      have O_21 := Four.drewN O_20q nq
      have F_21 := Two.drewN F_20q nq
      have X_21 := Four.drewN X_20q nq
      have G_21 := Two.drewN G_20q nq
      have U_21 := own_drewN U_20q nq
      have M_21 := Two.drewN M_20q nq
      have Z21 := belowN Z20q nq
      have CM_21 := belowN CM_20q nq
      clear R_20q D_20q D_20q_c0 D_20q_c1 D_20q_c2 D_20q_c3 B_20q B_20q_c0 B_20q_c1 O_20q O_20q_c0 O_20q_c1 O_20q_c2 O_20q_c3 F_20q F_20q_c0 F_20q_c1 X_20q X_20q_c0 X_20q_c1 X_20q_c2 X_20q_c3 G_20q G_20q_c0 G_20q_c1 U_20q M_20q M_20q_c0 M_20q_c1 M_20q_f0 M_20q_f1
      obtain ⟨w21, hw21⟩ : ∃ w21, w21 = (w20.alloc (.cells #[.int .i64 0, .int .i64 0] 27)).drewN nq := ⟨_, rfl⟩
      rw [← hw21] at R_21 D_21 B_21 O_21 F_21 X_21 G_21 U_21 M_21 Z21 CM_21
      rw [← hw21]
      clear hw21
      have D_21_c0 := D_21.c0
      have D_21_c1 := D_21.c1
      have D_21_c2 := D_21.c2
      have D_21_c3 := D_21.c3
      have B_21_c0 := B_21.c0
      have B_21_c1 := B_21.c1
      have O_21_c0 := O_21.c0
      have O_21_c1 := O_21.c1
      have O_21_c2 := O_21.c2
      have O_21_c3 := O_21.c3
      have F_21_c0 := F_21.c0
      have F_21_c1 := F_21.c1
      have X_21_c0 := X_21.c0
      have X_21_c1 := X_21.c1
      have X_21_c2 := X_21.c2
      have X_21_c3 := X_21.c3
      have G_21_c0 := G_21.c0
      have G_21_c1 := G_21.c1
      have M_21_c0 := M_21.c0
      have M_21_c1 := M_21.c1
      have M_21_f0 := M_21.f0
      have M_21_f1 := M_21.f1
      have CM_22 := (CM_21.setCell (p := ⟨w20.heap.size, 0, none⟩) (by simp) (.int .i64 0)).setCell (p := ⟨w20.heap.size, 1, none⟩) (by simp) (.int .i64 0)
      have Z22 := (Z21.setCell (p := ⟨w20.heap.size, 0, none⟩) (by have := z20.size; simp; omega) (.int .i64 0)).setCell (p := ⟨w20.heap.size, 1, none⟩) (by have := z20.size; simp; omega) (.int .i64 0)
      have R_22 := R_b.on CM_22
      have D_22 := D_b.on CM_22
      have B_22 := B_b.on CM_22
      have O_22 := O_b.on CM_22
      have F_22 := F_b.on CM_22
      have X_22 := X_b.on CM_22
      have G_22 := G_b.on CM_22
      have U_22 := own_on U_b CM_22
      have M_22 := (M_21.set0 (.int .i64 0)).set1 (.int .i64 0)
      have D_22_c0 := D_22.c0
      have D_22_c1 := D_22.c1
      have D_22_c2 := D_22.c2
      have D_22_c3 := D_22.c3
      have B_22_c0 := B_22.c0
      have B_22_c1 := B_22.c1
      have O_22_c0 := O_22.c0
      have O_22_c1 := O_22.c1
      have O_22_c2 := O_22.c2
      have O_22_c3 := O_22.c3
      have F_22_c0 := F_22.c0
      have F_22_c1 := F_22.c1
      have X_22_c0 := X_22.c0
      have X_22_c1 := X_22.c1
      have X_22_c2 := X_22.c2
      have X_22_c3 := X_22.c3
      have G_22_c0 := G_22.c0
      have G_22_c1 := G_22.c1
      have M_22_c0 := M_22.c0
      have M_22_c1 := M_22.c1
      have M_22_f0 := M_22.f0
      have M_22_f1 := M_22.f1
      go_wp2_with fail
      refine (HDO.out _).mono ?_
      rintro e w23 ⟨rfl, y23⟩
      have R_23 := R_22.on y23
      have D_23 := D_22.on y23
      have B_23 := B_22.on y23
      have O_23 := O_22.on y23
      have F_23 := F_22.on y23
      have X_23 := X_22.on y23
      have G_23 := G_22.on y23
      have U_23 := own_on U_22 y23
      have M_23 := M_22.on y23
      clear R_21 D_21 D_21_c0 D_21_c1 D_21_c2 D_21_c3 B_21 B_21_c0 B_21_c1 O_21 O_21_c0 O_21_c1 O_21_c2 O_21_c3 F_21 F_21_c0 F_21_c1 X_21 X_21_c0 X_21_c1 X_21_c2 X_21_c3 G_21 G_21_c0 G_21_c1 U_21 M_21 M_21_c0 M_21_c1 M_21_f0 M_21_f1 R_22 D_22 D_22_c0 D_22_c1 D_22_c2 D_22_c3 B_22 B_22_c0 B_22_c1 O_22 O_22_c0 O_22_c1 O_22_c2 O_22_c3 F_22 F_22_c0 F_22_c1 X_22 X_22_c0 X_22_c1 X_22_c2 X_22_c3 G_22 G_22_c0 G_22_c1 U_22 M_22 M_22_c0 M_22_c1 M_22_f0 M_22_f1
      have z23 := Z22.trans (y23.mono Z22.size)
      have Z23 := z23
      have cM23 := CM_22.trans (y23.mono CM_22.size)
      have CM_23 := cM23
      have D_23_c0 := D_23.c0
      have D_23_c1 := D_23.c1
      have D_23_c2 := D_23.c2
      have D_23_c3 := D_23.c3
      have B_23_c0 := B_23.c0
      have B_23_c1 := B_23.c1
      have O_23_c0 := O_23.c0
      have O_23_c1 := O_23.c1
      have O_23_c2 := O_23.c2
      have O_23_c3 := O_23.c3
      have F_23_c0 := F_23.c0
      have F_23_c1 := F_23.c1
      have X_23_c0 := X_23.c0
      have X_23_c1 := X_23.c1
      have X_23_c2 := X_23.c2
      have X_23_c3 := X_23.c3
      have G_23_c0 := G_23.c0
      have G_23_c1 := G_23.c1
      have M_23_c0 := M_23.c0
      have M_23_c1 := M_23.c1
      have M_23_f0 := M_23.f0
      have M_23_f1 := M_23.f1
      go_wp2_with fail
      refine (in_yes _ _ _ _ HP1.out HP2.out).mono ?_
      rintro e w9_1 ⟨rfl, rfl⟩
      go_wp2_with fail
      go_quiet ((go_at_call 35; exact Calls.quiet_of_same (HSP.out _)))
      have R_24 := Rd.drewN R_23 nq
      have D_24 := Four.drewN D_23 nq
      have B_24 := Two.drewN B_23 nq
      have O_24 := Four.drewN O_23 nq
      have F_24 := Two.drewN F_23 nq
      have X_24 := Four.drewN X_23 nq
      have G_24 := Two.drewN G_23 nq
      have U_24 := own_drewN U_23 nq
      have M_24 := Two.drewN M_23 nq
      have Z24 := belowN Z23 nq
      have CM_24 := belowN CM_23 nq
      clear R_23 D_23 D_23_c0 D_23_c1 D_23_c2 D_23_c3 B_23 B_23_c0 B_23_c1 O_23 O_23_c0 O_23_c1 O_23_c2 O_23_c3 F_23 F_23_c0 F_23_c1 X_23 X_23_c0 X_23_c1 X_23_c2 X_23_c3 G_23 G_23_c0 G_23_c1 U_23 M_23 M_23_c0 M_23_c1 M_23_f0 M_23_f1
      obtain ⟨w24, hw24⟩ : ∃ w24, w24 = w23.drewN nq := ⟨_, rfl⟩
      rw [← hw24] at R_24 D_24 B_24 O_24 F_24 X_24 G_24 U_24 M_24 Z24 CM_24
      rw [← hw24]
      clear hw24
      have D_24_c0 := D_24.c0
      have D_24_c1 := D_24.c1
      have D_24_c2 := D_24.c2
      have D_24_c3 := D_24.c3
      have B_24_c0 := B_24.c0
      have B_24_c1 := B_24.c1
      have O_24_c0 := O_24.c0
      have O_24_c1 := O_24.c1
      have O_24_c2 := O_24.c2
      have O_24_c3 := O_24.c3
      have F_24_c0 := F_24.c0
      have F_24_c1 := F_24.c1
      have X_24_c0 := X_24.c0
      have X_24_c1 := X_24.c1
      have X_24_c2 := X_24.c2
      have X_24_c3 := X_24.c3
      have G_24_c0 := G_24.c0
      have G_24_c1 := G_24.c1
      have M_24_c0 := M_24.c0
      have M_24_c1 := M_24.c1
      have M_24_f0 := M_24.f0
      have M_24_f1 := M_24.f1
      go_wp2_with fail
      refine (HST.out _).mono ?_
      rintro e w25 ⟨A15, n15, c15, rfl, hn15, o15, y25⟩
      have R_25 := R_24.on y25
      have D_25 := D_24.on y25
      have B_25 := B_24.on y25
      have O_25 := O_24.on y25
      have F_25 := F_24.on y25
      have X_25 := X_24.on y25
      have G_25 := G_24.on y25
      have U_25 := own_on U_24 y25
      have M_25 := M_24.on y25
      have T_25 := o15
      clear R_24 D_24 D_24_c0 D_24_c1 D_24_c2 D_24_c3 B_24 B_24_c0 B_24_c1 O_24 O_24_c0 O_24_c1 O_24_c2 O_24_c3 F_24 F_24_c0 F_24_c1 X_24 X_24_c0 X_24_c1 X_24_c2 X_24_c3 G_24 G_24_c0 G_24_c1 U_24 M_24 M_24_c0 M_24_c1 M_24_f0 M_24_f1
      have z25 := Z24.trans (y25.mono Z24.size)
      have Z25 := z25
      have cM25 := CM_24.trans (y25.mono CM_24.size)
      have CM_25 := cM25
      have D_25_c0 := D_25.c0
      have D_25_c1 := D_25.c1
      have D_25_c2 := D_25.c2
      have D_25_c3 := D_25.c3
      have B_25_c0 := B_25.c0
      have B_25_c1 := B_25.c1
      have O_25_c0 := O_25.c0
      have O_25_c1 := O_25.c1
      have O_25_c2 := O_25.c2
      have O_25_c3 := O_25.c3
      have F_25_c0 := F_25.c0
      have F_25_c1 := F_25.c1
      have X_25_c0 := X_25.c0
      have X_25_c1 := X_25.c1
      have X_25_c2 := X_25.c2
      have X_25_c3 := X_25.c3
      have G_25_c0 := G_25.c0
      have G_25_c1 := G_25.c1
      have M_25_c0 := M_25.c0
      have M_25_c1 := M_25.c1
      have M_25_f0 := M_25.f0
      have M_25_f1 := M_25.f1
      subst hn15
      have RT := Rd.own T_25
      have RU := Rd.own U_25
      go_wp2_with fail
      go_loopw [20, 21] (fun v i wr => ∃ j m : Nat, j ≤ R.length ∧ i = .int .i64 (j : Nat) ∧ v = .int .i64 (dvi l R V t j) ∧ wr = w25.drewN m) (fun _ i _ => R.length - (intOf i).toNat)
      case atStart => exact ⟨0, 0, Nat.zero_le _, rfl, by rw [HD0.out], rfl⟩
      case round =>
        obtain ⟨j, m, hj, rfl, rfl, rfl⟩ := hrel
        obtain ⟨v1, v2⟩ := HIN.out j hj
        by_cases hlt : j < R.length
        · have hsu := HDS.out j hlt
          obtain ⟨v3, v4⟩ := HIN.out (j + 1) hlt
          have hk2 := H3.out _ (List.getElem_mem hlt)
          obtain ⟨kj, hkj⟩ : ∃ kj, kj = R[j] := ⟨_, rfl⟩
          have hg1 := getD01 H01.out (t + j)
          have hg2 := zl_get (l := l) (j := 32) (i := t + j) (by have := kbig; simp at this; omega)
          obtain ⟨bj, hbj⟩ : ∃ bj, bj = l.getD (t + j) 0 := ⟨_, rfl⟩
          rw [← hkj] at hsu hk2
          rw [← hbj] at hsu hg1 hg2
          obtain ⟨g7, o7, hA7, hb7, hc7⟩ := RT.2.2.2 (by omega)
          obtain ⟨g8, o8, hA8, hb8, hc8⟩ := RU.2.2.2 (by omega)
          subst hA7 hA8
          have hcell7 := hc7 j (.int .i64 (kj : Nat)) (by unfold ncells; rw [List.getElem?_map, List.getElem?_eq_getElem hlt, hkj]; rfl)
          have hcell8 := hc8 (t + j) _ hg2
          obtain ⟨dj, hdj⟩ : ∃ dj, dj = dvi l R V t j := ⟨_, rfl⟩
          obtain ⟨dk, hdk⟩ : ∃ dk, dk = dvi l R V t (j + 1) := ⟨_, rfl⟩
          rw [← hdj] at v1 v2 hsu ⊢
          rw [← hdk] at v3 v4 hsu
          have HDK := Lib.hid hdk
          have i1 : (0 : Int) ≤ (j : Int) := by omega
          have i2 : (j : Int) < (R.length : Int) := by omega
          have i3 : (0 : Int) ≤ (t : Int) + (j : Int) := by omega
          have i4 : (t : Int) + (j : Int) < (l.length : Int) + 32 := by have := kbig; simp at this; omega
          have HSU := Lib.hid hsu
          clear hc7 hc8 hkj hbj hdj hdk hsu hg2
          go_wp2_with fail
          go_quiet (fail)
          go_wp2_with fail
          go_roundw
          case rel => exact ⟨j + 1, m + nq, by omega, by go_num, by rw [← HDK.out, HSU.out], rfl⟩
          case measure => simp [intOf] <;> omega
        · obtain rfl : j = R.length := by omega
          rw [HDF.out]
          clear T_25 U_25 R_25
          have D_26 := D_25.drewN m
          have B_26 := B_25.drewN m
          have O_26 := O_25.drewN m
          have F_26 := F_25.drewN m
          have X_26 := X_25.drewN m
          have G_26 := G_25.drewN m
          have M_26 := M_25.drewN m
          have Z26 := belowN Z25 m
          clear D_25 D_25_c0 D_25_c1 D_25_c2 D_25_c3 B_25 B_25_c0 B_25_c1 O_25 O_25_c0 O_25_c1 O_25_c2 O_25_c3 F_25 F_25_c0 F_25_c1 X_25 X_25_c0 X_25_c1 X_25_c2 X_25_c3 G_25 G_25_c0 G_25_c1 M_25 M_25_c0 M_25_c1 M_25_f0 M_25_f1
          obtain ⟨w26, hw26⟩ : ∃ w26, w26 = w25.drewN m := ⟨_, rfl⟩
          rw [← hw26] at D_26 B_26 O_26 F_26 X_26 G_26 M_26 Z26
          rw [← hw26]
          clear hw26
          have D_26_c0 := D_26.c0
          have D_26_c1 := D_26.c1
          have D_26_c2 := D_26.c2
          have D_26_c3 := D_26.c3
          have B_26_c0 := B_26.c0
          have B_26_c1 := B_26.c1
          have O_26_c0 := O_26.c0
          have O_26_c1 := O_26.c1
          have O_26_c2 := O_26.c2
          have O_26_c3 := O_26.c3
          have F_26_c0 := F_26.c0
          have F_26_c1 := F_26.c1
          have X_26_c0 := X_26.c0
          have X_26_c1 := X_26.c1
          have X_26_c2 := X_26.c2
          have X_26_c3 := X_26.c3
          have G_26_c0 := G_26.c0
          have G_26_c1 := G_26.c1
          have M_26_c0 := M_26.c0
          have M_26_c1 := M_26.c1
          have M_26_f0 := M_26.f0
          have M_26_f1 := M_26.f1
          have hTT2 := HTT.out
          subst hTT2
          go_wp2
          go_ret
          exact ⟨rfl, Z26⟩
theorem ag_all {A : Option Addr} {n c : Nat} {lo hi V t p : Int} {d : List Nat} {cnt : Int} (hd : ∀ k, d.getD k 0 < 256) (hlo : -9223372036854775808 ≤ cnt) (hhi : cnt ≤ 9223372036854775807) (w : World) (h : Rd w A n c (bcells d)) : Calls Try.prog 9 #[.agg #[.int .i64 lo, .int .i64 hi, .int .i64 V, .int .i64 t], .agg #[.slice A n c, .int .i64 cnt], .int .i64 p] w fun e w' => e = .returned (.bool true) ∧ Below w.heap.size w w' := by
  by_cases hno : Ok d cnt
  · obtain ⟨l, q1, q2, rfl, rfl⟩ := hno.list hd
    by_cases hs : l.length < 2
    · by_cases hok : DecOk lo hi V t
      · by_cases hp : 1 ≤ p ∧ p ≤ 4095
        · obtain ⟨m, rfl⟩ : ∃ m : Nat, t = (m : Nat) := ⟨t.toNat, by have := hok.2.2.1; omega⟩
          by_cases hb : V ≤ splitOf lo hi p
          · by_cases hbig : l.length + 14 < m + (stp lo hi 1 p).2.2.length
            · exact ag_short_big1 q1 q2 hs hok hp.1 hp.2 hb hbig w h
            · exact absurd hok.2.2.1 (by omega)
          · by_cases hbig : l.length + 14 < m + (stp lo hi 0 p).2.2.length
            · exact ag_short_big0 q1 q2 hs hok hp.1 hp.2 hb hbig w h
            · exact absurd hok.2.2.1 (by omega)
        · exact ag_short_prob q1 q2 hs hok hp w h
      · exact ag_short_bad q1 q2 hs hok w h
    · have hs : 2 ≤ l.length := by omega
      by_cases hok : DecOk lo hi V t
      · by_cases hp : 1 ≤ p ∧ p ≤ 4095
        · obtain ⟨m, rfl⟩ : ∃ m : Nat, t = (m : Nat) := ⟨t.toNat, by have := hok.2.2.1; omega⟩
          by_cases hb : V ≤ splitOf lo hi p
          · by_cases hbig : l.length + 14 < m + (stp lo hi 1 p).2.2.length
            · exact ag_good_big1 q1 q2 hs hok hp.1 hp.2 hb hbig w h
            · exact ag_good_ok1 q1 q2 hs hok hp.1 hp.2 hb (by omega) w h
          · by_cases hbig : l.length + 14 < m + (stp lo hi 0 p).2.2.length
            · exact ag_good_big0 q1 q2 hs hok hp.1 hp.2 hb hbig w h
            · exact ag_good_ok0 q1 q2 hs hok hp.1 hp.2 hb (by omega) w h
        · exact ag_good_prob q1 q2 hs hok hp w h
      · exact ag_good_bad q1 q2 hs hok w h
  · by_cases hok : DecOk lo hi V t
    · exact ag_form_form hd hlo hhi hno hok w h
    · exact ag_form_bad hd hlo hhi hno hok w h
end PB
end Go.Proofs.Ytnnpkajmheglgaa
