/-
  What is predicted for a bit does not depend on the bits after it, where the two lists together have room: the walk of the statement ModelLooksBackOnly.
-/
import Derived.Test.YtmkkbedbgkhbpaaRows
import Derived.Test.YtmkkbedbgkhbpaaMdEx
import Derived.Deep.RegionHeld3
import Derived.Deep.DrawnRows
import Derived.Deep.Cut
namespace Go.Proofs.Ytmkkbedbgkhbpaa
open Go.RowKit
attribute [local go_sem ↓] Go.wp_at_zero Go.wp_at_succ
set_option linter.unusedVariables false
set_option linter.unusedSimpArgs false
namespace PB
theorem icells_append (a b : List Int) : icells (a ++ b) = icells a ++ icells b := by simp [icells]
theorem ncells_icells (l : List Nat) : ncells l = icells (l.map fun x : Nat => (x : Int)) := by simp [ncells, icells]
theorem Rd.toI {w : World} {A : Option Addr} {n c : Nat} {l : List Nat} (h : Rd w A n c (ncells l)) : Rd w A n c (icells (l.map fun x : Nat => (x : Int))) := by rw [← ncells_icells]; exact h
/-- The first numbers of a row. -/
theorem Rd.first {P : Program} {w : World} {A : Option Addr} {n c : Nat} {xs : List Value} (t e : TypeId) (i : TypeInfo) (ht : P.underlying t = some (.slice e)) (hi : P.info? e = some i) (hsize : i.size = 1) (h : Rd w A n c xs) (m : Nat) (hm : m ≤ n) :
    ∃ A', (∀ W, (Instr.slice t (.slice A n c) none (some (.int .i64 (m : Nat))) none).run P W = .ok (.slice A' m c) W) ∧ Rd w A' m c (xs.take m) := by
  have hn := h.len
  have hcap := Reads.cap h
  have hcm := Reads.capMax h
  have hrun : ∀ W, (Instr.slice t (.slice A n c) none (some (.int .i64 (m : Nat))) none).run P W = .ok (.slice (if c = 0 then A else A.map (·.add 0)) m c) W := by
    intro W
    have h1 : m ≤ c := by omega
    simp [Instr.slice, Instr.sliceBounds, Instr.sliceBound, asIntOf, run_underlying ht, sizeOf, typeInfo, hi, hsize, h1, go_sem]
  refine ⟨_, hrun, ?_⟩
  obtain ⟨h1, h2, h3, h4⟩ := h
  refine ⟨by rw [List.length_take]; omega, by omega, h3, fun h0 => ?_⟩
  obtain ⟨b, off, e, hb, hcc⟩ := h4 (by omega)
  refine ⟨b, off, ?_, hb, fun j u hu => ?_⟩
  · rw [e]
    split
    · rfl
    · show some ((⟨b, off, none⟩ : Addr).add 0) = _
      unfold Addr.add
      simp
  · have hj : j < m := by
      rcases Nat.lt_or_ge j m with h | h
      · exact h
      · rw [List.getElem?_eq_none (by rw [List.length_take]; omega)] at hu; cases hu
    rw [List.getElem?_take, if_pos hj] at hu
    exact hcc j u hu
theorem allpreds_take (ord : Nat) (h m : List Nat) : (allpreds ord (h ++ m)).take (h.length + 1) = allpreds ord h := by
  unfold allpreds
  rw [← List.map_take, List.take_range, List.length_append]
  rw [show min (h.length + 1) (h.length + m.length + 1) = h.length + 1 by omega]
  refine List.map_congr_left fun i hi => ?_
  rw [List.mem_range] at hi
  exact predv_append h m i ord (by omega)
theorem toBits_append (a b : List Int) : toBits (a ++ b) = toBits a ++ toBits b := by simp [toBits]
set_option maxRecDepth 100000 in
set_option maxHeartbeats 1600000 in
theorem mb_00 {A : Option Addr} {n c : Nat} {xs : List Int} {A2 : Option Addr} {n2 c2 : Nat} {ys : List Int} {oi : Int} (room : n + n2 ≤ 1048576) {idx1 : Int} (hC1 : POut oi xs 0 idx1) {idx2 : Int} (hC2 : POut oi (xs ++ ys) 0 idx2) (w : World) (h : Rd w A n c (icells xs)) (h2 : Rd w A2 n2 c2 (icells ys)) :
    Calls Try.prog 5 #[.int .i64 oi, .slice A n c, .slice A2 n2 c2] w fun e w' => e = .returned (.bool true) ∧ Below w.heap.size w w' := by
  have hn := h.len
  simp only [icells, List.length_map] at hn
  have hn2 := h2.len
  simp only [icells, List.length_map] at hn2
  subst hn hn2
  obtain ⟨j0, bi, bz0, bz1, bz2⟩ := info_parts int_info
  obtain ⟨N, hN⟩ : ∃ N, N = xs.length + ys.length := ⟨_, rfl⟩
  have HNN := Lib.hid hN
  have hN1 : N ≤ 1048576 := by omega
  have HBC := Lib.hid (show icells xs ++ icells ys = icells (xs ++ ys) by rw [icells_append])
  have BZ1 := Lib.hid bz1
  have z0 : 0 + xs.length = xs.length := Nat.zero_add _
  have HX1 := Lib.hid (show (allpreds oi.toNat (toBits xs)).length = xs.length + 1 by rw [allpreds_length, toBits_length])
  obtain ⟨-, hl1, -, rfl⟩ := pout_ok hC1 rfl
  have HP1 := Lib.hid (fun (W : World) (B : Option Addr) (c : Nat) (hW : Rd W B xs.length c (icells xs)) => mpredict_any hW oi 0 0 hC1 (allpreds oi.toNat (toBits xs)) (by rw [if_pos rfl]) (xs.length + 1) HX1.out.symm)
  clear hC1
  have HX2 := Lib.hid (show (allpreds oi.toNat (toBits (xs ++ ys))).length = N + 1 by rw [allpreds_length, toBits_length]; rw [List.length_append, hN])
  obtain ⟨-, hl2, -, rfl⟩ := pout_ok hC2 rfl
  have HP2 := Lib.hid (fun (W : World) (B : Option Addr) (c : Nat) (hW : Rd W B N c (icells (xs ++ ys))) => mpredict_any hW oi 0 0 hC2 (allpreds oi.toNat (toBits (xs ++ ys))) (by rw [if_pos rfl]) (N + 1) HX2.out.symm)
  clear hC2
  have HEQ := Lib.hid (show (allpreds oi.toNat (toBits (xs ++ ys))).take (xs.length + 1) = allpreds oi.toNat (toBits xs) by have := allpreds_take oi.toNat (toBits xs) (toBits ys); rw [toBits_length, ← toBits_append] at this; exact this)
  rw [List.length_append, ← hN] at hl2
  go_enter Try.func5, Try.ntmps5
  go_wp2_with (at_builtin; refine wpList_append_any _ rfl _ _ _ rfl w.heap.size 3 j0 _ 8 Try.underlying22 bi bz0 bz1 bz2 rfl _ _ _ rfl (World.ownsRow_nil _ _ _ _) _ _ xs.length c _ rfl h (icells_one _) ?g1 ?g2 (Nat.le_refl _) ?_)
  case g1 => unfold maxLen; omega
  case g2 => omega
  intro A3 c3 w3 o3 g3 a3
  have Y3 := (Below.refl w.heap.size w).grown g3 (Nat.le_refl _) (fun g hg => by cases hg)
  (try simp only [Nat.zero_add, List.nil_append] at o3)
  have HO3 := Lib.hid o3
  have D3 := h2.on Y3
  have E3 := h.on Y3
  have Y3s := Y3.size
  clear o3 g3 a3
  go_wp2_with (at_builtin; refine wpList_append_any _ rfl _ _ _ rfl w.heap.size 3 j0 _ 8 Try.underlying22 bi bz0 bz1 bz2 rfl _ _ _ rfl (by have := HO3.out; (try rw [z0] at this); (try rw [z0]); exact this) _ _ ys.length c2 _ rfl D3 (icells_one _) ?g1 ?g2 Y3s ?_)
  case g1 => unfold maxLen; omega
  case g2 => omega
  intro A4 c4 w4 o4 g4 a4
  have Z4 := below_grown Y3 (by have := HO3.out; (try rw [z0] at this); (try rw [z0]); exact this) g4 (Nat.le_refl _) Y3s
  rw [HBC.out] at o4
  (try simp only [Nat.zero_add])
  (try simp only [Nat.zero_add] at o4)
  rw [← HNN.out] at o4
  try rw [← HNN.out]
  have R_4 := Rd.on h Z4
  have L_4 := Rd.own o4
  clear o4 g4 a4 D3 HO3 Y3 Y3s h h2 z0 hN bz0 bz1 bz2 E3
  go_wp2_with fail
  refine (HP1.out _ _ _ R_4).mono ?_
  rintro e w5 ⟨A5, c5, rfl, R5, y5⟩
  have R_5 := (R_4.on y5).alloc (.cells #[.int .i64 0, .int .i64 0] 24)
  have L_5 := (L_4.on y5).alloc (.cells #[.int .i64 0, .int .i64 0] 24)
  have P_5 := (R5).alloc (.cells #[.int .i64 0, .int .i64 0] 24)
  have F_5 := (Two.new w5 24 (.int .i64 0) (.int .i64 0))
  clear R_4 L_4
  have z5 := Z4.trans (y5.mono Z4.size)
  have Z5 := (z5).alloc (by have := z5.size; omega) (.cells #[.int .i64 0, .int .i64 0] 24)
  have F_5_c0 := F_5.c0
  have F_5_c1 := F_5.c1
  go_wp2_with fail
  refine (HP2.out _ _ _ L_5).mono ?_
  rintro e w6 ⟨A6, c6, rfl, R6, y6⟩
  have R_6 := (R_5.on y6).alloc (.cells #[.int .i64 0, .int .i64 0] 24)
  have L_6 := (L_5.on y6).alloc (.cells #[.int .i64 0, .int .i64 0] 24)
  have P_6 := (P_5.on y6).alloc (.cells #[.int .i64 0, .int .i64 0] 24)
  have F_6 := (F_5.on y6).alloc (.cells #[.int .i64 0, .int .i64 0] 24)
  have Q_6 := (R6).alloc (.cells #[.int .i64 0, .int .i64 0] 24)
  have G_6 := (Two.new w6 24 (.int .i64 0) (.int .i64 0))
  clear R_5 L_5 P_5 F_5 F_5_c0 F_5_c1
  have z6 := Z5.trans (y6.mono Z5.size)
  have Z6 := (z6).alloc (by have := z6.size; omega) (.cells #[.int .i64 0, .int .i64 0] 24)
  have F_6_c0 := F_6.c0
  have F_6_c1 := F_6.c1
  have G_6_c0 := G_6.c0
  have G_6_c1 := G_6.c1
  go_wp2_with fail
  refine (predicts_true _).mono ?_
  rintro e w7 ⟨rfl, y7⟩
  have R_7 := R_6.on y7
  have L_7 := L_6.on y7
  have P_7 := P_6.on y7
  have F_7 := F_6.on y7
  have Q_7 := Q_6.on y7
  have G_7 := G_6.on y7
  clear R_6 L_6 P_6 F_6 F_6_c0 F_6_c1 Q_6 G_6 G_6_c0 G_6_c1
  have z7 := Z6.trans (y7.mono Z6.size)
  have Z7 := z7
  have F_7_c0 := F_7.c0
  have F_7_c1 := F_7.c1
  have G_7_c0 := G_7.c0
  have G_7_c1 := G_7.c1
  obtain ⟨A8, hrun, hrd⟩ := Rd.first (P := Try.prog) 22 3 j0 Try.underlying22 bi BZ1.out Q_7 (xs.length + 1) (by have := HNN.out; omega)
  have HRP := Lib.hid (Rd.toI P_7)
  have hrd2 : Rd w7 A8 (xs.length + 1) c6 (ncells ((allpreds oi.toNat (toBits (xs ++ ys))).take (xs.length + 1))) := by
    have := hrd
    unfold ncells at this ⊢
    rw [List.map_take]; exact this
  rw [HEQ.out] at hrd2
  have HRQ := Lib.hid (Rd.toI hrd2)
  clear hrd hrd2
  have hrun2 : ∀ W, (Instr.slice 22 (.slice A6 (N + 1) c6) none (some (.int .i64 ((xs.length : Int) + 1))) none).run Try.prog W = .ok (.slice A8 (xs.length + 1) c6) W := hrun
  clear hrun
  go_wp2_with fail
  refine (ints_any HRP.out HRQ.out true (by simp)).mono ?_
  rintro e w9 ⟨rfl, y9⟩
  go_wp2
  go_ret
  exact ⟨rfl, Z7.trans (y9.mono Z7.size)⟩
set_option maxRecDepth 100000 in
set_option maxHeartbeats 1600000 in
theorem mb_01 {A : Option Addr} {n c : Nat} {xs : List Int} {A2 : Option Addr} {n2 c2 : Nat} {ys : List Int} {oi : Int} (room : n + n2 ≤ 1048576) {idx1 : Int} (hC1 : POut oi xs 0 idx1) {code2 idx2 : Int} (hC2 : POut oi (xs ++ ys) code2 idx2) (hc2 : code2 ≠ 0) (w : World) (h : Rd w A n c (icells xs)) (h2 : Rd w A2 n2 c2 (icells ys)) :
    Calls Try.prog 5 #[.int .i64 oi, .slice A n c, .slice A2 n2 c2] w fun e w' => e = .returned (.bool true) ∧ Below w.heap.size w w' := by
  have hn := h.len
  simp only [icells, List.length_map] at hn
  have hn2 := h2.len
  simp only [icells, List.length_map] at hn2
  subst hn hn2
  obtain ⟨j0, bi, bz0, bz1, bz2⟩ := info_parts int_info
  obtain ⟨N, hN⟩ : ∃ N, N = xs.length + ys.length := ⟨_, rfl⟩
  have HNN := Lib.hid hN
  have hN1 : N ≤ 1048576 := by omega
  have HBC := Lib.hid (show icells xs ++ icells ys = icells (xs ++ ys) by rw [icells_append])
  have BZ1 := Lib.hid bz1
  have z0 : 0 + xs.length = xs.length := Nat.zero_add _
  have HX1 := Lib.hid (show (allpreds oi.toNat (toBits xs)).length = xs.length + 1 by rw [allpreds_length, toBits_length])
  obtain ⟨-, hl1, -, rfl⟩ := pout_ok hC1 rfl
  have HP1 := Lib.hid (fun (W : World) (B : Option Addr) (c : Nat) (hW : Rd W B xs.length c (icells xs)) => mpredict_any hW oi 0 0 hC1 (allpreds oi.toNat (toBits xs)) (by rw [if_pos rfl]) (xs.length + 1) HX1.out.symm)
  clear hC1
  have k2 : (code2 != 0) = true := by rw [bne_iff_ne]; exact hc2
  have k2e : (code2 == 0) = false := by rw [beq_eq_false_iff_ne]; exact hc2
  have HP2 := Lib.hid (fun (W : World) (B : Option Addr) (c : Nat) (hW : Rd W B N c (icells (xs ++ ys))) => mpredict_any hW oi code2 idx2 hC2 [] (by rw [if_neg hc2]) 0 rfl)
  clear hc2
  clear hC2
  go_enter Try.func5, Try.ntmps5
  go_wp2_with (at_builtin; refine wpList_append_any _ rfl _ _ _ rfl w.heap.size 3 j0 _ 8 Try.underlying22 bi bz0 bz1 bz2 rfl _ _ _ rfl (World.ownsRow_nil _ _ _ _) _ _ xs.length c _ rfl h (icells_one _) ?g1 ?g2 (Nat.le_refl _) ?_)
  case g1 => unfold maxLen; omega
  case g2 => omega
  intro A3 c3 w3 o3 g3 a3
  have Y3 := (Below.refl w.heap.size w).grown g3 (Nat.le_refl _) (fun g hg => by cases hg)
  (try simp only [Nat.zero_add, List.nil_append] at o3)
  have HO3 := Lib.hid o3
  have D3 := h2.on Y3
  have E3 := h.on Y3
  have Y3s := Y3.size
  clear o3 g3 a3
  go_wp2_with (at_builtin; refine wpList_append_any _ rfl _ _ _ rfl w.heap.size 3 j0 _ 8 Try.underlying22 bi bz0 bz1 bz2 rfl _ _ _ rfl (by have := HO3.out; (try rw [z0] at this); (try rw [z0]); exact this) _ _ ys.length c2 _ rfl D3 (icells_one _) ?g1 ?g2 Y3s ?_)
  case g1 => unfold maxLen; omega
  case g2 => omega
  intro A4 c4 w4 o4 g4 a4
  have Z4 := below_grown Y3 (by have := HO3.out; (try rw [z0] at this); (try rw [z0]); exact this) g4 (Nat.le_refl _) Y3s
  rw [HBC.out] at o4
  (try simp only [Nat.zero_add])
  (try simp only [Nat.zero_add] at o4)
  rw [← HNN.out] at o4
  try rw [← HNN.out]
  have R_4 := Rd.on h Z4
  have L_4 := Rd.own o4
  clear o4 g4 a4 D3 HO3 Y3 Y3s h h2 z0 hN bz0 bz1 bz2 E3
  go_wp2_with fail
  refine (HP1.out _ _ _ R_4).mono ?_
  rintro e w5 ⟨A5, c5, rfl, R5, y5⟩
  have R_5 := (R_4.on y5).alloc (.cells #[.int .i64 0, .int .i64 0] 24)
  have L_5 := (L_4.on y5).alloc (.cells #[.int .i64 0, .int .i64 0] 24)
  have P_5 := (R5).alloc (.cells #[.int .i64 0, .int .i64 0] 24)
  have F_5 := (Two.new w5 24 (.int .i64 0) (.int .i64 0))
  clear R_4 L_4
  have z5 := Z4.trans (y5.mono Z4.size)
  have Z5 := (z5).alloc (by have := z5.size; omega) (.cells #[.int .i64 0, .int .i64 0] 24)
  have F_5_c0 := F_5.c0
  have F_5_c1 := F_5.c1
  go_wp2_with fail
  refine (HP2.out _ _ _ L_5).mono ?_
  rintro e w6 ⟨A6, c6, rfl, R6, y6⟩
  have R_6 := (R_5.on y6).alloc (.cells #[.int .i64 code2, .int .i64 idx2] 24)
  have L_6 := (L_5.on y6).alloc (.cells #[.int .i64 code2, .int .i64 idx2] 24)
  have P_6 := (P_5.on y6).alloc (.cells #[.int .i64 code2, .int .i64 idx2] 24)
  have F_6 := (F_5.on y6).alloc (.cells #[.int .i64 code2, .int .i64 idx2] 24)
  have Q_6 := (R6).alloc (.cells #[.int .i64 code2, .int .i64 idx2] 24)
  have G_6 := (Two.new w6 24 (.int .i64 code2) (.int .i64 idx2))
  clear R_5 L_5 P_5 F_5 F_5_c0 F_5_c1
  have z6 := Z5.trans (y6.mono Z5.size)
  have Z6 := (z6).alloc (by have := z6.size; omega) (.cells #[.int .i64 code2, .int .i64 idx2] 24)
  have F_6_c0 := F_6.c0
  have F_6_c1 := F_6.c1
  have G_6_c0 := G_6.c0
  have G_6_c1 := G_6.c1
  go_wp2_with fail
  refine (predicts_true _).mono ?_
  rintro e w7 ⟨rfl, y7⟩
  have R_7 := R_6.on y7
  have L_7 := L_6.on y7
  have P_7 := P_6.on y7
  have F_7 := F_6.on y7
  have Q_7 := Q_6.on y7
  have G_7 := G_6.on y7
  clear R_6 L_6 P_6 F_6 F_6_c0 F_6_c1 Q_6 G_6 G_6_c0 G_6_c1
  have z7 := Z6.trans (y7.mono Z6.size)
  have Z7 := z7
  have F_7_c0 := F_7.c0
  have F_7_c1 := F_7.c1
  have G_7_c0 := G_7.c0
  have G_7_c1 := G_7.c1
  go_wp2_with fail
  refine (predicts_true _).mono ?_
  rintro e w8 ⟨rfl, y8⟩
  have R_8 := R_7.on y8
  have L_8 := L_7.on y8
  have P_8 := P_7.on y8
  have F_8 := F_7.on y8
  have Q_8 := Q_7.on y8
  have G_8 := G_7.on y8
  clear R_7 L_7 P_7 F_7 F_7_c0 F_7_c1 Q_7 G_7 G_7_c0 G_7_c1
  have z8 := Z7.trans (y8.mono Z7.size)
  have Z8 := z8
  have F_8_c0 := F_8.c0
  have F_8_c1 := F_8.c1
  have G_8_c0 := G_8.c0
  have G_8_c1 := G_8.c1
  go_wp2
  go_ret
  exact ⟨rfl, Z8⟩
set_option maxRecDepth 100000 in
set_option maxHeartbeats 1600000 in
theorem mb_10 {A : Option Addr} {n c : Nat} {xs : List Int} {A2 : Option Addr} {n2 c2 : Nat} {ys : List Int} {oi : Int} (room : n + n2 ≤ 1048576) {code1 idx1 : Int} (hC1 : POut oi xs code1 idx1) (hc1 : code1 ≠ 0) {idx2 : Int} (hC2 : POut oi (xs ++ ys) 0 idx2) (w : World) (h : Rd w A n c (icells xs)) (h2 : Rd w A2 n2 c2 (icells ys)) :
    Calls Try.prog 5 #[.int .i64 oi, .slice A n c, .slice A2 n2 c2] w fun e w' => e = .returned (.bool true) ∧ Below w.heap.size w w' := by
  have hn := h.len
  simp only [icells, List.length_map] at hn
  have hn2 := h2.len
  simp only [icells, List.length_map] at hn2
  subst hn hn2
  obtain ⟨j0, bi, bz0, bz1, bz2⟩ := info_parts int_info
  obtain ⟨N, hN⟩ : ∃ N, N = xs.length + ys.length := ⟨_, rfl⟩
  have HNN := Lib.hid hN
  have hN1 : N ≤ 1048576 := by omega
  have HBC := Lib.hid (show icells xs ++ icells ys = icells (xs ++ ys) by rw [icells_append])
  have BZ1 := Lib.hid bz1
  have z0 : 0 + xs.length = xs.length := Nat.zero_add _
  have k1 : (code1 != 0) = true := by rw [bne_iff_ne]; exact hc1
  have k1e : (code1 == 0) = false := by rw [beq_eq_false_iff_ne]; exact hc1
  have HP1 := Lib.hid (fun (W : World) (B : Option Addr) (c : Nat) (hW : Rd W B xs.length c (icells xs)) => mpredict_any hW oi code1 idx1 hC1 [] (by rw [if_neg hc1]) 0 rfl)
  clear hc1
  clear hC1
  have HX2 := Lib.hid (show (allpreds oi.toNat (toBits (xs ++ ys))).length = N + 1 by rw [allpreds_length, toBits_length]; rw [List.length_append, hN])
  obtain ⟨-, hl2, -, rfl⟩ := pout_ok hC2 rfl
  have HP2 := Lib.hid (fun (W : World) (B : Option Addr) (c : Nat) (hW : Rd W B N c (icells (xs ++ ys))) => mpredict_any hW oi 0 0 hC2 (allpreds oi.toNat (toBits (xs ++ ys))) (by rw [if_pos rfl]) (N + 1) HX2.out.symm)
  clear hC2
  go_enter Try.func5, Try.ntmps5
  go_wp2_with (at_builtin; refine wpList_append_any _ rfl _ _ _ rfl w.heap.size 3 j0 _ 8 Try.underlying22 bi bz0 bz1 bz2 rfl _ _ _ rfl (World.ownsRow_nil _ _ _ _) _ _ xs.length c _ rfl h (icells_one _) ?g1 ?g2 (Nat.le_refl _) ?_)
  case g1 => unfold maxLen; omega
  case g2 => omega
  intro A3 c3 w3 o3 g3 a3
  have Y3 := (Below.refl w.heap.size w).grown g3 (Nat.le_refl _) (fun g hg => by cases hg)
  (try simp only [Nat.zero_add, List.nil_append] at o3)
  have HO3 := Lib.hid o3
  have D3 := h2.on Y3
  have E3 := h.on Y3
  have Y3s := Y3.size
  clear o3 g3 a3
  go_wp2_with (at_builtin; refine wpList_append_any _ rfl _ _ _ rfl w.heap.size 3 j0 _ 8 Try.underlying22 bi bz0 bz1 bz2 rfl _ _ _ rfl (by have := HO3.out; (try rw [z0] at this); (try rw [z0]); exact this) _ _ ys.length c2 _ rfl D3 (icells_one _) ?g1 ?g2 Y3s ?_)
  case g1 => unfold maxLen; omega
  case g2 => omega
  intro A4 c4 w4 o4 g4 a4
  have Z4 := below_grown Y3 (by have := HO3.out; (try rw [z0] at this); (try rw [z0]); exact this) g4 (Nat.le_refl _) Y3s
  rw [HBC.out] at o4
  (try simp only [Nat.zero_add])
  (try simp only [Nat.zero_add] at o4)
  rw [← HNN.out] at o4
  try rw [← HNN.out]
  have R_4 := Rd.on h Z4
  have L_4 := Rd.own o4
  clear o4 g4 a4 D3 HO3 Y3 Y3s h h2 z0 hN bz0 bz1 bz2 E3
  go_wp2_with fail
  refine (HP1.out _ _ _ R_4).mono ?_
  rintro e w5 ⟨A5, c5, rfl, R5, y5⟩
  have R_5 := (R_4.on y5).alloc (.cells #[.int .i64 code1, .int .i64 idx1] 24)
  have L_5 := (L_4.on y5).alloc (.cells #[.int .i64 code1, .int .i64 idx1] 24)
  have P_5 := (R5).alloc (.cells #[.int .i64 code1, .int .i64 idx1] 24)
  have F_5 := (Two.new w5 24 (.int .i64 code1) (.int .i64 idx1))
  clear R_4 L_4
  have z5 := Z4.trans (y5.mono Z4.size)
  have Z5 := (z5).alloc (by have := z5.size; omega) (.cells #[.int .i64 code1, .int .i64 idx1] 24)
  have F_5_c0 := F_5.c0
  have F_5_c1 := F_5.c1
  go_wp2_with fail
  refine (HP2.out _ _ _ L_5).mono ?_
  rintro e w6 ⟨A6, c6, rfl, R6, y6⟩
  have R_6 := (R_5.on y6).alloc (.cells #[.int .i64 0, .int .i64 0] 24)
  have L_6 := (L_5.on y6).alloc (.cells #[.int .i64 0, .int .i64 0] 24)
  have P_6 := (P_5.on y6).alloc (.cells #[.int .i64 0, .int .i64 0] 24)
  have F_6 := (F_5.on y6).alloc (.cells #[.int .i64 0, .int .i64 0] 24)
  have Q_6 := (R6).alloc (.cells #[.int .i64 0, .int .i64 0] 24)
  have G_6 := (Two.new w6 24 (.int .i64 0) (.int .i64 0))
  clear R_5 L_5 P_5 F_5 F_5_c0 F_5_c1
  have z6 := Z5.trans (y6.mono Z5.size)
  have Z6 := (z6).alloc (by have := z6.size; omega) (.cells #[.int .i64 0, .int .i64 0] 24)
  have F_6_c0 := F_6.c0
  have F_6_c1 := F_6.c1
  have G_6_c0 := G_6.c0
  have G_6_c1 := G_6.c1
  go_wp2_with fail
  refine (predicts_true _).mono ?_
  rintro e w7 ⟨rfl, y7⟩
  have R_7 := R_6.on y7
  have L_7 := L_6.on y7
  have P_7 := P_6.on y7
  have F_7 := F_6.on y7
  have Q_7 := Q_6.on y7
  have G_7 := G_6.on y7
  clear R_6 L_6 P_6 F_6 F_6_c0 F_6_c1 Q_6 G_6 G_6_c0 G_6_c1
  have z7 := Z6.trans (y7.mono Z6.size)
  have Z7 := z7
  have F_7_c0 := F_7.c0
  have F_7_c1 := F_7.c1
  have G_7_c0 := G_7.c0
  have G_7_c1 := G_7.c1
  go_wp2_with fail
  refine (predicts_true _).mono ?_
  rintro e w8 ⟨rfl, y8⟩
  have R_8 := R_7.on y8
  have L_8 := L_7.on y8
  have P_8 := P_7.on y8
  have F_8 := F_7.on y8
  have Q_8 := Q_7.on y8
  have G_8 := G_7.on y8
  clear R_7 L_7 P_7 F_7 F_7_c0 F_7_c1 Q_7 G_7 G_7_c0 G_7_c1
  have z8 := Z7.trans (y8.mono Z7.size)
  have Z8 := z8
  have F_8_c0 := F_8.c0
  have F_8_c1 := F_8.c1
  have G_8_c0 := G_8.c0
  have G_8_c1 := G_8.c1
  go_wp2
  go_ret
  exact ⟨rfl, Z8⟩
set_option maxRecDepth 100000 in
set_option maxHeartbeats 1600000 in
theorem mb_11 {A : Option Addr} {n c : Nat} {xs : List Int} {A2 : Option Addr} {n2 c2 : Nat} {ys : List Int} {oi : Int} (room : n + n2 ≤ 1048576) {code1 idx1 : Int} (hC1 : POut oi xs code1 idx1) (hc1 : code1 ≠ 0) {code2 idx2 : Int} (hC2 : POut oi (xs ++ ys) code2 idx2) (hc2 : code2 ≠ 0) (w : World) (h : Rd w A n c (icells xs)) (h2 : Rd w A2 n2 c2 (icells ys)) :
    Calls Try.prog 5 #[.int .i64 oi, .slice A n c, .slice A2 n2 c2] w fun e w' => e = .returned (.bool true) ∧ Below w.heap.size w w' := by
  have hn := h.len
  simp only [icells, List.length_map] at hn
  have hn2 := h2.len
  simp only [icells, List.length_map] at hn2
  subst hn hn2
  obtain ⟨j0, bi, bz0, bz1, bz2⟩ := info_parts int_info
  obtain ⟨N, hN⟩ : ∃ N, N = xs.length + ys.length := ⟨_, rfl⟩
  have HNN := Lib.hid hN
  have hN1 : N ≤ 1048576 := by omega
  have HBC := Lib.hid (show icells xs ++ icells ys = icells (xs ++ ys) by rw [icells_append])
  have BZ1 := Lib.hid bz1
  have z0 : 0 + xs.length = xs.length := Nat.zero_add _
  have k1 : (code1 != 0) = true := by rw [bne_iff_ne]; exact hc1
  have k1e : (code1 == 0) = false := by rw [beq_eq_false_iff_ne]; exact hc1
  have HP1 := Lib.hid (fun (W : World) (B : Option Addr) (c : Nat) (hW : Rd W B xs.length c (icells xs)) => mpredict_any hW oi code1 idx1 hC1 [] (by rw [if_neg hc1]) 0 rfl)
  clear hc1
  clear hC1
  have k2 : (code2 != 0) = true := by rw [bne_iff_ne]; exact hc2
  have k2e : (code2 == 0) = false := by rw [beq_eq_false_iff_ne]; exact hc2
  have HP2 := Lib.hid (fun (W : World) (B : Option Addr) (c : Nat) (hW : Rd W B N c (icells (xs ++ ys))) => mpredict_any hW oi code2 idx2 hC2 [] (by rw [if_neg hc2]) 0 rfl)
  clear hc2
  clear hC2
  go_enter Try.func5, Try.ntmps5
  go_wp2_with (at_builtin; refine wpList_append_any _ rfl _ _ _ rfl w.heap.size 3 j0 _ 8 Try.underlying22 bi bz0 bz1 bz2 rfl _ _ _ rfl (World.ownsRow_nil _ _ _ _) _ _ xs.length c _ rfl h (icells_one _) ?g1 ?g2 (Nat.le_refl _) ?_)
  case g1 => unfold maxLen; omega
  case g2 => omega
  intro A3 c3 w3 o3 g3 a3
  have Y3 := (Below.refl w.heap.size w).grown g3 (Nat.le_refl _) (fun g hg => by cases hg)
  (try simp only [Nat.zero_add, List.nil_append] at o3)
  have HO3 := Lib.hid o3
  have D3 := h2.on Y3
  have E3 := h.on Y3
  have Y3s := Y3.size
  clear o3 g3 a3
  go_wp2_with (at_builtin; refine wpList_append_any _ rfl _ _ _ rfl w.heap.size 3 j0 _ 8 Try.underlying22 bi bz0 bz1 bz2 rfl _ _ _ rfl (by have := HO3.out; (try rw [z0] at this); (try rw [z0]); exact this) _ _ ys.length c2 _ rfl D3 (icells_one _) ?g1 ?g2 Y3s ?_)
  case g1 => unfold maxLen; omega
  case g2 => omega
  intro A4 c4 w4 o4 g4 a4
  have Z4 := below_grown Y3 (by have := HO3.out; (try rw [z0] at this); (try rw [z0]); exact this) g4 (Nat.le_refl _) Y3s
  rw [HBC.out] at o4
  (try simp only [Nat.zero_add])
  (try simp only [Nat.zero_add] at o4)
  rw [← HNN.out] at o4
  try rw [← HNN.out]
  have R_4 := Rd.on h Z4
  have L_4 := Rd.own o4
  clear o4 g4 a4 D3 HO3 Y3 Y3s h h2 z0 hN bz0 bz1 bz2 E3
  go_wp2_with fail
  refine (HP1.out _ _ _ R_4).mono ?_
  rintro e w5 ⟨A5, c5, rfl, R5, y5⟩
  have R_5 := (R_4.on y5).alloc (.cells #[.int .i64 code1, .int .i64 idx1] 24)
  have L_5 := (L_4.on y5).alloc (.cells #[.int .i64 code1, .int .i64 idx1] 24)
  have P_5 := (R5).alloc (.cells #[.int .i64 code1, .int .i64 idx1] 24)
  have F_5 := (Two.new w5 24 (.int .i64 code1) (.int .i64 idx1))
  clear R_4 L_4
  have z5 := Z4.trans (y5.mono Z4.size)
  have Z5 := (z5).alloc (by have := z5.size; omega) (.cells #[.int .i64 code1, .int .i64 idx1] 24)
  have F_5_c0 := F_5.c0
  have F_5_c1 := F_5.c1
  go_wp2_with fail
  refine (HP2.out _ _ _ L_5).mono ?_
  rintro e w6 ⟨A6, c6, rfl, R6, y6⟩
  have R_6 := (R_5.on y6).alloc (.cells #[.int .i64 code2, .int .i64 idx2] 24)
  have L_6 := (L_5.on y6).alloc (.cells #[.int .i64 code2, .int .i64 idx2] 24)
  have P_6 := (P_5.on y6).alloc (.cells #[.int .i64 code2, .int .i64 idx2] 24)
  have F_6 := (F_5.on y6).alloc (.cells #[.int .i64 code2, .int .i64 idx2] 24)
  have Q_6 := (R6).alloc (.cells #[.int .i64 code2, .int .i64 idx2] 24)
  have G_6 := (Two.new w6 24 (.int .i64 code2) (.int .i64 idx2))
  clear R_5 L_5 P_5 F_5 F_5_c0 F_5_c1
  have z6 := Z5.trans (y6.mono Z5.size)
  have Z6 := (z6).alloc (by have := z6.size; omega) (.cells #[.int .i64 code2, .int .i64 idx2] 24)
  have F_6_c0 := F_6.c0
  have F_6_c1 := F_6.c1
  have G_6_c0 := G_6.c0
  have G_6_c1 := G_6.c1
  go_wp2_with fail
  refine (predicts_true _).mono ?_
  rintro e w7 ⟨rfl, y7⟩
  have R_7 := R_6.on y7
  have L_7 := L_6.on y7
  have P_7 := P_6.on y7
  have F_7 := F_6.on y7
  have Q_7 := Q_6.on y7
  have G_7 := G_6.on y7
  clear R_6 L_6 P_6 F_6 F_6_c0 F_6_c1 Q_6 G_6 G_6_c0 G_6_c1
  have z7 := Z6.trans (y7.mono Z6.size)
  have Z7 := z7
  have F_7_c0 := F_7.c0
  have F_7_c1 := F_7.c1
  have G_7_c0 := G_7.c0
  have G_7_c1 := G_7.c1
  go_wp2_with fail
  refine (predicts_true _).mono ?_
  rintro e w8 ⟨rfl, y8⟩
  have R_8 := R_7.on y8
  have L_8 := L_7.on y8
  have P_8 := P_7.on y8
  have F_8 := F_7.on y8
  have Q_8 := Q_7.on y8
  have G_8 := G_7.on y8
  clear R_7 L_7 P_7 F_7 F_7_c0 F_7_c1 Q_7 G_7 G_7_c0 G_7_c1
  have z8 := Z7.trans (y8.mono Z7.size)
  have Z8 := z8
  have F_8_c0 := F_8.c0
  have F_8_c1 := F_8.c1
  have G_8_c0 := G_8.c0
  have G_8_c1 := G_8.c1
  go_wp2
  go_ret
  exact ⟨rfl, Z8⟩
theorem mb_all {A : Option Addr} {n c : Nat} {xs : List Int} {A2 : Option Addr} {n2 c2 : Nat} {ys : List Int} {oi : Int} (room : n + n2 ≤ 1048576) (w : World) (h : Rd w A n c (icells xs)) (h2 : Rd w A2 n2 c2 (icells ys)) : Calls Try.prog 5 #[.int .i64 oi, .slice A n c, .slice A2 n2 c2] w fun e w' => e = .returned (.bool true) ∧ Below w.heap.size w w' := by
  obtain ⟨code1, idx1, hC1⟩ := pout_ex oi xs
  obtain ⟨code2, idx2, hC2⟩ := pout_ex oi (xs ++ ys)
  by_cases hc1 : code1 = 0
  · subst hc1
    by_cases hc2 : code2 = 0
    · subst hc2
      exact mb_00 room hC1 hC2 w h h2
    · exact mb_01 room hC1 hC2 hc2 w h h2
  · by_cases hc2 : code2 = 0
    · subst hc2
      exact mb_10 room hC1 hc1 hC2 w h h2
    · exact mb_11 room hC1 hc1 hC2 hc2 w h h2
end PB
end Go.Proofs.Ytmkkbedbgkhbpaa
