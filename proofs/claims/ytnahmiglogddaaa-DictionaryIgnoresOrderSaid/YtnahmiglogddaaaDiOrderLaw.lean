/-
  The order of the samples does not matter: the walk of the statement DictionaryIgnoresOrder.
-/
import Derived.Test.YtnahmiglogddaaaRows
import Derived.Test.YtnahmiglogddaaaDiTwo
import Derived.Deep.RegionHeld3
import Derived.Deep.DrawnRows
import Derived.Deep.Cut
import Derived.Lib.SlBytesConst
namespace Go.Proofs.Ytnahmiglogddaaa
open Go.RowKit
attribute [local go_sem ↓] Go.wp_at_zero Go.wp_at_succ
set_option linter.unusedVariables false
set_option linter.unusedSimpArgs false
namespace PB
theorem infos_bytes : (Try.prog.info? 23).map (fun i => (i.zero, i.size, i.bytes)) = some (some (.slice none 0 0), 1, 24) := by kernel_rfl
/-- The cells of a slice of byte strings. -/
def scells (xs : List SItem) : List Value := xs.map fun x => .slice x.A x.n x.c
theorem scells_one (xs : List SItem) : ∀ u ∈ scells xs, u.oneCell' = true := by
  intro u hu
  obtain ⟨x, _, rfl⟩ := List.mem_map.1 hu
  rfl
theorem RdSS.rd {w : World} {A : Option Addr} {n c : Nat} {xs : List SItem} (h : RdSS w A n c xs) : Rd w A n c (scells xs) := by
  obtain ⟨h1, h2, h3, h4⟩ := h
  refine ⟨by simp [scells, h1], h2, h3, fun hn => ?_⟩
  obtain ⟨b, off, e, hb, hc⟩ := h4 hn
  refine ⟨b, off, e, hb, fun i u hu => ?_⟩
  unfold scells at hu
  rw [List.getElem?_map] at hu
  obtain ⟨x, hx, rfl⟩ := Option.map_eq_some_iff.1 hu
  exact (hc i x hx).1
theorem RdSS.each {w : World} {A : Option Addr} {n c : Nat} {xs : List SItem} (h : RdSS w A n c xs) : ∀ x ∈ xs, Rd w x.A x.n x.c (bcells x.d) := by
  intro x hx
  obtain ⟨i, hi, rfl⟩ := List.getElem_of_mem hx
  obtain ⟨_, _, _, _, _, hr⟩ := h.at i hi
  exact hr
theorem RdSS.of {w : World} {A : Option Addr} {n c : Nat} {xs : List SItem} (h : Rd w A n c (scells xs)) (h2 : ∀ x ∈ xs, Rd w x.A x.n x.c (bcells x.d)) : RdSS w A n c xs := by
  have hl := h.len
  have hcap := Reads.cap h
  obtain ⟨h1, _, h3, h4⟩ := h
  refine ⟨by simpa [scells] using hl, hcap, h3, fun hn => ?_⟩
  obtain ⟨b, off, e, hb, hc⟩ := h4 hn
  refine ⟨b, off, e, hb, fun i x hx => ⟨hc i _ (by unfold scells; rw [List.getElem?_map, hx]; rfl), h2 x ?_⟩⟩
  obtain ⟨hi, rfl⟩ := List.getElem?_eq_some_iff.1 hx
  exact List.getElem_mem hi
/-- The samples from q on, then those before q, back to j. -/
def trn (xs : List SItem) (q j : Nat) : List SItem := xs.drop q ++ ((xs.take q).drop j).reverse
theorem trn_start (xs : List SItem) (q : Nat) : trn xs q q = xs.drop q := by
  unfold trn
  rw [List.drop_of_length_le (l := xs.take q) (by rw [List.length_take]; omega)]
  simp
theorem trn_step (xs : List SItem) (q j : Nat) (hj : j < q) (hq : q ≤ xs.length) : trn xs q j = trn xs q (j + 1) ++ [xs[j]'(by omega)] := by
  unfold trn
  rw [List.drop_eq_getElem_cons (l := xs.take q) (i := j) (by rw [List.length_take]; omega), List.reverse_cons, List.append_assoc]
  simp
theorem trn_length (xs : List SItem) (q j : Nat) (hj : j ≤ q) (hq : q ≤ xs.length) : (trn xs q j).length = xs.length - j := by
  unfold trn
  rw [List.length_append, List.length_reverse, List.length_drop, List.length_drop, List.length_take]
  omega
theorem trn_perm (xs : List SItem) (q : Nat) : (trn xs q 0).Perm xs := by
  unfold trn
  rw [List.drop_zero]
  refine (List.perm_append_comm).trans ?_
  refine ((List.reverse_perm _).append_right _).trans ?_
  rw [List.take_append_drop]
theorem scells_append (a b : List SItem) : scells (a ++ b) = scells a ++ scells b := by simp [scells]
theorem scells_drop (a : List SItem) (q : Nat) : scells (a.drop q) = (scells a).drop q := by simp [scells, List.map_drop]
theorem in_yes_d (n low high : Int) (w : World) (h1 : low ≤ n) (h2 : n ≤ high) :
    Calls Try.prog 10 #[.int .i64 n, .int .i64 low, .int .i64 high] w fun e w' => e = .returned (.bool true) ∧ w' = w :=
  (in_yes n low high w h1 h2).mono fun _ _ h => ⟨h.1, h.2.symm⟩
set_option maxRecDepth 100000 in
set_option maxHeartbeats 1600000 in
theorem do_sam {A : Option Addr} {n c : Nat} {xs : List SItem} {at_ si mx : Int} {code idx : Int} (hF : SFault xs (-1) code idx) (hc : code ≠ 0) {w : World} (h : RdSS w A n c xs) (hm : Mx w mx) :
    Calls Try.prog 5 #[.slice A n c, .int .i64 at_, .int .i64 si] w fun e w' => e = .returned (.bool true) ∧ Below w.heap.size w w' := by
  have hnx := h.1
  subst hnx
  have hcap := h.2.1
  have hcm := h.2.2.1
  unfold maxLen at hcm
  have hc2 : (code == 0) = false := by rw [beq_eq_false_iff_ne]; exact hc
  have hc3 : (code != 0) = true := by rw [bne_iff_ne]; exact hc
  have HF := Lib.hid hF
  have HC := Lib.hid hc
  clear hF hc
  have S_0 := h
  have X_0 := hm
  have Z0 := Below.refl w.heap.size w
  go_enter Try.func5, Try.ntmps5
  go_wp2_with fail
  refine (dtrain_sam S_0 si code idx HF.out HC.out).mono ?_
  rintro e w1 ⟨rfl, y1⟩
  have S_1 := (S_0.on y1).alloc (.cells #[.int .i64 code, .int .i64 idx] 25)
  have X_1 := (X_0.on y1).alloc (.cells #[.int .i64 code, .int .i64 idx] 25)
  have F_1 := (Two.new w1 25 (.int .i64 code) (.int .i64 idx))
  clear S_0 X_0
  have z1 := Z0.trans (y1.mono Z0.size)
  have Z1 := (z1).alloc (by have := z1.size; omega) (.cells #[.int .i64 code, .int .i64 idx] 25)
  have F_1_c0 := F_1.c0
  have F_1_c1 := F_1.c1
  go_wp2_with fail
  refine (trains_true X_1).mono ?_
  rintro e w2 ⟨rfl, y2⟩
  have S_2 := S_1.on y2
  have X_2 := X_1.on y2
  have F_2 := F_1.on y2
  clear S_1 X_1 F_1 F_1_c0 F_1_c1
  have z2 := Z1.trans (y2.mono Z1.size)
  have Z2 := z2
  have F_2_c0 := F_2.c0
  have F_2_c1 := F_2.c1
  go_wp2_with fail
  refine (trains_true X_2).mono ?_
  rintro e w3 ⟨rfl, y3⟩
  have S_3 := S_2.on y3
  have X_3 := X_2.on y3
  have F_3 := F_2.on y3
  clear S_2 X_2 F_2 F_2_c0 F_2_c1
  have z3 := Z2.trans (y3.mono Z2.size)
  have Z3 := z3
  have F_3_c0 := F_3.c0
  have F_3_c1 := F_3.c1
  go_wp2
  go_ret
  exact ⟨rfl, Z3⟩
set_option maxRecDepth 100000 in
set_option maxHeartbeats 1600000 in
theorem do_size {A : Option Addr} {n c : Nat} {xs : List SItem} {at_ si mx : Int} (hok : SamOk xs) (hs : si < 0 ∨ 512 < si) {w : World} (h : RdSS w A n c xs) (hm : Mx w mx) :
    Calls Try.prog 5 #[.slice A n c, .int .i64 at_, .int .i64 si] w fun e w' => e = .returned (.bool true) ∧ Below w.heap.size w w' := by
  have hnx := h.1
  subst hnx
  have hcap := h.2.1
  have hcm := h.2.2.1
  unfold maxLen at hcm
  have HK := Lib.hid hok
  have hfew := hok.few
  clear hok
  have HR := Lib.hid hs
  clear hs
  have S_0 := h
  have X_0 := hm
  have Z0 := Below.refl w.heap.size w
  go_enter Try.func5, Try.ntmps5
  go_wp2_with fail
  refine (dtrain_size S_0 HK.out si HR.out).mono ?_
  rintro e w1 ⟨rfl, y1⟩
  have S_1 := (S_0.on y1).alloc (.cells #[.int .i64 4, .int .i64 (-2)] 25)
  have X_1 := (X_0.on y1).alloc (.cells #[.int .i64 4, .int .i64 (-2)] 25)
  have F_1 := (Two.new w1 25 (.int .i64 4) (.int .i64 (-2)))
  clear S_0 X_0
  have z1 := Z0.trans (y1.mono Z0.size)
  have Z1 := (z1).alloc (by have := z1.size; omega) (.cells #[.int .i64 4, .int .i64 (-2)] 25)
  have F_1_c0 := F_1.c0
  have F_1_c1 := F_1.c1
  go_wp2_with fail
  refine (trains_true X_1).mono ?_
  rintro e w2 ⟨rfl, y2⟩
  have S_2 := S_1.on y2
  have X_2 := X_1.on y2
  have F_2 := F_1.on y2
  clear S_1 X_1 F_1 F_1_c0 F_1_c1
  have z2 := Z1.trans (y2.mono Z1.size)
  have Z2 := z2
  have F_2_c0 := F_2.c0
  have F_2_c1 := F_2.c1
  go_wp2_with fail
  refine (trains_true X_2).mono ?_
  rintro e w3 ⟨rfl, y3⟩
  have S_3 := S_2.on y3
  have X_3 := X_2.on y3
  have F_3 := F_2.on y3
  clear S_2 X_2 F_2 F_2_c0 F_2_c1
  have z3 := Z2.trans (y3.mono Z2.size)
  have Z3 := z3
  have F_3_c0 := F_3.c0
  have F_3_c1 := F_3.c1
  go_wp2
  go_ret
  exact ⟨rfl, Z3⟩
set_option maxRecDepth 100000 in
set_option maxHeartbeats 1600000 in
theorem do_at {A : Option Addr} {n c : Nat} {xs : List SItem} {at_ si mx : Int} {size : Nat} (hs : size ≤ 512) (hsi : si = (size : Nat)) (hok : SamOk xs) (ha : at_ < 0 ∨ (n : Int) < at_) {w : World} (h : RdSS w A n c xs) (hm : Mx w mx) :
    Calls Try.prog 5 #[.slice A n c, .int .i64 at_, .int .i64 si] w fun e w' => e = .returned (.bool true) ∧ Below w.heap.size w w' := by
  have hnx := h.1
  subst hnx
  have hcap := h.2.1
  have hcm := h.2.2.1
  unfold maxLen at hcm
  have HK := Lib.hid hok
  have hfew := hok.few
  clear hok
  have HSI := Lib.hid hsi
  clear hsi
  have HR := Lib.hid ha
  clear ha
  have S_0 := h
  have X_0 := hm
  have Z0 := Below.refl w.heap.size w
  go_enter Try.func5, Try.ntmps5
  go_wp2_with fail
  refine (dtrain_ok S_0 HK.out X_0.cell X_0.lt size hs _ HSI.out).mono ?_
  rintro e w1 ⟨A1, n1, c1, l, hS, rfl, P1, y1⟩
  have S_1 := (S_0.on y1).alloc (.cells #[.int .i64 0, .int .i64 0] 25)
  have X_1 := (X_0.on y1).alloc (.cells #[.int .i64 0, .int .i64 0] 25)
  have P_1 := ((Rd.own P1)).alloc (.cells #[.int .i64 0, .int .i64 0] 25)
  have F_1 := (Two.new w1 25 (.int .i64 0) (.int .i64 0))
  clear S_0 X_0
  have z1 := Z0.trans (y1.mono Z0.size)
  have Z1 := (z1).alloc (by have := z1.size; omega) (.cells #[.int .i64 0, .int .i64 0] 25)
  have F_1_c0 := F_1.c0
  have F_1_c1 := F_1.c1
  have HSG := Lib.hid hS
  clear hS P1
  go_wp2_with fail
  refine (trains_true X_1).mono ?_
  rintro e w2 ⟨rfl, y2⟩
  have S_2 := S_1.on y2
  have X_2 := X_1.on y2
  have P_2 := P_1.on y2
  have F_2 := F_1.on y2
  clear S_1 X_1 P_1 F_1 F_1_c0 F_1_c1
  have z2 := Z1.trans (y2.mono Z1.size)
  have Z2 := z2
  have F_2_c0 := F_2.c0
  have F_2_c1 := F_2.c1
  go_wp2_with fail
  refine (in_no _ _ _ _ HR.out).mono ?_
  rintro e w9_1 ⟨rfl, rfl⟩
  go_wp2_with fail
  refine (trains_true X_2).mono ?_
  rintro e w3 ⟨rfl, y3⟩
  have S_3 := S_2.on y3
  have X_3 := X_2.on y3
  have P_3 := P_2.on y3
  have F_3 := F_2.on y3
  clear S_2 X_2 P_2 F_2 F_2_c0 F_2_c1
  have z3 := Z2.trans (y3.mono Z2.size)
  have Z3 := z3
  have F_3_c0 := F_3.c0
  have F_3_c1 := F_3.c1
  go_wp2
  go_ret
  exact ⟨rfl, Z3⟩
set_option maxRecDepth 100000 in
set_option maxHeartbeats 1600000 in
theorem do_ok {A : Option Addr} {n c : Nat} {xs : List SItem} {at_ si mx : Int} {size : Nat} (hs : size ≤ 512) (hsi : si = (size : Nat)) (hok : SamOk xs) {q : Nat} (hq : q ≤ xs.length) (ha : at_ = (q : Nat)) {w : World} (h : RdSS w A n c xs) (hm : Mx w mx) :
    Calls Try.prog 5 #[.slice A n c, .int .i64 at_, .int .i64 si] w fun e w' => e = .returned (.bool true) ∧ Below w.heap.size w w' := by
  have hnx := h.1
  subst hnx
  have hcap := h.2.1
  have hcm := h.2.2.1
  unfold maxLen at hcm
  have HK := Lib.hid hok
  have hfew := hok.few
  clear hok
  have HSI := Lib.hid hsi
  clear hsi
  obtain ⟨t0, bi, bz0, bz1, bz2⟩ := info_parts infos_bytes
  have BZ := Lib.hid bz1
  subst ha
  have S_0 := h
  have X_0 := hm
  have Z0 := Below.refl w.heap.size w
  go_enter Try.func5, Try.ntmps5
  go_wp2_with fail
  refine (dtrain_ok S_0 HK.out X_0.cell X_0.lt size hs _ HSI.out).mono ?_
  rintro e w1 ⟨A1, n1, c1, l, hS, rfl, P1, y1⟩
  have S_1 := (S_0.on y1).alloc (.cells #[.int .i64 0, .int .i64 0] 25)
  have X_1 := (X_0.on y1).alloc (.cells #[.int .i64 0, .int .i64 0] 25)
  have P_1 := ((Rd.own P1)).alloc (.cells #[.int .i64 0, .int .i64 0] 25)
  have F_1 := (Two.new w1 25 (.int .i64 0) (.int .i64 0))
  clear S_0 X_0
  have z1 := Z0.trans (y1.mono Z0.size)
  have Z1 := (z1).alloc (by have := z1.size; omega) (.cells #[.int .i64 0, .int .i64 0] 25)
  have F_1_c0 := F_1.c0
  have F_1_c1 := F_1.c1
  have HSG := Lib.hid hS
  clear hS P1
  go_wp2_with fail
  refine (trains_true X_1).mono ?_
  rintro e w2 ⟨rfl, y2⟩
  have S_2 := S_1.on y2
  have X_2 := X_1.on y2
  have P_2 := P_1.on y2
  have F_2 := F_1.on y2
  clear S_1 X_1 P_1 F_1 F_1_c0 F_1_c1
  have z2 := Z1.trans (y2.mono Z1.size)
  have Z2 := z2
  have F_2_c0 := F_2.c0
  have F_2_c1 := F_2.c1
  go_wp2_with fail
  refine (in_yes _ _ _ _ (by omega) (by omega)).mono ?_
  rintro e w9_1 ⟨rfl, rfl⟩
  have HS2 := Lib.hid S_2
  have HX2 := Lib.hid X_2
  have HP2 := Lib.hid P_2
  have HZ2 := Lib.hid Z2
  obtain ⟨A5, hrun5, hr5⟩ := Rd.tail (P := Try.prog) (A := A) (c := c) 22 23 t0 Try.underlying22 bi BZ.out hcap q hq
  have hr6 := hr5 w2 _ HS2.out.rd
  rw [← scells_drop, ← trn_start] at hr6
  clear hr5
  go_wp2_with (at_builtin; refine wpList_append_any _ rfl _ _ _ rfl w2.heap.size 23 t0 _ 24 Try.underlying22 bi bz0 bz1 bz2 rfl _ _ _ rfl (World.ownsRow_nil _ _ _ _) _ _ (xs.length - q) (c - q) _ rfl hr6 (scells_one _) ?g1 ?g2 (Nat.le_refl _) ?_)
  case g1 => unfold maxLen; omega
  case g2 => omega
  intro A6 c6 w6 o6 gr6 a6
  have Y6 := (Below.refl w2.heap.size w2).grown gr6 (Nat.le_refl _) (fun g hg => by cases hg)
  have z0 : 0 + (xs.length - q) = xs.length - q := Nat.zero_add _
  (try simp only [Nat.zero_add, List.nil_append] at o6)
  (try rw [z0])
  (try rw [z0] at o6)
  have HO6 := Lib.hid o6
  have HY6 := Lib.hid Y6
  clear o6 gr6 a6 Y6 z0 hr6 S_2 X_2 P_2 F_2 Z2 F_2_c0 F_2_c1
  go_wp2_with fail
  go_loopw [9, 10] (fun tv iv wr => ∃ (j N : Nat) (A' : Option Addr) (c' : Nat), j ≤ q ∧ N = xs.length - j ∧ iv = .int .i64 ((j : Int) - 1) ∧ tv = .slice A' N c' ∧ wr.ownsRow w2.heap.size 23 1 (.slice A' N c') N (scells (trn xs q j)) ∧ Below w2.heap.size w2 wr) (fun _ iv _ => (intOf iv + 1).toNat)
  case atStart => exact ⟨q, xs.length - q, _, _, Nat.le_refl _, rfl, by go_num, rfl, HO6.out, HY6.out⟩
  case round =>
    obtain ⟨j, N, A7, c7, hj, hN, rfl, rfl, o7, yr⟩ := hrel
    have HO7 := Lib.hid o7
    have HYR := Lib.hid yr
    have hYs := yr.size
    have HN := Lib.hid hN
    have hNb : N ≤ 64 := by omega
    clear o7 yr hN
    rcases Nat.eq_zero_or_pos j with rfl | hpos
    · have hlen := trn_length xs q 0 (Nat.zero_le _) hq
      have hNx : N = xs.length := by have := HN.out; omega
      subst hNx
      have hmem : ∀ x, x ∈ trn xs q 0 → x ∈ xs := fun x hx => (trn_perm xs q).mem_iff.1 hx
      have HST := Lib.hid (RdSS.of (Rd.own HO7.out) (fun x hx => (HS2.out.on HYR.out).each x (hmem x hx)))
      have HOK2 := Lib.hid (show SamOk (trn xs q 0) from ⟨by rw [hlen]; omega, fun x hx => HK.out.short x (hmem x hx)⟩)
      have HTR := Lib.hid (dtrain_ok HST.out HOK2.out (HX2.out.on HYR.out).cell (HX2.out.on HYR.out).lt size hs _ HSI.out)
      clear hmem hlen
      go_wp2_with fail
      refine HTR.out.mono ?_
      rintro e w8 ⟨A8, n8, c8, l2, hS2, rfl, o8, y8⟩
      obtain rfl : l2 = l := hS2.unique HSG.out (fun x => fr_perm ((trn_perm xs q).map SItem.d) x)
      have R8 := (Rd.own o8).alloc (.cells #[.int .i64 0, .int .i64 0] 25)
      have G8 := Two.new w8 25 (.int .i64 0) (.int .i64 0)
      have g80 := G8.c0
      have P8 := ((HP2.out.on HYR.out).on y8).alloc (.cells #[.int .i64 0, .int .i64 0] 25)
      have ZZ := HZ2.out.trans (HYR.out.mono HZ2.out.size)
      have Z8 := Lib.hid ((ZZ.trans (y8.mono ZZ.size)).alloc (ZZ.trans (y8.mono ZZ.size)).size (.cells #[.int .i64 0, .int .i64 0] 25))
      have HSM := Lib.hid (same_q P8 R8 (traind_byte _ _) (traind_byte _ _) true (by simp))
      clear hS2 o8 y8 ZZ HTR R8 P8
      go_wp2_with fail
      refine HSM.out.mono ?_
      rintro e w9 ⟨rfl, rfl⟩
      go_wp2
      go_ret
      exact ⟨rfl, Z8.out⟩
    · obtain ⟨i, rfl⟩ : ∃ i, j = i + 1 := ⟨j - 1, by omega⟩
      have hix : i < xs.length := by omega
      obtain ⟨b, off, rfl, hb, q1, RX⟩ := (HS2.out.on HYR.out).at i hix
      have HST := Lib.hid (trn_step xs q i (by omega) hq)
      obtain ⟨x, hx⟩ : ∃ x, x = xs[i] := ⟨_, rfl⟩
      rw [← hx] at q1 HST
      obtain ⟨xA, xn, xc, xd⟩ := x
      dsimp only at q1
      clear hx RX
      have hi1 : ((i + 1 : Nat) : Int) - 1 = (i : Nat) := by omega
      rw [hi1]
      go_wp2_with (at_builtin; refine wpList_app1 _ rfl _ _ _ rfl w2.heap.size 23 t0 _ 24 Try.underlying22 bi bz0 bz1 bz2 rfl _ _ _ rfl HO7.out (.slice xA xn xc) rfl rfl ?g1 ?g2 hYs ?_)
      case g1 => unfold maxLen; omega
      case g2 => omega
      intro A8 c8 w8 o8 g8
      have Y8 := Lib.hid (below_grown HYR.out HO7.out g8 (Nat.le_refl _) hYs)
      have HO8 := Lib.hid o8
      clear o8 g8
      go_wp2_with fail
      go_roundw
      case rel => exact ⟨i, N + 1, A8, c8, by omega, by have := HN.out; omega, by go_num, rfl, by rw [HST.out, scells_append]; exact HO8.out, Y8.out⟩
      case measure => simp [intOf] <;> omega
theorem do_all {A : Option Addr} {n c : Nat} {xs : List SItem} {at_ si mx : Int} {w : World} (h : RdSS w A n c xs) (hm : Mx w mx) :
    Calls Try.prog 5 #[.slice A n c, .int .i64 at_, .int .i64 si] w fun e w' => e = .returned (.bool true) ∧ Below w.heap.size w w' := by
  obtain ⟨code, idx, hF⟩ := sfault_ex xs (-1)
  by_cases hc : code = 0
  · obtain ⟨hok, rfl⟩ := sfault_ok hF hc
    by_cases hs : si < 0 ∨ 512 < si
    · exact do_size hok hs h hm
    · obtain ⟨size, hsi⟩ := Int.eq_ofNat_of_zero_le (show 0 ≤ si by omega)
      by_cases ha : at_ < 0 ∨ (n : Int) < at_
      · exact do_at (by omega) hsi hok ha h hm
      · obtain ⟨q, hq⟩ := Int.eq_ofNat_of_zero_le (show 0 ≤ at_ by omega)
        have hn := h.1
        exact do_ok (by omega) hsi hok (q := q) (by omega) hq h hm
  · exact do_sam hF hc h hm
end PB
end Go.Proofs.Ytnahmiglogddaaa
