/-
  arith.Decode: the bits of a code, with all faults.
-/
import Derived.Test.YtnnpkajmheglgaaArDcd
import Derived.Test.YtnnpkajmheglgaaArDecode
import Derived.Deep.RegionHeld3
import Derived.Deep.Cut
namespace Go.Proofs.Ytnnpkajmheglgaa
open Go.RowKit
attribute [local go_sem ↓] Go.wp_at_zero Go.wp_at_succ
set_option linter.unusedVariables false
set_option linter.unusedSimpArgs false
namespace PB
/-- append(out, x) in a region that draws its order: one element more. -/
theorem step_app1 {P : Program} {ops : Array Oper} {o : Oper} {a : Act} {K : Act → World → Prop} {Q : Exit → Act → World → Prop} {E : Prop} (W : World) (hw : Region.wanted o (yielded ops a.tmps) = true) (s x : Operand) (t : TypeId)
    (ho : o.op = .call { callee := .builtin .append, args := #[s, x], argTypes := #[t, t] })
    (base : Nat) (e : TypeId) (i : TypeInfo) (z : Value) (bytes : Nat) (ht : P.underlying t = some (.slice e)) (hi : P.info? e = some i) (hz : i.zero = some z)
    (hsize : i.size = 1) (hby : i.bytes = bytes) (hzs : z.cells.size = 1)
    (v : Value) (n : Nat) (xs : List Value) (hs : a.eval s = v) (hown : W.ownsRow base e 1 v n xs)
    (u : Value) (h1 : u.oneCell' = true) (hx : a.eval x = .slice (some ⟨W.heap.size, 0, none⟩) 1 1)
    (h63 : n + 1 ≤ maxLen) (hbytes : (n + 1) * bytes ≤ 140737488355328) (hbase : base ≤ W.heap.size)
    (h : ∀ A' c' w', w'.ownsRow base e 1 (.slice A' (n + 1) c') (n + 1) (xs ++ [u]) → W.grownBy w' v.ownBlock → K (a.put o.dst (.slice A' (n + 1) c')) w') :
    if Region.wanted o (yielded ops a.tmps) = true then Oper.wp P o a (W.alloc (.cells #[u] e)) K Q else E := by
  have hr : Reads (W.alloc (.cells #[u] e)) (W.heap.size + 1) (some ⟨W.heap.size, 0, none⟩) 1 1 [u] := by
    refine ⟨rfl, Nat.le_refl _, by decide, fun _ => ⟨W.heap.size, 0, rfl, by omega, fun j y hj => ?_⟩⟩
    have := one_new W W.heap.size rfl u e j y hj
    have e : (⟨W.heap.size, 0, none⟩ : Addr).add j = ⟨W.heap.size, 0 + j, none⟩ := by
      unfold Addr.add
      by_cases hj : j = 0 <;> simp [hj]
    rw [e] at this
    exact this
  refine step_append_want (P := P) (w := W.alloc (.cells #[u] e)) hw s x t ho base e i z bytes ht hi hz hsize hby hzs v n xs hs (hown.alloc _) (W.heap.size + 1) _ 1 1 [u] hx hr (by simpa using h1) h63 hbytes (by simp; omega) ?_
  intro A' c' w' h2 h3 _
  refine h A' c' w' h2 ?_
  exact ⟨h3.os, h3.tape, h3.output, Nat.le_trans (by simp) h3.size, fun k hk hne => (h3.block k (by simp; omega) hne).trans (Below.heap_alloc W _ k hk)⟩
set_option maxRecDepth 100000 in
set_option maxHeartbeats 1600000 in
theorem ardec_form {A : Option Addr} {n c : Nat} {d : List Nat} {cnt : Int} {v : Value} {w : World} (h : Rd w A n c (bcells d)) (hno : ¬ Ok d cnt) :
    Calls Try.prog 17 #[.agg #[.slice A n c, .int .i64 cnt], v] w fun e w' => e = .returned (.tuple #[.slice none 0 0, .agg #[.int .i64 6, .int .i64 (-1)]]) ∧ Below w.heap.size w w' := by
  have HNO := Lib.hid (fun (W : World) (hW : Rd W A n c (bcells d)) => valid_no A n c d cnt _ W hW (Nat.le_refl _) hno)
  clear hno
  have R_0 := ((h).alloc (.cells #[.slice A n c, .int .i64 cnt] 25)).alloc (.cells #[.int .i64 0, .int .i64 0] 27)
  have B_0 := ((Two.new w 25 (.slice A n c) (.int .i64 cnt))).alloc (.cells #[.int .i64 0, .int .i64 0] 27)
  have F_0 := (Two.new1 w (.cells #[.slice A n c, .int .i64 cnt] 25) 27 (.int .i64 0) (.int .i64 0))
  have Z0 := ((Below.refl w.heap.size w).alloc (by simp) (.cells #[.slice A n c, .int .i64 cnt] 25)).alloc (by simp) (.cells #[.int .i64 0, .int .i64 0] 27)
  have B_0_c0 := B_0.c0
  have B_0_c1 := B_0.c1
  have F_0_c0 := F_0.c0
  have F_0_c1 := F_0.c1
  have F_0_f0 := F_0.f0
  have F_0_f1 := F_0.f1
  go_enter Try.func17, Try.ntmps17
  go_wp2_with fail
  refine (HNO.out _ R_0).mono ?_
  rintro e w1 ⟨rfl, y1⟩
  have R_1 := R_0.on y1
  have B_1 := B_0.on y1
  have F_1 := F_0.on y1
  clear R_0 B_0 B_0_c0 B_0_c1 F_0 F_0_c0 F_0_c1 F_0_f0 F_0_f1
  have z1 := Z0.trans (y1.mono Z0.size)
  have Z1 := z1
  have B_1_c0 := B_1.c0
  have B_1_c1 := B_1.c1
  have F_1_c0 := F_1.c0
  have F_1_c1 := F_1.c1
  have F_1_f0 := F_1.f0
  have F_1_f1 := F_1.f1
  go_wp2_with fail
  refine (arfault_any _ _ _).mono ?_
  rintro e w2 ⟨rfl, y2⟩
  have R_2 := R_1.on y2
  have B_2 := B_1.on y2
  have F_2 := F_1.on y2
  clear R_1 B_1 B_1_c0 B_1_c1 F_1 F_1_c0 F_1_c1 F_1_f0 F_1_f1
  have z2 := Z1.trans (y2.mono Z1.size)
  have Z2 := z2
  have B_2_c0 := B_2.c0
  have B_2_c1 := B_2.c1
  have F_2_c0 := F_2.c0
  have F_2_c1 := F_2.c1
  have F_2_f0 := F_2.f0
  have F_2_f1 := F_2.f1
  go_wp2
  have rF := (((F_2.set0 (.int .i64 6)).set1 (.int .i64 (-1))))
  have rF_0 := rF.c0
  have rF_1 := rF.c1
  exact bodyPost_ret (v := .tuple #[.slice none 0 0, .agg #[.int .i64 6, .int .i64 (-1)]]) (by simp [results, Try.results17, go_sem, rF_0, rF_1]) rfl ⟨rfl, ((Z2.setCell (p := ⟨w.heap.size + 1, 0, none⟩) (by simp) (.int .i64 6)).setCell (p := ⟨w.heap.size + 1, 1, none⟩) (by simp) (.int .i64 (-1)))⟩
set_option maxRecDepth 100000 in
set_option maxHeartbeats 1600000 in
theorem ardec_long {A : Option Addr} {n c : Nat} {l : List Nat} {A2 : Option Addr} {n2 c2 : Nat} {ps : List Int} {w : World} (h : Rd w A n c (bcells (pack l))) (h2 : Rd w A2 n2 c2 (icells ps)) (h01 : Is01 l) (hl : l.length ≤ 131072) (hlong : 8192 < ps.length) :
    Calls Try.prog 17 #[.agg #[.slice A n c, .int .i64 l.length], .slice A2 n2 c2] w fun e w' => e = .returned (.tuple #[.slice none 0 0, .agg #[.int .i64 2, .int .i64 (-2)]]) ∧ Below w.heap.size w w' := by
  have HV := Lib.hid (fun (W : World) (hW : Rd W A n c (bcells (pack l))) => valid_list A n c l _ W hW (Nat.le_refl _) h01 hl)
  have hn := h2.len
  rw [icells_len] at hn
  have k1 : decide ((8192 : Int) < (n2 : Int)) = true := by simp; omega
  clear hn hlong h01 h2
  have R_0 := ((h).alloc (.cells #[.slice A n c, .int .i64 l.length] 25)).alloc (.cells #[.int .i64 0, .int .i64 0] 27)
  have B_0 := ((Two.new w 25 (.slice A n c) (.int .i64 l.length))).alloc (.cells #[.int .i64 0, .int .i64 0] 27)
  have F_0 := (Two.new1 w (.cells #[.slice A n c, .int .i64 l.length] 25) 27 (.int .i64 0) (.int .i64 0))
  have Z0 := ((Below.refl w.heap.size w).alloc (by simp) (.cells #[.slice A n c, .int .i64 l.length] 25)).alloc (by simp) (.cells #[.int .i64 0, .int .i64 0] 27)
  have B_0_c0 := B_0.c0
  have B_0_c1 := B_0.c1
  have F_0_c0 := F_0.c0
  have F_0_c1 := F_0.c1
  have F_0_f0 := F_0.f0
  have F_0_f1 := F_0.f1
  go_enter Try.func17, Try.ntmps17
  go_wp2_with fail
  refine (HV.out _ R_0).mono ?_
  rintro e w1 ⟨rfl, y1⟩
  have R_1 := R_0.on y1
  have B_1 := B_0.on y1
  have F_1 := F_0.on y1
  clear R_0 B_0 B_0_c0 B_0_c1 F_0 F_0_c0 F_0_c1 F_0_f0 F_0_f1
  have z1 := Z0.trans (y1.mono Z0.size)
  have Z1 := z1
  have B_1_c0 := B_1.c0
  have B_1_c1 := B_1.c1
  have F_1_c0 := F_1.c0
  have F_1_c1 := F_1.c1
  have F_1_f0 := F_1.f0
  have F_1_f1 := F_1.f1
  go_wp2_with fail
  refine (arfault_any _ _ _).mono ?_
  rintro e w2 ⟨rfl, y2⟩
  have R_2 := R_1.on y2
  have B_2 := B_1.on y2
  have F_2 := F_1.on y2
  clear R_1 B_1 B_1_c0 B_1_c1 F_1 F_1_c0 F_1_c1 F_1_f0 F_1_f1
  have z2 := Z1.trans (y2.mono Z1.size)
  have Z2 := z2
  have B_2_c0 := B_2.c0
  have B_2_c1 := B_2.c1
  have F_2_c0 := F_2.c0
  have F_2_c1 := F_2.c1
  have F_2_f0 := F_2.f0
  have F_2_f1 := F_2.f1
  go_wp2
  have rF := (((F_2.set0 (.int .i64 2)).set1 (.int .i64 (-2))))
  have rF_0 := rF.c0
  have rF_1 := rF.c1
  exact bodyPost_ret (v := .tuple #[.slice none 0 0, .agg #[.int .i64 2, .int .i64 (-2)]]) (by simp [results, Try.results17, go_sem, rF_0, rF_1]) rfl ⟨rfl, ((Z2.setCell (p := ⟨w.heap.size + 1, 0, none⟩) (by simp) (.int .i64 2)).setCell (p := ⟨w.heap.size + 1, 1, none⟩) (by simp) (.int .i64 (-2)))⟩
set_option maxRecDepth 100000 in
set_option maxHeartbeats 1600000 in
theorem ardec_bad {A : Option Addr} {n c : Nat} {l : List Nat} {A2 : Option Addr} {n2 c2 : Nat} {ps : List Int} {w : World} (h : Rd w A n c (bcells (pack l))) (h2 : Rd w A2 n2 c2 (icells ps)) (h01 : Is01 l) (hl : l.length ≤ 131072) (hlen : ps.length ≤ 8192) (q : Nat) (hq : q < ps.length) (hall : ∀ j (hj : j < ps.length), j < q → 1 ≤ ps[j] ∧ ps[j] ≤ 4095) (hbad : ¬ (1 ≤ ps[q] ∧ ps[q] ≤ 4095)) :
    Calls Try.prog 17 #[.agg #[.slice A n c, .int .i64 l.length], .slice A2 n2 c2] w fun e w' => e = .returned (.tuple #[.slice none 0 0, .agg #[.int .i64 4, .int .i64 (q : Nat)]]) ∧ Below w.heap.size w w' := by
  have HV := Lib.hid (fun (W : World) (hW : Rd W A n c (bcells (pack l))) => valid_list A n c l _ W hW (Nat.le_refl _) h01 hl)
  have hn := h2.len
  rw [icells_len] at hn
  have hcap := Reads.cap h2
  have hcm := Reads.capMax h2
  unfold maxLen at hcm
  obtain rfl := hn
  have k1 : decide ((8192 : Int) < (ps.length : Int)) = false := by simp; omega
  have HH2 := Lib.hid h2
  have HA := Lib.hid hall
  have HB := Lib.hid hbad
  clear hall hbad h01
  have R_0 := ((h).alloc (.cells #[.slice A n c, .int .i64 l.length] 25)).alloc (.cells #[.int .i64 0, .int .i64 0] 27)
  have B_0 := ((Two.new w 25 (.slice A n c) (.int .i64 l.length))).alloc (.cells #[.int .i64 0, .int .i64 0] 27)
  have F_0 := (Two.new1 w (.cells #[.slice A n c, .int .i64 l.length] 25) 27 (.int .i64 0) (.int .i64 0))
  have Z0 := ((Below.refl w.heap.size w).alloc (by simp) (.cells #[.slice A n c, .int .i64 l.length] 25)).alloc (by simp) (.cells #[.int .i64 0, .int .i64 0] 27)
  have B_0_c0 := B_0.c0
  have B_0_c1 := B_0.c1
  have F_0_c0 := F_0.c0
  have F_0_c1 := F_0.c1
  have F_0_f0 := F_0.f0
  have F_0_f1 := F_0.f1
  go_enter Try.func17, Try.ntmps17
  go_wp2_with fail
  refine (HV.out _ R_0).mono ?_
  rintro e w1 ⟨rfl, y1⟩
  have B_1 := B_0.on y1
  have b0 := B_1.c0
  have b1 := B_1.c1
  have F_1 := F_0.on y1
  have R_1 := R_0.on y1
  have Z1 := Z0.trans (y1.mono Z0.size)
  clear B_0 B_0_c0 B_0_c1 F_0 F_0_c0 F_0_c1 F_0_f0 F_0_f1 R_0
  go_wp2_with fail
  go_loop [6, 7, 25] (fun _ _ i => ∃ k : Nat, k ≤ q ∧ i = .int .i64 (k : Nat)) (fun _ _ i => ps.length - (intOf i).toNat)
  case atStart => exact ⟨0, Nat.zero_le _, rfl⟩
  case round =>
    obtain ⟨k, hk, rfl⟩ := hrel
    by_cases hlt : k < ps.length
    · obtain ⟨b, off, rfl, hb, hc⟩ := (h2.on Z1).2.2.2 (by omega)
      have hcell := hc k _ (icells_get hlt)
      obtain ⟨p, hp⟩ : ∃ p, p = ps[k] := ⟨_, rfl⟩
      rw [← hp] at hcell
      have i1 : (0 : Int) ≤ (k : Int) := by omega
      have i2 : (k : Int) < (ps.length : Int) := by omega
      clear hc
      by_cases hkq : k < q
      · have hok := HA.out k hlt hkq
        rw [← hp] at hok
        have HP := Lib.hid (decide_eq_true hok)
        clear hok hp
        go_wp2_with fail
        refine (validp_yes _ HP.out _).mono ?_
        rintro e w9 ⟨rfl, rfl⟩
        go_wp2_with fail
        go_round
        case rel => exact ⟨k + 1, by omega, by go_num⟩
        case measure => simp [intOf] <;> omega
      · obtain rfl : k = q := by omega
        have hno := HB.out
        rw [← hp] at hno
        have HP := Lib.hid (decide_eq_false hno)
        clear hno hp
        go_wp2_with fail
        refine (validp_no _ HP.out _).mono ?_
        rintro e w9 ⟨rfl, rfl⟩
        go_wp2_with fail
        refine (arfault_any _ _ _).mono ?_
        rintro e w2 ⟨rfl, y2⟩
        have F2 := F_1.on y2
        have Z2 := Z1.trans (y2.mono Z1.size)
        have f0 := F2.c0
        have f1 := F2.c1
        have f2 := F2.f0
        have f3 := F2.f1
        go_wp2
        have r := (F2.set0 (.int .i64 4)).set1 (.int .i64 (k : Nat))
        have r0 := r.c0
        have r1 := r.c1
        exact bodyPost_ret (v := .tuple #[.slice none 0 0, .agg #[.int .i64 4, .int .i64 (k : Nat)]]) (by simp [results, Try.results17, go_sem, r0, r1]) rfl ⟨rfl, (Z2.setCell (p := ⟨w.heap.size + 1, 0, none⟩) (by simp) _).setCell (p := ⟨w.heap.size + 1, 1, none⟩) (by simp) _⟩
    · omega
set_option maxRecDepth 100000 in
set_option maxHeartbeats 1600000 in
theorem ardec_short {A : Option Addr} {n c : Nat} {l : List Nat} {A2 : Option Addr} {n2 c2 : Nat} {ps : List Int} {w : World} (h : Rd w A n c (bcells (pack l))) (h2 : Rd w A2 n2 c2 (icells ps)) (h01 : Is01 l) (hl : l.length ≤ 131072) (hlen : ps.length ≤ 8192) (hall : AllP ps) (hs : l.length < 2) :
    Calls Try.prog 17 #[.agg #[.slice A n c, .int .i64 l.length], .slice A2 n2 c2] w fun e w' => e = .returned (.tuple #[.slice none 0 0, .agg #[.int .i64 15, .int .i64 (-1)]]) ∧ Below w.heap.size w w' := by
  have HV := Lib.hid (fun (W : World) (hW : Rd W A n c (bcells (pack l))) => valid_list A n c l _ W hW (Nat.le_refl _) h01 hl)
  have hn := h2.len
  rw [icells_len] at hn
  have hcap := Reads.cap h2
  have hcm := Reads.capMax h2
  unfold maxLen at hcm
  obtain rfl := hn
  have k1 : decide ((8192 : Int) < (ps.length : Int)) = false := by simp; omega
  have HH2 := Lib.hid h2
  obtain ⟨q, hq⟩ : ∃ q, q = ps.length := ⟨_, rfl⟩
  have HA := Lib.hid (show ∀ j (hj : j < ps.length), j < ps.length → 1 ≤ ps[j] ∧ ps[j] ≤ 4095 from fun j hj _ => hall _ (List.getElem_mem hj))
  have HOP := Lib.hid (fun (W : World) (hW : Rd W A n c (bcells (pack l))) => open_short hW h01 hl hs)
  clear hall h01 hs
  have R_0 := ((h).alloc (.cells #[.slice A n c, .int .i64 l.length] 25)).alloc (.cells #[.int .i64 0, .int .i64 0] 27)
  have B_0 := ((Two.new w 25 (.slice A n c) (.int .i64 l.length))).alloc (.cells #[.int .i64 0, .int .i64 0] 27)
  have F_0 := (Two.new1 w (.cells #[.slice A n c, .int .i64 l.length] 25) 27 (.int .i64 0) (.int .i64 0))
  have Z0 := ((Below.refl w.heap.size w).alloc (by simp) (.cells #[.slice A n c, .int .i64 l.length] 25)).alloc (by simp) (.cells #[.int .i64 0, .int .i64 0] 27)
  have B_0_c0 := B_0.c0
  have B_0_c1 := B_0.c1
  have F_0_c0 := F_0.c0
  have F_0_c1 := F_0.c1
  have F_0_f0 := F_0.f0
  have F_0_f1 := F_0.f1
  go_enter Try.func17, Try.ntmps17
  go_wp2_with fail
  refine (HV.out _ R_0).mono ?_
  rintro e w1 ⟨rfl, y1⟩
  have B_1 := B_0.on y1
  have b0 := B_1.c0
  have b1 := B_1.c1
  have F_1 := F_0.on y1
  have R_1 := R_0.on y1
  have Z1 := Z0.trans (y1.mono Z0.size)
  clear B_0 B_0_c0 B_0_c1 F_0 F_0_c0 F_0_c1 F_0_f0 F_0_f1 R_0
  go_wp2_with fail
  go_loop [6, 7, 25] (fun _ _ i => ∃ k : Nat, k ≤ ps.length ∧ i = .int .i64 (k : Nat)) (fun _ _ i => ps.length - (intOf i).toNat)
  case atStart => exact ⟨0, Nat.zero_le _, rfl⟩
  case round =>
    obtain ⟨k, hk, rfl⟩ := hrel
    by_cases hlt : k < ps.length
    · obtain ⟨b, off, rfl, hb, hc⟩ := (h2.on Z1).2.2.2 (by omega)
      have hcell := hc k _ (icells_get hlt)
      obtain ⟨p, hp⟩ : ∃ p, p = ps[k] := ⟨_, rfl⟩
      rw [← hp] at hcell
      have i1 : (0 : Int) ≤ (k : Int) := by omega
      have i2 : (k : Int) < (ps.length : Int) := by omega
      clear hc
      have hok := HA.out k hlt hlt
      rw [← hp] at hok
      have HP := Lib.hid (decide_eq_true hok)
      clear hok hp
      go_wp2_with fail
      refine (validp_yes _ HP.out _).mono ?_
      rintro e w9 ⟨rfl, rfl⟩
      go_wp2_with fail
      go_round
      case rel => exact ⟨k + 1, by omega, by go_num⟩
      case measure => simp [intOf] <;> omega
    · obtain rfl : k = ps.length := by omega
      go_wp2_with fail
      refine (HOP.out _ R_1).mono ?_
      rintro e w2 ⟨rfl, y2⟩
      have F2 := (F_1.on y2).alloc (.cells #[.int .i64 0, .int .i64 0, .int .i64 0, .int .i64 0] 62) |>.alloc (.cells #[.int .i64 15, .int .i64 (-1)] 27)
      have Z2 := ((Z1.trans (y2.mono Z1.size)).alloc (by have := Z1.size; have := y2.size; omega) (.cells #[.int .i64 0, .int .i64 0, .int .i64 0, .int .i64 0] 62)).alloc (by have := Z1.size; have := y2.size; simp; omega) (.cells #[.int .i64 15, .int .i64 (-1)] 27)
      have G2 := Two.new1 w2 (.cells #[.int .i64 0, .int .i64 0, .int .i64 0, .int .i64 0] 62) 27 (.int .i64 15) (.int .i64 (-1))
      have g0 := G2.c0
      have g1 := G2.c1
      go_wp2_with fail
      refine (arfault_any _ _ _).mono ?_
      rintro e w3 ⟨rfl, y3⟩
      have F3 := F2.on y3
      have Z3 := Z2.trans (y3.mono Z2.size)
      have f0 := F3.c0
      have f1 := F3.c1
      have f2 := F3.f0
      have f3 := F3.f1
      go_wp2
      have r := (F3.set0 (.int .i64 15)).set1 (.int .i64 (-1))
      have r0 := r.c0
      have r1 := r.c1
      exact bodyPost_ret (v := .tuple #[.slice none 0 0, .agg #[.int .i64 15, .int .i64 (-1)]]) (by simp [results, Try.results17, go_sem, r0, r1]) rfl ⟨rfl, (Z3.setCell (p := ⟨w.heap.size + 1, 0, none⟩) (by simp) _).setCell (p := ⟨w.heap.size + 1, 1, none⟩) (by simp) _⟩
/-- What the walk of Decode holds: the code's variable (s), the result's fault (s + 1), the decoder (D), the bits so far. -/
def DcW (w wr : World) (s D : Nat) (A : Option Addr) (n c L : Nat) (lo hi V : Int) (t : Nat) (v : Value) (k : Nat) (xs : List Value) : Prop :=
  Two wr s 25 (.slice A n c) (.int .i64 (L : Nat)) ∧ Two wr (s + 1) 27 (.int .i64 0) (.int .i64 0) ∧ Four wr D 62 (.int .i64 lo) (.int .i64 hi) (.int .i64 V) (.int .i64 (t : Nat)) ∧ Below s w wr ∧ s + 1 < D ∧ wr.ownsRow D 3 1 v k xs
section
variable {w wr w' : World} {s D : Nat} {A : Option Addr} {n c L : Nat} {lo hi V : Int} {t : Nat} {v : Value} {k : Nat} {xs : List Value}
theorem DcW.on (h : DcW w wr s D A n c L lo hi V t v k xs) (y : Below wr.heap.size wr w') : DcW w w' s D A n c L lo hi V t v k xs := by
  obtain ⟨h1, h2, h3, h4, h5, h6⟩ := h
  exact ⟨h1.on y, h2.on y, h3.on y, h4.trans (y.mono (by have := h1.lt; omega)), h5, own_on h6 y⟩
theorem DcW.drew (h : DcW w wr s D A n c L lo hi V t v k xs) : DcW w wr.drew s D A n c L lo hi V t v k xs := by
  obtain ⟨h1, h2, h3, h4, h5, h6⟩ := h
  exact ⟨h1.drew, h2.drew, h3.drew, belowD h4, h5, own_drew h6⟩
theorem DcW.alloc (h : DcW w wr s D A n c L lo hi V t v k xs) (o : Obj) : DcW w (wr.alloc o) s D A n c L lo hi V t v k xs := h.on ((Below.refl _ _).alloc (Nat.le_refl _) o)
theorem DcW.lt (h : DcW w wr s D A n c L lo hi V t v k xs) : D < wr.heap.size := h.2.2.1.lt
theorem DcW.bel (h : DcW w wr s D A n c L lo hi V t v k xs) : Below s w wr := h.2.2.2.1
theorem DcW.app (h : DcW w wr s D A n c L lo hi V t v k xs) {v' : Value} {k' : Nat} {xs' : List Value} (ho : w'.ownsRow D 3 1 v' k' xs') (hg : wr.grownBy w' v.ownBlock) : DcW w w' s D A n c L lo hi V t v' k' xs' := by
  obtain ⟨h1, h2, h3, h4, h5, h6⟩ := h
  exact ⟨h1.grown hg (own_two_ne h6 h1 (by decide)).symm, h2.grown hg (own_two_ne h6 h2 (by decide)).symm, h3.grown hg (own_four_ne h6 h3 (by decide)).symm, below_grown h4 h6 hg (by omega) (by have := h1.lt; omega), h5, ho⟩
theorem DcW.set (h : DcW w wr s D A n c L lo hi V t v k xs) (lo' hi' V' : Int) (t' : Nat) : DcW w ((((wr.setCell ⟨D, 0, none⟩ (.int .i64 lo')).setCell ⟨D, 1, none⟩ (.int .i64 hi')).setCell ⟨D, 2, none⟩ (.int .i64 V')).setCell ⟨D, 3, none⟩ (.int .i64 (t' : Nat))) s D A n c L lo' hi' V' t' v k xs := by
  obtain ⟨h1, h2, h3, h4, h5, h6⟩ := h
  have e := own_four_ne h6 h3 (by decide)
  exact ⟨(((h1.far (p := ⟨D, 0, none⟩) (by show s ≠ D; omega) _).far (p := ⟨D, 1, none⟩) (by show s ≠ D; omega) _).far (p := ⟨D, 2, none⟩) (by show s ≠ D; omega) _).far (p := ⟨D, 3, none⟩) (by show s ≠ D; omega) _,
    (((h2.far (p := ⟨D, 0, none⟩) (by show s + 1 ≠ D; omega) _).far (p := ⟨D, 1, none⟩) (by show s + 1 ≠ D; omega) _).far (p := ⟨D, 2, none⟩) (by show s + 1 ≠ D; omega) _).far (p := ⟨D, 3, none⟩) (by show s + 1 ≠ D; omega) _,
    (((h3.set0 _).set1 _).set2 _).set3 _,
    (((h4.setCell (p := ⟨D, 0, none⟩) (by show s ≤ D; omega) _).setCell (p := ⟨D, 1, none⟩) (by show s ≤ D; omega) _).setCell (p := ⟨D, 2, none⟩) (by show s ≤ D; omega) _).setCell (p := ⟨D, 3, none⟩) (by show s ≤ D; omega) _, h5,
    own_far_any (own_far_any (own_far_any (own_far_any h6 (p := ⟨D, 0, none⟩) e _) (p := ⟨D, 1, none⟩) e _) (p := ⟨D, 2, none⟩) e _) (p := ⟨D, 3, none⟩) e _⟩
end
set_option maxRecDepth 100000 in
set_option maxHeartbeats 6400000 in
theorem ardec_main {A : Option Addr} {n c : Nat} {l : List Nat} {A2 : Option Addr} {n2 c2 : Nat} {ps : List Int} {w : World} (h : Rd w A n c (bcells (pack l))) (h2 : Rd w A2 n2 c2 (icells ps)) (h01 : Is01 l) (hl : l.length ≤ 131072) (hlen : ps.length ≤ 8192) (hall : AllP ps) (hs : 2 ≤ l.length) (cd : Nat) (ix : Int) (hix : ix = if cd = 0 then 0 else -1) (X : List Nat) (hcd : cd = if l.length + 14 < (drun l ps (dinit l)).at_ then 15 else if (drun l ps (dinit l)).at_ < l.length + 14 then 16 else 0) (hX : X = if cd = 0 then dbits l ps (dinit l) else []) :
    Calls Try.prog 17 #[.agg #[.slice A n c, .int .i64 l.length], .slice A2 n2 c2] w fun e w' => ∃ A' n' c', e = .returned (.tuple #[.slice A' n' c', .agg #[.int .i64 (cd : Nat), .int .i64 ix]]) ∧ Rd w' A' n' c' (ncells X) ∧ Below w.heap.size w w' := by
  have HV := Lib.hid (fun (W : World) (hW : Rd W A n c (bcells (pack l))) => valid_list A n c l _ W hW (Nat.le_refl _) h01 hl)
  have hn := h2.len
  rw [icells_len] at hn
  have hcap := Reads.cap h2
  have hcm := Reads.capMax h2
  unfold maxLen at hcm
  obtain rfl := hn
  have k1 : decide ((8192 : Int) < (ps.length : Int)) = false := by simp; omega
  have HH2 := Lib.hid h2
  obtain ⟨q, hq⟩ : ∃ q, q = ps.length := ⟨_, rfl⟩
  have HA := Lib.hid (show ∀ j (hj : j < ps.length), j < ps.length → 1 ≤ ps[j] ∧ ps[j] ≤ 4095 from fun j hj _ => hall _ (List.getElem_mem hj))
  obtain ⟨V0, hV0⟩ : ∃ V0, V0 = num ((List.range 16).map fun i => l.getD i 0) := ⟨_, rfl⟩
  have HOP := Lib.hid (fun (W : World) (hW : Rd W A n c (bcells (pack l))) => ar_open_ok hW h01 hl hs V0 hV0)
  have HIN := Lib.hid (show dinit l = ⟨0, 65535, (V0 : Nat), 16⟩ by unfold dinit; rw [hV0])
  have HOK := Lib.hid (fun k => drun_ok h01 (ps.take k) (hall.take k) _ (dinit_ok h01))
  have HDC := Lib.hid (fun (lo hi V p : Int) (t : Nat) (hW : Wid lo hi) (hV1 : lo ≤ V) (hV2 : V ≤ hi) (ht : t ≤ 400000) (h1 : 1 ≤ p) (h2 : p ≤ 4095) (b : Nat) (LO HI VV : Int) (TT : Nat) (hb : b = pickb ⟨lo, hi, V, t⟩ p) (hLO : LO = (stp lo hi b p).1) (hHI : HI = (stp lo hi b p).2.1) (hVV : VV = dv l (stp lo hi b p).2.2 V t) (hTT : TT = t + (stp lo hi b p).2.2.length) (W : World) (hR : Rd W A n c (bcells (pack l))) => decode_any hR h01 hl hW hV1 hV2 ht h1 h2 b LO HI VV TT hb hLO hHI hVV hTT)
  have HMO := Lib.hid (fun k => drun_at_take l ps (dinit l) k)
  have HX := Lib.hid hX
  have HCD := Lib.hid hcd
  obtain ⟨i0, hi0, hz0, hz1, hz2⟩ := info_parts int_info
  have HIX := Lib.hid hix
  clear hall h01 hV0 hX hcd hix
  have R_0 := ((h).alloc (.cells #[.slice A n c, .int .i64 l.length] 25)).alloc (.cells #[.int .i64 0, .int .i64 0] 27)
  have B_0 := ((Two.new w 25 (.slice A n c) (.int .i64 l.length))).alloc (.cells #[.int .i64 0, .int .i64 0] 27)
  have F_0 := (Two.new1 w (.cells #[.slice A n c, .int .i64 l.length] 25) 27 (.int .i64 0) (.int .i64 0))
  have Z0 := ((Below.refl w.heap.size w).alloc (by simp) (.cells #[.slice A n c, .int .i64 l.length] 25)).alloc (by simp) (.cells #[.int .i64 0, .int .i64 0] 27)
  have B_0_c0 := B_0.c0
  have B_0_c1 := B_0.c1
  have F_0_c0 := F_0.c0
  have F_0_c1 := F_0.c1
  have F_0_f0 := F_0.f0
  have F_0_f1 := F_0.f1
  go_enter Try.func17, Try.ntmps17
  go_wp2_with fail
  refine (HV.out _ R_0).mono ?_
  rintro e w1 ⟨rfl, y1⟩
  have B_1 := B_0.on y1
  have b0 := B_1.c0
  have b1 := B_1.c1
  have F_1 := F_0.on y1
  have R_1 := R_0.on y1
  have Z1 := Z0.trans (y1.mono Z0.size)
  clear B_0 B_0_c0 B_0_c1 F_0 F_0_c0 F_0_c1 F_0_f0 F_0_f1 R_0
  go_wp2_with fail
  go_loop [6, 7, 25] (fun _ _ i => ∃ k : Nat, k ≤ ps.length ∧ i = .int .i64 (k : Nat)) (fun _ _ i => ps.length - (intOf i).toNat)
  case atStart => exact ⟨0, Nat.zero_le _, rfl⟩
  case round =>
    obtain ⟨k, hk, rfl⟩ := hrel
    by_cases hlt : k < ps.length
    · obtain ⟨b, off, rfl, hb, hc⟩ := (h2.on Z1).2.2.2 (by omega)
      have hcell := hc k _ (icells_get hlt)
      obtain ⟨p, hp⟩ : ∃ p, p = ps[k] := ⟨_, rfl⟩
      rw [← hp] at hcell
      have i1 : (0 : Int) ≤ (k : Int) := by omega
      have i2 : (k : Int) < (ps.length : Int) := by omega
      clear hc
      have hok := HA.out k hlt hlt
      rw [← hp] at hok
      have HP := Lib.hid (decide_eq_true hok)
      clear hok hp
      go_wp2_with fail
      refine (validp_yes _ HP.out _).mono ?_
      rintro e w9 ⟨rfl, rfl⟩
      go_wp2_with fail
      go_round
      case rel => exact ⟨k + 1, by omega, by go_num⟩
      case measure => simp [intOf] <;> omega
    · obtain rfl : k = ps.length := by omega
      go_wp2_with fail
      refine (HOP.out _ R_1).mono ?_
      rintro e w2 ⟨rfl, y2⟩
      have hD := (F_1.on y2).lt
      have E2 : DcW w ((w2.alloc (.cells #[.int .i64 0, .int .i64 65535, .int .i64 (V0 : Nat), .int .i64 16] 62)).alloc (.cells #[.int .i64 0, .int .i64 0] 27)) w.heap.size w2.heap.size A n c l.length 0 65535 (V0 : Nat) 16 (.slice none 0 0) 0 [] :=
        ⟨((B_1.on y2).alloc _).alloc _, ((F_1.on y2).alloc _).alloc _, (Four.new w2 _ _ _ _ _).alloc _, ((Z1.trans (y2.mono Z1.size)).alloc (by have := Z1.size; have := y2.size; omega) _).alloc (by have := Z1.size; have := y2.size; simp; omega) _, hD, World.ownsRow_nil _ _ _ _⟩
      have G2 := Two.new1 w2 (.cells #[.int .i64 0, .int .i64 65535, .int .i64 (V0 : Nat), .int .i64 16] 62) 27 (.int .i64 0) (.int .i64 0)
      have g0 := G2.c0
      have g1 := G2.c1
      clear B_1 F_1 R_1 b0 b1 y2 Z1 y1 hD
      go_wp2_with fail
      generalize ((w2.alloc (.cells #[.int .i64 0, .int .i64 65535, .int .i64 (V0 : Nat), .int .i64 16] 62)).alloc (.cells #[.int .i64 0, .int .i64 0] 27)) = W2 at E2 G2 g0 g1 ⊢
      obtain ⟨D, hD⟩ : ∃ D, D = w2.heap.size := ⟨_, rfl⟩
      rw [← hD] at E2 ⊢
      clear hD G2 g0 g1
      go_loopw [10, 12, 13, 14, 47] (fun ov _ _ _ i wr => ∃ (k : Nat) (lo hi V : Int) (t : Nat) (A' : Option Addr) (c' : Nat), k ≤ ps.length ∧ i = .int .i64 (k : Nat) ∧ ov = .slice A' k c' ∧ drun l (ps.take k) (dinit l) = ⟨lo, hi, V, t⟩ ∧ t ≤ l.length + 14 ∧ DcW w wr w.heap.size D A n c l.length lo hi V t (.slice A' k c') k (ncells (dbits l (ps.take k) (dinit l)))) (fun _ _ _ _ i _ => ps.length - (intOf i).toNat)
      case atStart => exact ⟨0, 0, 65535, (V0 : Nat), 16, none, 0, Nat.zero_le _, rfl, rfl, HIN.out, by omega, E2⟩
      case round =>
        obtain ⟨k, lo, hi, V, t, A', c', hk, rfl, rfl, hd, htl, E3⟩ := hrel
        clear E2
        have HD := Lib.hid hd
        have HE := Lib.hid E3
        by_cases hlt : k < ps.length
        · have hdok : DOk ⟨lo, hi, V, t⟩ := by rw [← hd]; exact HOK.out k
          obtain ⟨hW, hV1, hV2⟩ := hdok
          dsimp only at hW hV1 hV2
          have hstep := drun_take_succ l ps k hlt (dinit l)
          have hbits := dbits_take_succ l ps k hlt (dinit l)
          rw [hd] at hstep hbits
          obtain ⟨p, hp⟩ : ∃ p, p = ps[k] := ⟨_, rfl⟩
          have hpr := HA.out k hlt hlt
          rw [← hp] at hstep hbits hpr
          obtain ⟨b, hb⟩ : ∃ b, b = pickb ⟨lo, hi, V, t⟩ p := ⟨_, rfl⟩
          obtain ⟨LO, hLO⟩ : ∃ LO, LO = (stp lo hi b p).1 := ⟨_, rfl⟩
          obtain ⟨HI, hHI⟩ : ∃ HI, HI = (stp lo hi b p).2.1 := ⟨_, rfl⟩
          obtain ⟨VV, hVV⟩ : ∃ VV, VV = dv l (stp lo hi b p).2.2 V t := ⟨_, rfl⟩
          obtain ⟨TT, hTT⟩ : ∃ TT, TT = t + (stp lo hi b p).2.2.length := ⟨_, rfl⟩
          have hs2 : drun l (ps.take (k + 1)) (dinit l) = ⟨LO, HI, VV, TT⟩ := by
            rw [hstep]
            unfold dstep dks
            dsimp only
            rw [← hb, ← hLO, ← hHI, ← hVV, ← hTT]
          have HS := Lib.hid hs2
          have hTb : TT ≤ 400000 := by rw [hTT]; have := (stp_facts b hW hpr.1 hpr.2).2.1; omega
          have HDEC := Lib.hid (fun (W : World) (hR : Rd W A n c (bcells (pack l))) => HDC.out lo hi V p t hW hV1 hV2 (by omega) hpr.1 hpr.2 b LO HI VV TT hb hLO hHI hVV hTT W hR)
          rw [← hb] at hbits
          have HBC := Lib.hid (show ncells (dbits l (ps.take (k + 1)) (dinit l)) = ncells (dbits l (ps.take k) (dinit l)) ++ [.int .i64 (b : Nat)] by rw [hbits, ncells_snoc])
          obtain ⟨bb, off, rfl, hbb, hc⟩ := (HH2.out.on E3.bel).2.2.2 (by omega)
          have hcell := hc k _ (icells_get hlt)
          rw [← hp] at hcell
          have i1 : (0 : Int) ≤ (k : Int) := by omega
          have i2 : (k : Int) < (ps.length : Int) := by omega
          have c0 := E3.1.c0
          have c1 := E3.1.c1
          have d0 := E3.2.2.1.c0
          have d1 := E3.2.2.1.c1
          have d2 := E3.2.2.1.c2
          have d3 := E3.2.2.1.c3
          have hRd := h.on E3.bel
          clear hc hp hs2 hstep hbits hW hV1 hV2 hpr hb hLO hHI hVV hTT E3 hd
          go_wp2_with fail
          refine (HDEC.out _ hRd).mono ?_
          rintro e w5 ⟨rfl, y5⟩
          have E5 := (HE.out.on y5).alloc (.cells #[.int .i64 LO, .int .i64 HI, .int .i64 VV, .int .i64 (TT : Nat)] 62)
          have N5 := Four.new w5 62 (.int .i64 LO) (.int .i64 HI) (.int .i64 VV) (.int .i64 (TT : Nat))
          have hDN : D < w5.heap.size := (HE.out.on y5).lt
          obtain ⟨W5, hW5⟩ : ∃ W5, W5 = w5.alloc (.cells #[.int .i64 LO, .int .i64 HI, .int .i64 VV, .int .i64 (TT : Nat)] 62) := ⟨_, rfl⟩
          clear c0 c1 d0 d1 d2 d3 hcell hRd y5
          go_upto_region 19 with (fail)
          rw [← hW5] at E5 N5 ⊢
          clear hW5
          obtain ⟨N, hN⟩ : ∃ N, N = w5.heap.size := ⟨_, rfl⟩
          rw [← hN] at N5 hDN ⊢
          clear hN
          have c1 := E5.1.c1
          have n0 := N5.c0
          have n1 := N5.c1
          have n2 := N5.c2
          have n3 := N5.c3
          by_cases hbig : l.length + 14 < TT
          · have k5 : decide ((l.length : Int) + 14 < (TT : Int)) = true := by simp; omega
            have F6 := E5.2.1
            have Z6 := E5.bel
            go_wp2_with fail
            refine (arfault_any _ _ _).mono ?_
            rintro e w7 ⟨rfl, y7⟩
            have F7 := F6.on y7
            have Z7 := Z6.trans (y7.mono Z6.size)
            have f0 := F7.c0
            have f1 := F7.c1
            have f2 := F7.f0
            have f3 := F7.f1
            go_wp2
            have r := (F7.set0 (.int .i64 15)).set1 (.int .i64 (-1))
            have r0 := r.c0
            have r1 := r.c1
            have HXE := Lib.hid (show cd = 15 ∧ X = [] ∧ ix = -1 by have e1 := HCD.out; have e2 := HX.out; have e3 := HIX.out; rw [if_pos (by have := HMO.out (k + 1); rw [HS.out] at this; dsimp only at this; omega)] at e1; exact ⟨e1, by rw [e2, if_neg (by rw [e1]; decide)], by rw [e3, if_neg (by rw [e1]; decide)]⟩)
            exact bodyPost_ret (v := .tuple #[.slice none 0 0, .agg #[.int .i64 15, .int .i64 (-1)]]) (by simp [results, Try.results17, go_sem, r0, r1]) rfl ⟨none, 0, 0, by rw [HXE.out.1, HXE.out.2.2]; rfl, by rw [HXE.out.2.1]; exact Reads.nil _ _ none 0 (Nat.zero_le _), (Z7.setCell (p := ⟨w.heap.size + 1, 0, none⟩) (by simp) _).setCell (p := ⟨w.heap.size + 1, 1, none⟩) (by simp) _⟩
          · have k5 : decide ((l.length : Int) + 14 < (TT : Int)) = false := by simp; omega
            have hDs : D ≤ W5.heap.size := by have := E5.lt; omega
            have HOO := Lib.hid E5.2.2.2.2.2
            go_wp2_with fail
            refine wp_region_noPanic ?_
            refine wp_region_held_drew (S := fun w' => w'.cell? ⟨N, 0, none⟩ = some (.int .i64 LO) ∧ w'.cell? ⟨N, 1, none⟩ = some (.int .i64 HI) ∧ w'.cell? ⟨N, 2, none⟩ = some (.int .i64 VV) ∧ w'.cell? ⟨N, 3, none⟩ = some (.int .i64 (TT : Nat))) (by kernel_rfl) (by first | trivial | (dsimp only; go_keep)) (fun hR1 => ?_)
            refine wpAnyH_take (i := 0) (v := ?_) rfl (by kernel_rfl) (by kernel_rfl) (by kernel_rfl) (fun _ _ _ h => h) (Or.inl ⟨by rfl, ?_⟩) (by assumption) ?_
            rotate_left 1
            focus (intro wS hSw; (try dsimp only at hSw); go_simp; try with_reducible rfl)
            (try simp only [Act.put, List.setIfInBounds_toArray, List.set_cons_zero, List.set_cons_succ])
            refine wpAnyH_take (i := 1) (v := ?_) rfl (by kernel_rfl) (by kernel_rfl) (by kernel_rfl) (fun _ _ _ h => h) (Or.inl ⟨by rfl, ?_⟩) (by assumption) ?_
            rotate_left 1
            focus (intro wS hSw; (try dsimp only at hSw); go_simp; try with_reducible rfl)
            (try simp only [Act.put, List.setIfInBounds_toArray, List.set_cons_zero, List.set_cons_succ])
            refine wpAnyH_take (i := 4) (v := ?_) rfl (by kernel_rfl) (by kernel_rfl) (by kernel_rfl) (fun _ _ _ h => h) (Or.inl ⟨by rfl, ?_⟩) (by assumption) ?_
            rotate_left 1
            focus (intro wS hSw; (try dsimp only at hSw); go_simp; try with_reducible rfl)
            (try simp only [Act.put, List.setIfInBounds_toArray, List.set_cons_zero, List.set_cons_succ])
            refine wpAnyH_ready (rs := [2]) (by kernel_rfl) (by simp) ?_
            refine (AllReadyH.cons rfl (fun K hK => ?_) AllReadyH.nil)
            go_simp
            have N6 := N5.drew.alloc (.cells #[.int .i64 (b : Nat)] 3)
            have na0 := N6.c0
            have na1 := N6.c1
            have na2 := N6.c2
            have na3 := N6.c3
            refine hK.out _ _ ?_ (fun hR2 => ?_)
            · first | trivial | ((try dsimp only); go_keep)
            clear hK K hR1
            (try simp only [Act.put, List.setIfInBounds_toArray, List.set_cons_zero, List.set_cons_succ])
            refine wpAnyH_ready (rs := [3]) (by kernel_rfl) (by simp) ?_
            refine (AllReadyH.cons rfl (fun K hK => ?_) AllReadyH.nil)
            refine step_app1 W5.drew (by rfl) _ _ _ (by rfl) D 3 i0 _ 8 Try.underlying34 hi0 hz0 hz1 hz2 rfl _ _ _ (by rfl) (own_drew HOO.out) (.int .i64 (b : Nat)) rfl (by rfl) (by unfold maxLen; omega) (by omega) hDs ?_
            intro A7 c7 w7 o7 g7
            rw [← HBC.out] at o7
            have E7 := E5.drew.app o7 g7
            have N7 := N5.drew.grown g7 (own_four_ne HOO.out N5 (by decide)).symm
            have nb0 := N7.c0
            have nb1 := N7.c1
            have nb2 := N7.c2
            have nb3 := N7.c3
            have e0 := E7.2.2.1.c0
            have e1 := E7.2.2.1.c1
            have e2 := E7.2.2.1.c2
            have e3 := E7.2.2.1.c3
            have e4 := E7.2.2.1.f0
            have e5 := E7.2.2.1.f1
            have e6 := E7.2.2.1.f2
            have e7 := E7.2.2.1.f3
            refine hK.out _ _ ?_ (fun hR3 => ?_)
            · first | trivial | ((try dsimp only); go_keep)
            clear hK K hR2
            (try simp only [Act.put, List.setIfInBounds_toArray, List.set_cons_zero, List.set_cons_succ])
            refine wpAnyH_take (i := 5) (v := ?_) rfl (by kernel_rfl) (by kernel_rfl) (by kernel_rfl) (fun _ _ _ h => h) (Or.inl ⟨by rfl, ?_⟩) (by assumption) ?_
            rotate_left 1
            focus (intro wS hSw; (try dsimp only at hSw); go_simp; try with_reducible rfl)
            (try simp only [Act.put, List.setIfInBounds_toArray, List.set_cons_zero, List.set_cons_succ])
            refine wpAnyH_ready (rs := [6]) (by kernel_rfl) (by simp) ?_
            refine (AllReadyH.cons rfl (fun K hK => ?_) AllReadyH.nil)
            have E8 := E7.set LO HI VV TT
            have N8 := (((N7.far (p := ⟨D, 0, none⟩) (by show N ≠ D; omega) (.int .i64 LO)).far (p := ⟨D, 1, none⟩) (by show N ≠ D; omega) (.int .i64 HI)).far (p := ⟨D, 2, none⟩) (by show N ≠ D; omega) (.int .i64 VV)).far (p := ⟨D, 3, none⟩) (by show N ≠ D; omega) (.int .i64 (TT : Nat))
            have nc0 := N8.c0
            have nc1 := N8.c1
            have nc2 := N8.c2
            have nc3 := N8.c3
            go_simp
            refine hK.out _ _ ?_ (fun hR4 => ?_)
            · first | trivial | ((try dsimp only); go_keep)
            clear hK K hR3
            (try simp only [Act.put, List.setIfInBounds_toArray, List.set_cons_zero, List.set_cons_succ])
            refine wpAnyH_done (by kernel_rfl) ?_ _
            refine NoPanic.normal ?_
            clear hR4
            have HE8 := Lib.hid E8
            clear N6 N7 N8 E7 E8 na0 na1 na2 na3 nb0 nb1 nb2 nb3 nc0 nc1 nc2 nc3 e0 e1 e2 e3 e4 e5 e6 e7 o7 g7 n0 n1 n2 n3 c1 k5
            go_wp2_with fail
            go_roundw
            case rel => exact ⟨k + 1, LO, HI, VV, TT, A7, c7, by omega, by go_num, rfl, HS.out, by omega, HE8.out⟩
            case measure => simp [intOf] <;> omega
        · obtain rfl : k = ps.length := by omega
          have e1 : ps.take ps.length = ps := List.take_length
          rw [e1] at hd
          have HDF := Lib.hid hd
          have d3 := E3.2.2.1.c3
          have c1 := E3.1.c1
          by_cases hsm : t < l.length + 14
          · have k5 : decide ((t : Int) < (l.length : Int) + 14) = true := by simp; omega
            have F6 := E3.2.1
            have Z6 := E3.bel
            go_wp2_with fail
            refine (arfault_any _ _ _).mono ?_
            rintro e w7 ⟨rfl, y7⟩
            have F7 := F6.on y7
            have Z7 := Z6.trans (y7.mono Z6.size)
            have f0 := F7.c0
            have f1 := F7.c1
            have f2 := F7.f0
            have f3 := F7.f1
            go_wp2
            have r := (F7.set0 (.int .i64 16)).set1 (.int .i64 (-1))
            have r0 := r.c0
            have r1 := r.c1
            have HXE := Lib.hid (show cd = 16 ∧ X = [] ∧ ix = -1 by have e1 := HCD.out; have e2 := HX.out; have e3 := HIX.out; rw [HDF.out] at e1; dsimp only at e1; rw [if_neg (by omega), if_pos (by omega)] at e1; exact ⟨e1, by rw [e2, if_neg (by rw [e1]; decide)], by rw [e3, if_neg (by rw [e1]; decide)]⟩)
            exact bodyPost_ret (v := .tuple #[.slice none 0 0, .agg #[.int .i64 16, .int .i64 (-1)]]) (by simp [results, Try.results17, go_sem, r0, r1]) rfl ⟨none, 0, 0, by rw [HXE.out.1, HXE.out.2.2]; rfl, by rw [HXE.out.2.1]; exact Reads.nil _ _ none 0 (Nat.zero_le _), (Z7.setCell (p := ⟨w.heap.size + 1, 0, none⟩) (by simp) _).setCell (p := ⟨w.heap.size + 1, 1, none⟩) (by simp) _⟩
          · have k5 : decide ((t : Int) < (l.length : Int) + 14) = false := by simp; omega
            have HXE := Lib.hid (show cd = 0 ∧ X = dbits l ps (dinit l) ∧ ix = 0 by have e1 := HCD.out; have e2 := HX.out; have e3 := HIX.out; rw [HDF.out] at e1; dsimp only at e1; rw [if_neg (by omega), if_neg (by omega)] at e1; exact ⟨e1, by rw [e2, if_pos e1], by rw [e3, if_pos e1]⟩)
            have F6 := E3.2.1
            have Z6 := E3.bel
            have O6 := E3.2.2.2.2.2
            rw [e1] at O6
            have HO6 := Lib.hid O6
            have hsD := E3.2.2.2.2.1
            have f0 := F6.c0
            have f1 := F6.c1
            have f2 := F6.f0
            have f3 := F6.f1
            clear O6 E3 hd
            go_wp2
            have r := (F6.set0 (.int .i64 0)).set1 (.int .i64 0)
            have r0 := r.c0
            have r1 := r.c1
            have o9 := own_low (own_low HO6.out (p := ⟨w.heap.size + 1, 0, none⟩) hsD (.int .i64 0)) (p := ⟨w.heap.size + 1, 1, none⟩) hsD (.int .i64 0)
            exact bodyPost_ret (v := .tuple #[.slice A' ps.length c', .agg #[.int .i64 0, .int .i64 0]]) (by simp [results, Try.results17, go_sem, r0, r1]) rfl ⟨A', ps.length, c', by rw [HXE.out.1, HXE.out.2.2]; rfl, by rw [HXE.out.2.1]; exact Rd.own o9, (Z6.setCell (p := ⟨w.heap.size + 1, 0, none⟩) (by simp) _).setCell (p := ⟨w.heap.size + 1, 1, none⟩) (by simp) _⟩
end PB
end Go.Proofs.Ytnnpkajmheglgaa
