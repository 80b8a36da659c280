/-
  The reference's functions for the model: BitList, context, Counts, Predicted.
-/
import Derived.Test.YtmkkbedbgkhbpaaMdPredict
import Derived.Test.YtmkkbedbgkhbpaaBitsRef3
import Derived.Test.YtmkkbedbgkhbpaaBitsEx
namespace Go.Proofs.Ytmkkbedbgkhbpaa
open Go.RowKit
attribute [local go_sem ↓] Go.wp_at_zero Go.wp_at_succ
set_option linter.unusedVariables false
set_option linter.unusedSimpArgs false
namespace PB
set_option maxHeartbeats 800000 in
theorem bitlist_ok {A : Option Addr} {n c : Nat} {xs : List Int} {w : World} (h : Rd w A n c (icells xs)) (hb : BitsTo xs xs.length) :
    Calls Try.prog 20 #[.slice A n c] w fun e w' => e = .returned (.tuple #[.bool true, .int .i64 0]) ∧ w = w' := by
  have hn := h.len
  simp only [icells, List.length_map] at hn
  have hcap := Reads.cap h
  have hcm := Reads.capMax h
  unfold maxLen at hcm
  have HB := Lib.hid hb
  clear hb
  go_enter Try.func20, Try.ntmps20
  go_wp2_with fail
  go_loop [4] (fun i => ∃ k : Nat, k ≤ n ∧ i = .int .i64 (k : Nat)) (fun i => n - (intOf i).toNat)
  case atStart => exact ⟨0, Nat.zero_le _, rfl⟩
  case round =>
    obtain ⟨k, hk, rfl⟩ := hrel
    by_cases hlt : k < n
    · obtain ⟨g, off, rfl, hg, hc⟩ := h.2.2.2 (by omega)
      have hcell := hc k _ (icells_get (by omega))
      obtain ⟨x, hx⟩ : ∃ x, x = xs.getD k 0 := ⟨_, rfl⟩
      have hbit := HB.out k (by omega)
      rw [← hx] at hcell hbit
      clear hc hx
      rcases bit_test hbit with ht | ⟨ht, ht2⟩
      all_goals
        clear hbit
        go_wp2_with fail
        go_round
        case rel => exact ⟨k + 1, by omega, by go_num⟩
        case measure => simp [intOf] <;> omega
    · obtain rfl : k = n := by omega
      go_wp2
      go_ret2
      exact ⟨rfl, rfl⟩
set_option maxHeartbeats 800000 in
theorem bitlist_bad {A : Option Addr} {n c : Nat} {xs : List Int} {w : World} (h : Rd w A n c (icells xs)) (q : Nat) (hi : q < xs.length) (hb : BitsTo xs q) (hbad : ¬ IsBit (xs.getD q 0)) :
    Calls Try.prog 20 #[.slice A n c] w fun e w' => e = .returned (.tuple #[.bool false, .int .i64 (q : Nat)]) ∧ w = w' := by
  have hn := h.len
  simp only [icells, List.length_map] at hn
  have hcap := Reads.cap h
  have hcm := Reads.capMax h
  unfold maxLen at hcm
  have HB := Lib.hid hb
  clear hb
  go_enter Try.func20, Try.ntmps20
  go_wp2_with fail
  go_loop [4] (fun i => ∃ k : Nat, k ≤ q ∧ i = .int .i64 (k : Nat)) (fun i => q - (intOf i).toNat)
  case atStart => exact ⟨0, Nat.zero_le _, rfl⟩
  case round =>
    obtain ⟨k, hk, rfl⟩ := hrel
    obtain ⟨g, off, rfl, hg, hc⟩ := h.2.2.2 (by omega)
    have hcell := hc k _ (icells_get (by omega))
    obtain ⟨x, hx⟩ : ∃ x, x = xs.getD k 0 := ⟨_, rfl⟩
    by_cases hlt : k < q
    · have hbit := HB.out k (by omega)
      rw [← hx] at hcell hbit
      clear hc hx
      rcases bit_test hbit with ht | ⟨ht, ht2⟩
      all_goals
        clear hbit
        go_wp2_with fail
        go_round
        case rel => exact ⟨k + 1, by omega, by go_num⟩
        case measure => simp [intOf] <;> omega
    · obtain rfl : k = q := by omega
      rw [← hx] at hcell hbad
      obtain ⟨ht, ht2⟩ := bit_bad hbad
      clear hc hx hbad
      go_wp2
      go_ret2
      exact ⟨rfl, rfl⟩
theorem begnum_step {h : List Nat} (b k : Nat) (hb : b ≤ k) (hk : k < h.length) : 2 * num (1 :: (h.drop b).take (k - b)) + h.getD k 0 = num (1 :: (h.drop b).take (k + 1 - b)) := by
  have e : (h.drop b).take (k + 1 - b) = (h.drop b).take (k - b) ++ [h.getD k 0] := by
    have e1 : k + 1 - b = (k - b) + 1 := by omega
    rw [e1, List.take_succ_eq_append_getElem (by rw [List.length_drop]; omega)]
    congr 2
    rw [List.getElem_drop, ← getD_lt]
    congr 1
    omega
  rw [e, ← List.cons_append, num_snoc]
theorem begnum_lt {h : List Nat} (h01 : Is01 h) (b k : Nat) (hk : k - b ≤ 8) : num (1 :: (h.drop b).take (k - b)) < 512 := by
  have h1 : Is01 (1 :: (h.drop b).take (k - b)) := by
    refine Is01.of_mem fun x hx => ?_
    rcases List.mem_cons.1 hx with rfl | hx
    · decide
    · exact ((h01.drop b).take (k - b)).mem hx
  have h2 := num_lt h1
  have h3 : 2 ^ (1 :: (h.drop b).take (k - b)).length ≤ 2 ^ 9 := Nat.pow_le_pow_right (by decide) (by rw [List.length_cons, List.length_take]; omega)
  omega
set_option maxRecDepth 100000 in
set_option maxHeartbeats 3200000 in
theorem refctx_0 {A : Option Addr} {n c : Nat} {h : List Nat} {w : World} (hr : Rd w A n c (ncells h)) (h01 : Is01 h) (i : Nat) (hi : i ≤ h.length) (ii : Int) (hii : ii = (i : Nat)) :
    Calls Try.prog 25 #[.slice A n c, .int .i64 ii, .int .i64 0] w fun e w' => e = .returned (cval (ctx h i 0)) ∧ Below w.heap.size w w' := by
  subst hii
  have hn := hr.len
  rw [ncells_length] at hn
  have hcap := Reads.cap hr
  have hcm := Reads.capMax hr
  unfold maxLen at hcm
  obtain ⟨bg, hbg⟩ : ∃ bg, bg = cbeg i := ⟨_, rfl⟩
  have hb1 : bg ≤ i := by rw [hbg]; unfold cbeg; omega
  have hb2 : i - bg ≤ 7 := by rw [hbg]; unfold cbeg; omega
  have HBE := Lib.hid (show (i : Int) - (i : Int) % 8 = ((bg : Nat) : Int) by rw [hbg]; unfold cbeg; omega)
  have HBG := Lib.hid hbg
  have HR := Lib.hid hr
  have H01 := Lib.hid h01
  have F0 := Four.new w 52 (.int .i64 0) (.int .i64 0) (.int .i64 0) (.int .i64 0)
  have F1 := F0.alloc (.cells #[.int .i64 0, .int .i64 0, .int .i64 0, .int .i64 1] 52)
  have G1 := Four.new1 w (.cells #[.int .i64 0, .int .i64 0, .int .i64 0, .int .i64 0] 52) 52 (.int .i64 0) (.int .i64 0) (.int .i64 0) (.int .i64 1)
  have y1 := ((Below.refl w.heap.size w).alloc (Nat.le_refl _) (.cells #[.int .i64 0, .int .i64 0, .int .i64 0, .int .i64 0] 52)).alloc (by simp) (.cells #[.int .i64 0, .int .i64 0, .int .i64 0, .int .i64 1] 52)
  clear hbg hr h01
  go_enter Try.func25, Try.ntmps25
  go_upto_region 2 with (fail)
  rw [HBE.out]
  go_upto_region 4 with (fail)
  generalize ((w.alloc (.cells #[.int .i64 0, .int .i64 0, .int .i64 0, .int .i64 0] 52)).alloc (.cells #[.int .i64 0, .int .i64 0, .int .i64 0, .int .i64 1] 52)) = w1 at F1 G1 y1 ⊢
  have HF := Lib.hid F1
  have HG := Lib.hid G1
  have HY := Lib.hid y1
  clear F1 G1 y1 F0
  go_loopw [9] (fun kv wr => ∃ k : Nat, bg ≤ k ∧ k ≤ i ∧ kv = .int .i64 (k : Nat) ∧ Four wr w.heap.size 52 (.int .i64 0) (.int .i64 0) (.int .i64 0) (.int .i64 0) ∧ Four wr (w.heap.size + 1) 52 (.int .i64 0) (.int .i64 0) (.int .i64 0) (.int .i64 (num (1 :: (h.drop bg).take (k - bg)) : Nat)) ∧ Below w.heap.size w wr) (fun kv _ => i - (intOf kv).toNat)
  case atStart => exact ⟨bg, by omega, hb1, rfl, HF.out, by rw [Nat.sub_self, List.take_zero]; exact HG.out, HY.out⟩
  case round =>
    obtain ⟨k, hk1, hk2, rfl, F, G, yr⟩ := hrel
    have HFr := Lib.hid F
    have HGr := Lib.hid G
    have HYr := Lib.hid yr
    clear F G yr HF HG HY
    by_cases hlt : k < i
    · obtain ⟨g, off, rfl, hg, hc⟩ := (HR.out.on HYr.out).2.2.2 (by omega)
      have hcell := hc k _ (ncells_get h k (by omega))
      have hx2 := H01.out k
      have HST := begnum_step (h := h) bg k hk1 (by omega)
      have hvl := begnum_lt H01.out bg k (by omega)
      obtain ⟨x, hx⟩ : ∃ x, x = h.getD k 0 := ⟨_, rfl⟩
      obtain ⟨V, hV⟩ : ∃ V, V = num (1 :: (h.drop bg).take (k - bg)) := ⟨_, rfl⟩
      have hgr := HGr.out
      rw [← hx] at hcell hx2 HST
      rw [← hV] at HST hvl hgr
      have HST2 := Lib.hid HST
      have c3 := hgr.c3
      have f3 := hgr.f3
      have HG2 := Lib.hid hgr
      clear hc hx hV HST hgr
      obtain ⟨V2, hV2⟩ : ∃ V2, V2 = 2 * V + x := ⟨_, rfl⟩
      have HV2 := Lib.hid hV2
      have HV3 := Lib.hid (show 2 * (V : Int) + (x : Int) = ((V2 : Nat) : Int) by omega)
      clear hV2
      go_upto_region 6 with (fail)
      go_region
      all_goals try go_wp2_with fail
      rw [HV3.out]
      go_roundw
      case rel => exact ⟨k + 1, by omega, by omega, by go_num, HFr.out.far (p := ⟨w.heap.size + 1, 3, none⟩) (by simp) _, by rw [← HST2.out, ← HV2.out]; exact HG2.out.set3 _, belowD (HYr.out.setCell (p := ⟨w.heap.size + 1, 3, none⟩) (by simp) _)⟩
      case measure => simp [intOf] <;> omega
    · obtain rfl : k = i := by omega
      have hvl := begnum_lt H01.out bg k (by omega)
      have HGE := Lib.hid (show num (1 :: (h.drop bg).take (k - bg)) = mbeg h k by rw [HBG.out]; rfl)
      have hgr := HGr.out
      rw [HGE.out] at hgr hvl
      obtain ⟨V, hV⟩ : ∃ V, V = mbeg h k := ⟨_, rfl⟩
      have HV := Lib.hid hV
      rw [← hV] at hgr hvl
      have HGr := Lib.hid hgr
      clear hgr hV HGE
      have HGx := HGr
      have HFx := HFr
      have HYx := HYr
      clear HGr HFr HYr
      have g0 := HGx.out.c0
      have g1 := HGx.out.c1
      have g2 := HGx.out.c2
      have g3 := HGx.out.c3
      have f0 := HFx.out.f0
      have f1 := HFx.out.f1
      have f2 := HFx.out.f2
      have f3 := HFx.out.f3
      have e0 := HFx.out.c0
      have e1 := HFx.out.c1
      have e2 := HFx.out.c2
      have e3 := HFx.out.c3
      go_wp2
      have rr := (((HFx.out.set0 (.int .i64 0)).set1 (.int .i64 (0))).set2 (.int .i64 (0))).set3 (.int .i64 (V : Nat))
      have r0 := rr.c0
      have r1 := rr.c1
      have r2 := rr.c2
      have r3 := rr.c3
      refine bodyPost_ret (v := .agg #[.int .i64 0, .int .i64 (0), .int .i64 (0), .int .i64 (V : Nat)]) (by simp [results, Try.results25, go_sem, r0, r1, r2, r3]) rfl ⟨?_, ?_⟩
      · rw [HV.out]; rfl
      · exact (((HYx.out.setCell (p := ⟨w.heap.size, 0, none⟩) (by simp) _).setCell (p := ⟨w.heap.size, 1, none⟩) (by simp) _).setCell (p := ⟨w.heap.size, 2, none⟩) (by simp) _).setCell (p := ⟨w.heap.size, 3, none⟩) (by simp) _
set_option maxRecDepth 100000 in
set_option maxHeartbeats 3200000 in
theorem refctx_1 {A : Option Addr} {n c : Nat} {h : List Nat} {w : World} (hr : Rd w A n c (ncells h)) (h01 : Is01 h) (i : Nat) (hi : i ≤ h.length) (ii : Int) (hii : ii = (i : Nat)) :
    Calls Try.prog 25 #[.slice A n c, .int .i64 ii, .int .i64 1] w fun e w' => e = .returned (cval (ctx h i 1)) ∧ Below w.heap.size w w' := by
  subst hii
  have hn := hr.len
  rw [ncells_length] at hn
  have hcap := Reads.cap hr
  have hcm := Reads.capMax hr
  unfold maxLen at hcm
  obtain ⟨bg, hbg⟩ : ∃ bg, bg = cbeg i := ⟨_, rfl⟩
  have hb1 : bg ≤ i := by rw [hbg]; unfold cbeg; omega
  have hb2 : i - bg ≤ 7 := by rw [hbg]; unfold cbeg; omega
  have HBE := Lib.hid (show (i : Int) - (i : Int) % 8 = ((bg : Nat) : Int) by rw [hbg]; unfold cbeg; omega)
  have HBG := Lib.hid hbg
  have HR := Lib.hid hr
  have H01 := Lib.hid h01
  have F0 := Four.new w 52 (.int .i64 0) (.int .i64 0) (.int .i64 0) (.int .i64 0)
  have F1 := F0.alloc (.cells #[.int .i64 1, .int .i64 0, .int .i64 0, .int .i64 1] 52)
  have G1 := Four.new1 w (.cells #[.int .i64 0, .int .i64 0, .int .i64 0, .int .i64 0] 52) 52 (.int .i64 1) (.int .i64 0) (.int .i64 0) (.int .i64 1)
  have y1 := ((Below.refl w.heap.size w).alloc (Nat.le_refl _) (.cells #[.int .i64 0, .int .i64 0, .int .i64 0, .int .i64 0] 52)).alloc (by simp) (.cells #[.int .i64 1, .int .i64 0, .int .i64 0, .int .i64 1] 52)
  clear hbg hr h01
  go_enter Try.func25, Try.ntmps25
  go_upto_region 2 with (fail)
  rw [HBE.out]
  go_upto_region 4 with (fail)
  generalize ((w.alloc (.cells #[.int .i64 0, .int .i64 0, .int .i64 0, .int .i64 0] 52)).alloc (.cells #[.int .i64 1, .int .i64 0, .int .i64 0, .int .i64 1] 52)) = w1 at F1 G1 y1 ⊢
  have HF := Lib.hid F1
  have HG := Lib.hid G1
  have HY := Lib.hid y1
  clear F1 G1 y1 F0
  go_loopw [9] (fun kv wr => ∃ k : Nat, bg ≤ k ∧ k ≤ i ∧ kv = .int .i64 (k : Nat) ∧ Four wr w.heap.size 52 (.int .i64 0) (.int .i64 0) (.int .i64 0) (.int .i64 0) ∧ Four wr (w.heap.size + 1) 52 (.int .i64 1) (.int .i64 0) (.int .i64 0) (.int .i64 (num (1 :: (h.drop bg).take (k - bg)) : Nat)) ∧ Below w.heap.size w wr) (fun kv _ => i - (intOf kv).toNat)
  case atStart => exact ⟨bg, by omega, hb1, rfl, HF.out, by rw [Nat.sub_self, List.take_zero]; exact HG.out, HY.out⟩
  case round =>
    obtain ⟨k, hk1, hk2, rfl, F, G, yr⟩ := hrel
    have HFr := Lib.hid F
    have HGr := Lib.hid G
    have HYr := Lib.hid yr
    clear F G yr HF HG HY
    by_cases hlt : k < i
    · obtain ⟨g, off, rfl, hg, hc⟩ := (HR.out.on HYr.out).2.2.2 (by omega)
      have hcell := hc k _ (ncells_get h k (by omega))
      have hx2 := H01.out k
      have HST := begnum_step (h := h) bg k hk1 (by omega)
      have hvl := begnum_lt H01.out bg k (by omega)
      obtain ⟨x, hx⟩ : ∃ x, x = h.getD k 0 := ⟨_, rfl⟩
      obtain ⟨V, hV⟩ : ∃ V, V = num (1 :: (h.drop bg).take (k - bg)) := ⟨_, rfl⟩
      have hgr := HGr.out
      rw [← hx] at hcell hx2 HST
      rw [← hV] at HST hvl hgr
      have HST2 := Lib.hid HST
      have c3 := hgr.c3
      have f3 := hgr.f3
      have HG2 := Lib.hid hgr
      clear hc hx hV HST hgr
      obtain ⟨V2, hV2⟩ : ∃ V2, V2 = 2 * V + x := ⟨_, rfl⟩
      have HV2 := Lib.hid hV2
      have HV3 := Lib.hid (show 2 * (V : Int) + (x : Int) = ((V2 : Nat) : Int) by omega)
      clear hV2
      go_upto_region 6 with (fail)
      go_region
      all_goals try go_wp2_with fail
      rw [HV3.out]
      go_roundw
      case rel => exact ⟨k + 1, by omega, by omega, by go_num, HFr.out.far (p := ⟨w.heap.size + 1, 3, none⟩) (by simp) _, by rw [← HST2.out, ← HV2.out]; exact HG2.out.set3 _, belowD (HYr.out.setCell (p := ⟨w.heap.size + 1, 3, none⟩) (by simp) _)⟩
      case measure => simp [intOf] <;> omega
    · obtain rfl : k = i := by omega
      have hvl := begnum_lt H01.out bg k (by omega)
      have HGE := Lib.hid (show num (1 :: (h.drop bg).take (k - bg)) = mbeg h k by rw [HBG.out]; rfl)
      have hgr := HGr.out
      rw [HGE.out] at hgr hvl
      obtain ⟨V, hV⟩ : ∃ V, V = mbeg h k := ⟨_, rfl⟩
      have HV := Lib.hid hV
      rw [← hV] at hgr hvl
      have HGr := Lib.hid hgr
      clear hgr hV HGE
      obtain ⟨i0, hi0, hz0, hz1, hz2⟩ := info_parts int_info
      rcases (by omega : bg < 8 ∨ (8 ≤ bg ∧ bg < 16) ∨ 16 ≤ bg) with hbg | ⟨hbg, hbg2⟩ | hbg
      · have hml : mlast h k = 0 := by unfold mlast; rw [← HBG.out, if_neg (by omega)]
        have hmb : mbefore h k = 0 := by unfold mbefore; rw [← HBG.out, if_neg (by omega)]
        have HZ := Lib.hid hml
        clear hml hmb
        have HGx := HGr
        have HFx := HFr
        have HYx := HYr
        have g0 := HGx.out.c0
        have g1 := HGx.out.c1
        have g2 := HGx.out.c2
        have g3 := HGx.out.c3
        have f0 := HFx.out.f0
        have f1 := HFx.out.f1
        have f2 := HFx.out.f2
        have f3 := HFx.out.f3
        have e0 := HFx.out.c0
        have e1 := HFx.out.c1
        have e2 := HFx.out.c2
        have e3 := HFx.out.c3
        go_wp2
        have rr := (((HFx.out.set0 (.int .i64 1)).set1 (.int .i64 (0))).set2 (.int .i64 (0))).set3 (.int .i64 (V : Nat))
        have r0 := rr.c0
        have r1 := rr.c1
        have r2 := rr.c2
        have r3 := rr.c3
        refine bodyPost_ret (v := .agg #[.int .i64 1, .int .i64 (0), .int .i64 (0), .int .i64 (V : Nat)]) (by simp [results, Try.results25, go_sem, r0, r1, r2, r3]) rfl ⟨?_, ?_⟩
        · rw [HV.out]; unfold cval ctx; rw [if_pos (by decide), if_neg (by decide), HZ.out]; rfl
        · exact (((HYx.out.setCell (p := ⟨w.heap.size, 0, none⟩) (by simp) _).setCell (p := ⟨w.heap.size, 1, none⟩) (by simp) _).setCell (p := ⟨w.heap.size, 2, none⟩) (by simp) _).setCell (p := ⟨w.heap.size, 3, none⟩) (by simp) _
      · obtain ⟨fl, hfl⟩ : ∃ fl, fl = bg - 8 := ⟨_, rfl⟩
        obtain ⟨fh, hfh⟩ : ∃ fh, fh = bg - 0 := ⟨_, rfl⟩
        have ia : (bg : Int) - 8 = ((fl : Nat) : Int) := by omega
        have ib : (bg : Int) = ((fh : Nat) : Int) := by omega
        have hfhl : fh - fl = 8 := by omega
        obtain ⟨A8, hrun, hrd⟩ := Rd.cut (P := Try.prog) 22 3 i0 Try.underlying22 hi0 hz1 (HR.out.on HYr.out) fl fh (by omega) (by omega)
        rw [hfhl] at hrun hrd
        rw [← ia, ← ib] at hrun
        obtain ⟨l8, hl8⟩ : ∃ l8, l8 = (h.drop fl).take 8 := ⟨_, rfl⟩
        have h8 : Is01 l8 := by rw [hl8]; exact (H01.out.drop fl).take 8
        have hl8n : l8.length ≤ 61 := by rw [hl8, List.length_take]; omega
        rw [← hl8] at hrd
        obtain ⟨M, hM⟩ : ∃ M, M = num l8 := ⟨_, rfl⟩
        have hML : M < 256 := by
          have a := num_lt h8
          have b : 2 ^ l8.length ≤ 2 ^ 8 := Nat.pow_le_pow_right (by decide) (by rw [hl8, List.length_take]; omega)
          omega
        have HNUM := Lib.hid (show Calls Try.prog 28 #[.slice A8 8 (c - fl)] _ _ from numref_any hrd h8 hl8n)
        rw [← hM] at HNUM
        have q1 := Lib.hid (show M % 32 = mlast h k by
          unfold mlast
          rw [← HBG.out, if_pos (by omega), hM, hl8, hfl])
        have HFL := Lib.hid (And.intro hfl hfh)
        clear ia ib hfl hfh hrd hl8 h8 hM hfhl hl8n
        have g1 := HGr.out.c1
        have j1 := HGr.out.f1
        go_wp2_with fail
        refine HNUM.out.mono ?_
        rintro e w9 ⟨rfl, rfl⟩
        go_upto_region 9 with (fail)
        have Fq1 := HFr.out.far (p := ⟨w.heap.size + 1, 1, none⟩) (by simp) (.int .i64 ((M : Int) % 32))
        have Gq1 := HGr.out.set1 (.int .i64 ((M : Int) % 32))
        have Yq1 := HYr.out.setCell (p := ⟨w.heap.size + 1, 1, none⟩) (by simp) (.int .i64 ((M : Int) % 32))
        generalize wr.setCell ⟨w.heap.size + 1, 1, none⟩ (.int .i64 ((M : Int) % 32)) = wr at Fq1 Gq1 Yq1 ⊢
        have q1I := Lib.hid (show (M : Int) % 32 = ((mlast h k : Nat) : Int) by rw [← q1.out]; omega)
        rw [q1I.out] at Gq1
        obtain ⟨m1, hm1⟩ : ∃ m, m = mlast h k := ⟨_, rfl⟩
        rw [← hm1] at Gq1
        have HM1 := Lib.hid hm1
        have HFq1 := Lib.hid Fq1
        have HGq1 := Lib.hid Gq1
        have HYq1 := Lib.hid Yq1
        clear Fq1 Gq1 Yq1 hm1 g1 j1 hrun HNUM
        have HGx := HGq1
        have HFx := HFq1
        have HYx := HYq1
        have g0 := HGx.out.c0
        have g1 := HGx.out.c1
        have g2 := HGx.out.c2
        have g3 := HGx.out.c3
        have f0 := HFx.out.f0
        have f1 := HFx.out.f1
        have f2 := HFx.out.f2
        have f3 := HFx.out.f3
        have e0 := HFx.out.c0
        have e1 := HFx.out.c1
        have e2 := HFx.out.c2
        have e3 := HFx.out.c3
        go_wp2
        have rr := (((HFx.out.set0 (.int .i64 1)).set1 (.int .i64 ((m1 : Nat)))).set2 (.int .i64 (0))).set3 (.int .i64 (V : Nat))
        have r0 := rr.c0
        have r1 := rr.c1
        have r2 := rr.c2
        have r3 := rr.c3
        refine bodyPost_ret (v := .agg #[.int .i64 1, .int .i64 ((m1 : Nat)), .int .i64 (0), .int .i64 (V : Nat)]) (by simp [results, Try.results25, go_sem, r0, r1, r2, r3]) rfl ⟨?_, ?_⟩
        · rw [HV.out, HM1.out]; rfl
        · exact (((HYx.out.setCell (p := ⟨w.heap.size, 0, none⟩) (by simp) _).setCell (p := ⟨w.heap.size, 1, none⟩) (by simp) _).setCell (p := ⟨w.heap.size, 2, none⟩) (by simp) _).setCell (p := ⟨w.heap.size, 3, none⟩) (by simp) _
      · obtain ⟨fl, hfl⟩ : ∃ fl, fl = bg - 8 := ⟨_, rfl⟩
        obtain ⟨fh, hfh⟩ : ∃ fh, fh = bg - 0 := ⟨_, rfl⟩
        have ia : (bg : Int) - 8 = ((fl : Nat) : Int) := by omega
        have ib : (bg : Int) = ((fh : Nat) : Int) := by omega
        have hfhl : fh - fl = 8 := by omega
        obtain ⟨A8, hrun, hrd⟩ := Rd.cut (P := Try.prog) 22 3 i0 Try.underlying22 hi0 hz1 (HR.out.on HYr.out) fl fh (by omega) (by omega)
        rw [hfhl] at hrun hrd
        rw [← ia, ← ib] at hrun
        obtain ⟨l8, hl8⟩ : ∃ l8, l8 = (h.drop fl).take 8 := ⟨_, rfl⟩
        have h8 : Is01 l8 := by rw [hl8]; exact (H01.out.drop fl).take 8
        have hl8n : l8.length ≤ 61 := by rw [hl8, List.length_take]; omega
        rw [← hl8] at hrd
        obtain ⟨M, hM⟩ : ∃ M, M = num l8 := ⟨_, rfl⟩
        have hML : M < 256 := by
          have a := num_lt h8
          have b : 2 ^ l8.length ≤ 2 ^ 8 := Nat.pow_le_pow_right (by decide) (by rw [hl8, List.length_take]; omega)
          omega
        have HNUM := Lib.hid (show Calls Try.prog 28 #[.slice A8 8 (c - fl)] _ _ from numref_any hrd h8 hl8n)
        rw [← hM] at HNUM
        have q1 := Lib.hid (show M % 32 = mlast h k by
          unfold mlast
          rw [← HBG.out, if_pos (by omega), hM, hl8, hfl])
        have HFL := Lib.hid (And.intro hfl hfh)
        clear ia ib hfl hfh hrd hl8 h8 hM hfhl hl8n
        have g1 := HGr.out.c1
        have j1 := HGr.out.f1
        go_wp2_with fail
        refine HNUM.out.mono ?_
        rintro e w9 ⟨rfl, rfl⟩
        go_upto_region 9 with (fail)
        have Fq1 := HFr.out.far (p := ⟨w.heap.size + 1, 1, none⟩) (by simp) (.int .i64 ((M : Int) % 32))
        have Gq1 := HGr.out.set1 (.int .i64 ((M : Int) % 32))
        have Yq1 := HYr.out.setCell (p := ⟨w.heap.size + 1, 1, none⟩) (by simp) (.int .i64 ((M : Int) % 32))
        generalize wr.setCell ⟨w.heap.size + 1, 1, none⟩ (.int .i64 ((M : Int) % 32)) = wr at Fq1 Gq1 Yq1 ⊢
        have q1I := Lib.hid (show (M : Int) % 32 = ((mlast h k : Nat) : Int) by rw [← q1.out]; omega)
        rw [q1I.out] at Gq1
        obtain ⟨m1, hm1⟩ : ∃ m, m = mlast h k := ⟨_, rfl⟩
        rw [← hm1] at Gq1
        have HM1 := Lib.hid hm1
        have HFq1 := Lib.hid Fq1
        have HGq1 := Lib.hid Gq1
        have HYq1 := Lib.hid Yq1
        clear Fq1 Gq1 Yq1 hm1 g1 j1 hrun HNUM
        have HGx := HGq1
        have HFx := HFq1
        have HYx := HYq1
        have g0 := HGx.out.c0
        have g1 := HGx.out.c1
        have g2 := HGx.out.c2
        have g3 := HGx.out.c3
        have f0 := HFx.out.f0
        have f1 := HFx.out.f1
        have f2 := HFx.out.f2
        have f3 := HFx.out.f3
        have e0 := HFx.out.c0
        have e1 := HFx.out.c1
        have e2 := HFx.out.c2
        have e3 := HFx.out.c3
        go_wp2
        have rr := (((HFx.out.set0 (.int .i64 1)).set1 (.int .i64 ((m1 : Nat)))).set2 (.int .i64 (0))).set3 (.int .i64 (V : Nat))
        have r0 := rr.c0
        have r1 := rr.c1
        have r2 := rr.c2
        have r3 := rr.c3
        refine bodyPost_ret (v := .agg #[.int .i64 1, .int .i64 ((m1 : Nat)), .int .i64 (0), .int .i64 (V : Nat)]) (by simp [results, Try.results25, go_sem, r0, r1, r2, r3]) rfl ⟨?_, ?_⟩
        · rw [HV.out, HM1.out]; rfl
        · exact (((HYx.out.setCell (p := ⟨w.heap.size, 0, none⟩) (by simp) _).setCell (p := ⟨w.heap.size, 1, none⟩) (by simp) _).setCell (p := ⟨w.heap.size, 2, none⟩) (by simp) _).setCell (p := ⟨w.heap.size, 3, none⟩) (by simp) _
set_option maxRecDepth 100000 in
set_option maxHeartbeats 3200000 in
theorem refctx_2 {A : Option Addr} {n c : Nat} {h : List Nat} {w : World} (hr : Rd w A n c (ncells h)) (h01 : Is01 h) (i : Nat) (hi : i ≤ h.length) (ii : Int) (hii : ii = (i : Nat)) :
    Calls Try.prog 25 #[.slice A n c, .int .i64 ii, .int .i64 2] w fun e w' => e = .returned (cval (ctx h i 2)) ∧ Below w.heap.size w w' := by
  subst hii
  have hn := hr.len
  rw [ncells_length] at hn
  have hcap := Reads.cap hr
  have hcm := Reads.capMax hr
  unfold maxLen at hcm
  obtain ⟨bg, hbg⟩ : ∃ bg, bg = cbeg i := ⟨_, rfl⟩
  have hb1 : bg ≤ i := by rw [hbg]; unfold cbeg; omega
  have hb2 : i - bg ≤ 7 := by rw [hbg]; unfold cbeg; omega
  have HBE := Lib.hid (show (i : Int) - (i : Int) % 8 = ((bg : Nat) : Int) by rw [hbg]; unfold cbeg; omega)
  have HBG := Lib.hid hbg
  have HR := Lib.hid hr
  have H01 := Lib.hid h01
  have F0 := Four.new w 52 (.int .i64 0) (.int .i64 0) (.int .i64 0) (.int .i64 0)
  have F1 := F0.alloc (.cells #[.int .i64 2, .int .i64 0, .int .i64 0, .int .i64 1] 52)
  have G1 := Four.new1 w (.cells #[.int .i64 0, .int .i64 0, .int .i64 0, .int .i64 0] 52) 52 (.int .i64 2) (.int .i64 0) (.int .i64 0) (.int .i64 1)
  have y1 := ((Below.refl w.heap.size w).alloc (Nat.le_refl _) (.cells #[.int .i64 0, .int .i64 0, .int .i64 0, .int .i64 0] 52)).alloc (by simp) (.cells #[.int .i64 2, .int .i64 0, .int .i64 0, .int .i64 1] 52)
  clear hbg hr h01
  go_enter Try.func25, Try.ntmps25
  go_upto_region 2 with (fail)
  rw [HBE.out]
  go_upto_region 4 with (fail)
  generalize ((w.alloc (.cells #[.int .i64 0, .int .i64 0, .int .i64 0, .int .i64 0] 52)).alloc (.cells #[.int .i64 2, .int .i64 0, .int .i64 0, .int .i64 1] 52)) = w1 at F1 G1 y1 ⊢
  have HF := Lib.hid F1
  have HG := Lib.hid G1
  have HY := Lib.hid y1
  clear F1 G1 y1 F0
  go_loopw [9] (fun kv wr => ∃ k : Nat, bg ≤ k ∧ k ≤ i ∧ kv = .int .i64 (k : Nat) ∧ Four wr w.heap.size 52 (.int .i64 0) (.int .i64 0) (.int .i64 0) (.int .i64 0) ∧ Four wr (w.heap.size + 1) 52 (.int .i64 2) (.int .i64 0) (.int .i64 0) (.int .i64 (num (1 :: (h.drop bg).take (k - bg)) : Nat)) ∧ Below w.heap.size w wr) (fun kv _ => i - (intOf kv).toNat)
  case atStart => exact ⟨bg, by omega, hb1, rfl, HF.out, by rw [Nat.sub_self, List.take_zero]; exact HG.out, HY.out⟩
  case round =>
    obtain ⟨k, hk1, hk2, rfl, F, G, yr⟩ := hrel
    have HFr := Lib.hid F
    have HGr := Lib.hid G
    have HYr := Lib.hid yr
    clear F G yr HF HG HY
    by_cases hlt : k < i
    · obtain ⟨g, off, rfl, hg, hc⟩ := (HR.out.on HYr.out).2.2.2 (by omega)
      have hcell := hc k _ (ncells_get h k (by omega))
      have hx2 := H01.out k
      have HST := begnum_step (h := h) bg k hk1 (by omega)
      have hvl := begnum_lt H01.out bg k (by omega)
      obtain ⟨x, hx⟩ : ∃ x, x = h.getD k 0 := ⟨_, rfl⟩
      obtain ⟨V, hV⟩ : ∃ V, V = num (1 :: (h.drop bg).take (k - bg)) := ⟨_, rfl⟩
      have hgr := HGr.out
      rw [← hx] at hcell hx2 HST
      rw [← hV] at HST hvl hgr
      have HST2 := Lib.hid HST
      have c3 := hgr.c3
      have f3 := hgr.f3
      have HG2 := Lib.hid hgr
      clear hc hx hV HST hgr
      obtain ⟨V2, hV2⟩ : ∃ V2, V2 = 2 * V + x := ⟨_, rfl⟩
      have HV2 := Lib.hid hV2
      have HV3 := Lib.hid (show 2 * (V : Int) + (x : Int) = ((V2 : Nat) : Int) by omega)
      clear hV2
      go_upto_region 6 with (fail)
      go_region
      all_goals try go_wp2_with fail
      rw [HV3.out]
      go_roundw
      case rel => exact ⟨k + 1, by omega, by omega, by go_num, HFr.out.far (p := ⟨w.heap.size + 1, 3, none⟩) (by simp) _, by rw [← HST2.out, ← HV2.out]; exact HG2.out.set3 _, belowD (HYr.out.setCell (p := ⟨w.heap.size + 1, 3, none⟩) (by simp) _)⟩
      case measure => simp [intOf] <;> omega
    · obtain rfl : k = i := by omega
      have hvl := begnum_lt H01.out bg k (by omega)
      have HGE := Lib.hid (show num (1 :: (h.drop bg).take (k - bg)) = mbeg h k by rw [HBG.out]; rfl)
      have hgr := HGr.out
      rw [HGE.out] at hgr hvl
      obtain ⟨V, hV⟩ : ∃ V, V = mbeg h k := ⟨_, rfl⟩
      have HV := Lib.hid hV
      rw [← hV] at hgr hvl
      have HGr := Lib.hid hgr
      clear hgr hV HGE
      obtain ⟨i0, hi0, hz0, hz1, hz2⟩ := info_parts int_info
      rcases (by omega : bg < 8 ∨ (8 ≤ bg ∧ bg < 16) ∨ 16 ≤ bg) with hbg | ⟨hbg, hbg2⟩ | hbg
      · have hml : mlast h k = 0 := by unfold mlast; rw [← HBG.out, if_neg (by omega)]
        have hmb : mbefore h k = 0 := by unfold mbefore; rw [← HBG.out, if_neg (by omega)]
        have HZ := Lib.hid hml
        have HZ2 := Lib.hid hmb
        clear hml hmb
        have HGx := HGr
        have HFx := HFr
        have HYx := HYr
        have g0 := HGx.out.c0
        have g1 := HGx.out.c1
        have g2 := HGx.out.c2
        have g3 := HGx.out.c3
        have f0 := HFx.out.f0
        have f1 := HFx.out.f1
        have f2 := HFx.out.f2
        have f3 := HFx.out.f3
        have e0 := HFx.out.c0
        have e1 := HFx.out.c1
        have e2 := HFx.out.c2
        have e3 := HFx.out.c3
        go_wp2
        have rr := (((HFx.out.set0 (.int .i64 2)).set1 (.int .i64 (0))).set2 (.int .i64 (0))).set3 (.int .i64 (V : Nat))
        have r0 := rr.c0
        have r1 := rr.c1
        have r2 := rr.c2
        have r3 := rr.c3
        refine bodyPost_ret (v := .agg #[.int .i64 2, .int .i64 (0), .int .i64 (0), .int .i64 (V : Nat)]) (by simp [results, Try.results25, go_sem, r0, r1, r2, r3]) rfl ⟨?_, ?_⟩
        · rw [HV.out]; unfold cval ctx; rw [if_pos (by decide), if_pos (by decide), HZ.out, HZ2.out]; rfl
        · exact (((HYx.out.setCell (p := ⟨w.heap.size, 0, none⟩) (by simp) _).setCell (p := ⟨w.heap.size, 1, none⟩) (by simp) _).setCell (p := ⟨w.heap.size, 2, none⟩) (by simp) _).setCell (p := ⟨w.heap.size, 3, none⟩) (by simp) _
      · have hmb : mbefore h k = 0 := by unfold mbefore; rw [← HBG.out, if_neg (by omega)]
        have HZ := Lib.hid hmb
        clear hmb
        obtain ⟨fl, hfl⟩ : ∃ fl, fl = bg - 8 := ⟨_, rfl⟩
        obtain ⟨fh, hfh⟩ : ∃ fh, fh = bg - 0 := ⟨_, rfl⟩
        have ia : (bg : Int) - 8 = ((fl : Nat) : Int) := by omega
        have ib : (bg : Int) = ((fh : Nat) : Int) := by omega
        have hfhl : fh - fl = 8 := by omega
        obtain ⟨A8, hrun, hrd⟩ := Rd.cut (P := Try.prog) 22 3 i0 Try.underlying22 hi0 hz1 (HR.out.on HYr.out) fl fh (by omega) (by omega)
        rw [hfhl] at hrun hrd
        rw [← ia, ← ib] at hrun
        obtain ⟨l8, hl8⟩ : ∃ l8, l8 = (h.drop fl).take 8 := ⟨_, rfl⟩
        have h8 : Is01 l8 := by rw [hl8]; exact (H01.out.drop fl).take 8
        have hl8n : l8.length ≤ 61 := by rw [hl8, List.length_take]; omega
        rw [← hl8] at hrd
        obtain ⟨M, hM⟩ : ∃ M, M = num l8 := ⟨_, rfl⟩
        have hML : M < 256 := by
          have a := num_lt h8
          have b : 2 ^ l8.length ≤ 2 ^ 8 := Nat.pow_le_pow_right (by decide) (by rw [hl8, List.length_take]; omega)
          omega
        have HNUM := Lib.hid (show Calls Try.prog 28 #[.slice A8 8 (c - fl)] _ _ from numref_any hrd h8 hl8n)
        rw [← hM] at HNUM
        have q1 := Lib.hid (show M % 32 = mlast h k by
          unfold mlast
          rw [← HBG.out, if_pos (by omega), hM, hl8, hfl])
        have HFL := Lib.hid (And.intro hfl hfh)
        clear ia ib hfl hfh hrd hl8 h8 hM hfhl hl8n
        have g1 := HGr.out.c1
        have j1 := HGr.out.f1
        go_wp2_with fail
        refine HNUM.out.mono ?_
        rintro e w9 ⟨rfl, rfl⟩
        go_upto_region 9 with (fail)
        have Fq1 := HFr.out.far (p := ⟨w.heap.size + 1, 1, none⟩) (by simp) (.int .i64 ((M : Int) % 32))
        have Gq1 := HGr.out.set1 (.int .i64 ((M : Int) % 32))
        have Yq1 := HYr.out.setCell (p := ⟨w.heap.size + 1, 1, none⟩) (by simp) (.int .i64 ((M : Int) % 32))
        generalize wr.setCell ⟨w.heap.size + 1, 1, none⟩ (.int .i64 ((M : Int) % 32)) = wr at Fq1 Gq1 Yq1 ⊢
        have q1I := Lib.hid (show (M : Int) % 32 = ((mlast h k : Nat) : Int) by rw [← q1.out]; omega)
        rw [q1I.out] at Gq1
        obtain ⟨m1, hm1⟩ : ∃ m, m = mlast h k := ⟨_, rfl⟩
        rw [← hm1] at Gq1
        have HM1 := Lib.hid hm1
        have HFq1 := Lib.hid Fq1
        have HGq1 := Lib.hid Gq1
        have HYq1 := Lib.hid Yq1
        clear Fq1 Gq1 Yq1 hm1 g1 j1 hrun HNUM
        have HGx := HGq1
        have HFx := HFq1
        have HYx := HYq1
        have g0 := HGx.out.c0
        have g1 := HGx.out.c1
        have g2 := HGx.out.c2
        have g3 := HGx.out.c3
        have f0 := HFx.out.f0
        have f1 := HFx.out.f1
        have f2 := HFx.out.f2
        have f3 := HFx.out.f3
        have e0 := HFx.out.c0
        have e1 := HFx.out.c1
        have e2 := HFx.out.c2
        have e3 := HFx.out.c3
        go_wp2
        have rr := (((HFx.out.set0 (.int .i64 2)).set1 (.int .i64 ((m1 : Nat)))).set2 (.int .i64 (0))).set3 (.int .i64 (V : Nat))
        have r0 := rr.c0
        have r1 := rr.c1
        have r2 := rr.c2
        have r3 := rr.c3
        refine bodyPost_ret (v := .agg #[.int .i64 2, .int .i64 ((m1 : Nat)), .int .i64 (0), .int .i64 (V : Nat)]) (by simp [results, Try.results25, go_sem, r0, r1, r2, r3]) rfl ⟨?_, ?_⟩
        · rw [HV.out, HM1.out]; unfold cval ctx; rw [if_pos (by decide), if_pos (by decide), HZ.out]; rfl
        · exact (((HYx.out.setCell (p := ⟨w.heap.size, 0, none⟩) (by simp) _).setCell (p := ⟨w.heap.size, 1, none⟩) (by simp) _).setCell (p := ⟨w.heap.size, 2, none⟩) (by simp) _).setCell (p := ⟨w.heap.size, 3, none⟩) (by simp) _
      · obtain ⟨fl, hfl⟩ : ∃ fl, fl = bg - 8 := ⟨_, rfl⟩
        obtain ⟨fh, hfh⟩ : ∃ fh, fh = bg - 0 := ⟨_, rfl⟩
        have ia : (bg : Int) - 8 = ((fl : Nat) : Int) := by omega
        have ib : (bg : Int) = ((fh : Nat) : Int) := by omega
        have hfhl : fh - fl = 8 := by omega
        obtain ⟨A8, hrun, hrd⟩ := Rd.cut (P := Try.prog) 22 3 i0 Try.underlying22 hi0 hz1 (HR.out.on HYr.out) fl fh (by omega) (by omega)
        rw [hfhl] at hrun hrd
        rw [← ia, ← ib] at hrun
        obtain ⟨l8, hl8⟩ : ∃ l8, l8 = (h.drop fl).take 8 := ⟨_, rfl⟩
        have h8 : Is01 l8 := by rw [hl8]; exact (H01.out.drop fl).take 8
        have hl8n : l8.length ≤ 61 := by rw [hl8, List.length_take]; omega
        rw [← hl8] at hrd
        obtain ⟨M, hM⟩ : ∃ M, M = num l8 := ⟨_, rfl⟩
        have hML : M < 256 := by
          have a := num_lt h8
          have b : 2 ^ l8.length ≤ 2 ^ 8 := Nat.pow_le_pow_right (by decide) (by rw [hl8, List.length_take]; omega)
          omega
        have HNUM := Lib.hid (show Calls Try.prog 28 #[.slice A8 8 (c - fl)] _ _ from numref_any hrd h8 hl8n)
        rw [← hM] at HNUM
        have q1 := Lib.hid (show M % 32 = mlast h k by
          unfold mlast
          rw [← HBG.out, if_pos (by omega), hM, hl8, hfl])
        have HFL := Lib.hid (And.intro hfl hfh)
        clear ia ib hfl hfh hrd hl8 h8 hM hfhl hl8n
        have g1 := HGr.out.c1
        have j1 := HGr.out.f1
        go_wp2_with fail
        refine HNUM.out.mono ?_
        rintro e w9 ⟨rfl, rfl⟩
        go_upto_region 9 with (fail)
        have Fq1 := HFr.out.far (p := ⟨w.heap.size + 1, 1, none⟩) (by simp) (.int .i64 ((M : Int) % 32))
        have Gq1 := HGr.out.set1 (.int .i64 ((M : Int) % 32))
        have Yq1 := HYr.out.setCell (p := ⟨w.heap.size + 1, 1, none⟩) (by simp) (.int .i64 ((M : Int) % 32))
        generalize wr.setCell ⟨w.heap.size + 1, 1, none⟩ (.int .i64 ((M : Int) % 32)) = wr at Fq1 Gq1 Yq1 ⊢
        have q1I := Lib.hid (show (M : Int) % 32 = ((mlast h k : Nat) : Int) by rw [← q1.out]; omega)
        rw [q1I.out] at Gq1
        obtain ⟨m1, hm1⟩ : ∃ m, m = mlast h k := ⟨_, rfl⟩
        rw [← hm1] at Gq1
        have HM1 := Lib.hid hm1
        have HFq1 := Lib.hid Fq1
        have HGq1 := Lib.hid Gq1
        have HYq1 := Lib.hid Yq1
        clear Fq1 Gq1 Yq1 hm1 g1 j1 hrun HNUM
        obtain ⟨fl, hfl⟩ : ∃ fl, fl = bg - 16 := ⟨_, rfl⟩
        obtain ⟨fh, hfh⟩ : ∃ fh, fh = bg - 8 := ⟨_, rfl⟩
        have ia : (bg : Int) - 16 = ((fl : Nat) : Int) := by omega
        have ib : ((bg : Int) - 8) = ((fh : Nat) : Int) := by omega
        have hfhl : fh - fl = 8 := by omega
        obtain ⟨A8, hrun, hrd⟩ := Rd.cut (P := Try.prog) 22 3 i0 Try.underlying22 hi0 hz1 (HR.out.on HYq1.out) fl fh (by omega) (by omega)
        rw [hfhl] at hrun hrd
        rw [← ia, ← ib] at hrun
        obtain ⟨l8, hl8⟩ : ∃ l8, l8 = (h.drop fl).take 8 := ⟨_, rfl⟩
        have h8 : Is01 l8 := by rw [hl8]; exact (H01.out.drop fl).take 8
        have hl8n : l8.length ≤ 61 := by rw [hl8, List.length_take]; omega
        rw [← hl8] at hrd
        obtain ⟨M, hM⟩ : ∃ M, M = num l8 := ⟨_, rfl⟩
        have hML : M < 256 := by
          have a := num_lt h8
          have b : 2 ^ l8.length ≤ 2 ^ 8 := Nat.pow_le_pow_right (by decide) (by rw [hl8, List.length_take]; omega)
          omega
        have HNUM := Lib.hid (show Calls Try.prog 28 #[.slice A8 8 (c - fl)] _ _ from numref_any hrd h8 hl8n)
        rw [← hM] at HNUM
        have q2 := Lib.hid (show M % 32 = mbefore h k by
          unfold mbefore
          rw [← HBG.out, if_pos (by omega), hM, hl8, hfl])
        have HFL := Lib.hid (And.intro hfl hfh)
        clear ia ib hfl hfh hrd hl8 h8 hM hfhl hl8n
        have g2 := HGq1.out.c2
        have j2 := HGq1.out.f2
        go_wp2_with fail
        refine HNUM.out.mono ?_
        rintro e w9 ⟨rfl, rfl⟩
        go_upto_region 11 with (fail)
        have Fq2 := HFq1.out.far (p := ⟨w.heap.size + 1, 2, none⟩) (by simp) (.int .i64 ((M : Int) % 32))
        have Gq2 := HGq1.out.set2 (.int .i64 ((M : Int) % 32))
        have Yq2 := HYq1.out.setCell (p := ⟨w.heap.size + 1, 2, none⟩) (by simp) (.int .i64 ((M : Int) % 32))
        generalize wr.setCell ⟨w.heap.size + 1, 2, none⟩ (.int .i64 ((M : Int) % 32)) = wr at Fq2 Gq2 Yq2 ⊢
        have q2I := Lib.hid (show (M : Int) % 32 = ((mbefore h k : Nat) : Int) by rw [← q2.out]; omega)
        rw [q2I.out] at Gq2
        obtain ⟨m2, hm2⟩ : ∃ m, m = mbefore h k := ⟨_, rfl⟩
        rw [← hm2] at Gq2
        have HM2 := Lib.hid hm2
        have HFq2 := Lib.hid Fq2
        have HGq2 := Lib.hid Gq2
        have HYq2 := Lib.hid Yq2
        clear Fq2 Gq2 Yq2 hm2 g2 j2 hrun HNUM
        have HGx := HGq2
        have HFx := HFq2
        have HYx := HYq2
        have g0 := HGx.out.c0
        have g1 := HGx.out.c1
        have g2 := HGx.out.c2
        have g3 := HGx.out.c3
        have f0 := HFx.out.f0
        have f1 := HFx.out.f1
        have f2 := HFx.out.f2
        have f3 := HFx.out.f3
        have e0 := HFx.out.c0
        have e1 := HFx.out.c1
        have e2 := HFx.out.c2
        have e3 := HFx.out.c3
        go_wp2
        have rr := (((HFx.out.set0 (.int .i64 2)).set1 (.int .i64 ((m1 : Nat)))).set2 (.int .i64 ((m2 : Nat)))).set3 (.int .i64 (V : Nat))
        have r0 := rr.c0
        have r1 := rr.c1
        have r2 := rr.c2
        have r3 := rr.c3
        refine bodyPost_ret (v := .agg #[.int .i64 2, .int .i64 ((m1 : Nat)), .int .i64 ((m2 : Nat)), .int .i64 (V : Nat)]) (by simp [results, Try.results25, go_sem, r0, r1, r2, r3]) rfl ⟨?_, ?_⟩
        · rw [HV.out, HM1.out, HM2.out]; rfl
        · exact (((HYx.out.setCell (p := ⟨w.heap.size, 0, none⟩) (by simp) _).setCell (p := ⟨w.heap.size, 1, none⟩) (by simp) _).setCell (p := ⟨w.heap.size, 2, none⟩) (by simp) _).setCell (p := ⟨w.heap.size, 3, none⟩) (by simp) _
theorem refctx_any {A : Option Addr} {n c : Nat} {h : List Nat} {w : World} (hr : Rd w A n c (ncells h)) (h01 : Is01 h) (i o : Nat) (hi : i ≤ h.length) (ho : o ≤ 2) (ii oi : Int) (hii : ii = (i : Nat)) (hoi : oi = (o : Nat)) :
    Calls Try.prog 25 #[.slice A n c, .int .i64 ii, .int .i64 oi] w fun e w' => e = .returned (cval (ctx h i o)) ∧ Below w.heap.size w w' := by
  subst hoi
  rcases (by omega : o = 0 ∨ o = 1 ∨ o = 2) with rfl | rfl | rfl
  · exact refctx_0 hr h01 i hi ii hii
  · exact refctx_1 hr h01 i hi ii hii
  · exact refctx_2 hr h01 i hi ii hii
end PB
end Go.Proofs.Ytmkkbedbgkhbpaa
