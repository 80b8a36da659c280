/-
  The reference's Counts and Predicted.
-/
import Derived.Test.YtmkkbedbgkhbpaaMdRef
import Derived.Deep.QuietTactic
namespace Go.Proofs.Ytmkkbedbgkhbpaa
open Go.RowKit
attribute [local go_sem ↓] Go.wp_at_zero Go.wp_at_succ
set_option linter.unusedVariables false
set_option linter.unusedSimpArgs false
namespace PB
theorem ctx_small {h : List Nat} (h01 : Is01 h) (i o : Nat) (hi : i ≤ h.length) (ho : o ≤ 2) : CtxOk (ctx h i o) := by
  have a := mlast_lt h i
  have b := mbefore_lt h i
  have c := (mbeg_bound h01 i hi).2
  unfold CtxOk ctx
  dsimp only
  refine ⟨by omega, ?_, ?_, c⟩
  · split <;> omega
  · split <;> omega
theorem arr_row : (52 : TypeId) < Try.prog.types.size := of_decide_eq_true (by kernel_rfl)
theorem arr_law : Go.Maps.Keyed Try.prog 52 :=
  Go.Maps.Keyed.of_law (deep_law_laid laid_out (m := 2) (by omega) arr_row (by kernel_rfl) (by kernel_rfl))
theorem arr_cells : Try.prog.cellsOf 52 = 4 := by kernel_rfl
theorem arr_kt : Try.prog.keyType 52 = true := by kernel_rfl
theorem key4_any {c : Ctx} (h : CtxOk c) : ∃ l, keyOf Try.prog 52 (cval c) = some l := by
  obtain ⟨ha, hb, hc, hd⟩ := h
  have key : ∀ x : Nat, x < 256 → (Lit.int .i64 (x : Nat)).wf = true := by
    intro x hx
    exact WalkArith.wf_i64 (by omega)
  have k1 := key _ ha
  have k2 := key _ hb
  have k3 := key _ hc
  have k4 := key _ hd
  obtain ⟨m, hm⟩ : ∃ m, Try.prog.types.size = m + 1 := ⟨_, Try.types_size⟩
  unfold keyOf
  simp only [Try.underlying52]
  rw [if_pos (by simp [arr_kt, Value.formed, cval, Try.underlying52, arr_cells]), hm]
  unfold Program.keyLits
  simp only [Try.underlying52, cval, Value.cells, arr_cells, int_cells]
  rw [show List.range 4 = [0, 1, 2, 3] from rfl]
  simp [Program.keyLits, Try.underlying3, int_cells, k1, k2, k3, k4]
theorem ctx_guard (x y : Ctx) (W : World) (o1 o2 : Operand) : (eqGuard .neq 52 o1 o2 (cval x) (cval y)).run Try.prog W = .ok () W :=
  run_eqGuard_agg W .neq 52 o1 o2 _ _ (by kernel_rfl)
theorem ctx_neq {x y : Ctx} (hx : CtxOk x) (hy : CtxOk y) (W : World) (b : Bool) (hb : b = decide (x ≠ y)) : (binOp .neq 52 (cval x) (cval y)).run Try.prog W = .ok (.bool b) W := by
  obtain ⟨lx, hlx⟩ := key4_any hx
  obtain ⟨ly, hly⟩ := key4_any hy
  obtain ⟨r, hr, hrr⟩ := run_equal_deep (P := Try.prog) W (m := 2) (by omega) (k := 52) (by kernel_rfl) (by kernel_rfl) hlx hly
  have e : r = decide (x = y) := by
    by_cases h : x = y
    · subst h
      rw [hlx] at hly
      cases hly
      rw [hrr.2 rfl]
      simp
    · have : ¬ r = true := fun hh => h (cval_inj (arr_law.inj hlx ((hrr.1 hh) ▸ hly)))
      simp [h, this]
  rw [hb]
  simp only [cval] at hr ⊢
  simp [binOp, hr, e, go_sem]
set_option maxRecDepth 100000 in
set_option maxHeartbeats 3200000 in
theorem counts_any {A : Option Addr} {n c : Nat} {h : List Nat} {w : World} (hr : Rd w A n c (ncells h)) (h01 : Is01 h) (i o : Nat) (hi : i ≤ h.length) (hi2 : i ≤ 100000) (ho : o ≤ 2) (ii oi : Int) (hii : ii = (i : Nat)) (hoi : oi = (o : Nat)) :
    Calls Try.prog 21 #[.slice A n c, .int .i64 ii, .int .i64 oi] w fun e w' => e = .returned (.tuple #[.int .i64 ((hcnt h i o).1 : Nat), .int .i64 ((hcnt h i o).2 : Nat)]) ∧ Below w.heap.size w w' := by
  subst hii hoi
  have hn := hr.len
  rw [ncells_length] at hn
  have hcap := Reads.cap hr
  have hcm := Reads.capMax hr
  unfold maxLen at hcm
  have HR := Lib.hid hr
  have H01 := Lib.hid h01
  have HC0 := Lib.hid (refctx_any hr h01 i o hi ho _ _ rfl rfl)
  obtain ⟨X, hX⟩ : ∃ X, X = ctx h i o := ⟨_, rfl⟩
  have hXok : CtxOk X := by
    rw [hX]; exact ctx_small h01 i o hi ho
  rw [← hX] at HC0
  have HE := Lib.hid (show hcnt h i o = cnts h o X i by rw [hX]; rfl)
  have HXO := Lib.hid hXok
  obtain ⟨x1, x2, x3, x4⟩ := X
  rw [HE.out]
  clear hr h01 hX hXok
  go_enter Try.func21, Try.ntmps21
  go_wp2_with fail
  refine HC0.out.mono ?_
  rintro e w1 ⟨rfl, y1⟩
  have HY1 := Lib.hid y1
  clear y1
  unfold cval
  have G0 := Four.new w1 52 (.int .i64 (x1 : Nat)) (.int .i64 (x2 : Nat)) (.int .i64 (x3 : Nat)) (.int .i64 (x4 : Nat))
  have y2 := HY1.out.alloc HY1.out.size (.cells #[.int .i64 (x1 : Nat), .int .i64 (x2 : Nat), .int .i64 (x3 : Nat), .int .i64 (x4 : Nat)] 52)
  go_upto_region 4 with (fail)
  obtain ⟨hb, hhb⟩ : ∃ hb, hb = w1.heap.size := ⟨_, rfl⟩
  rw [← hhb] at G0 ⊢
  generalize w1.alloc (.cells #[.int .i64 (x1 : Nat), .int .i64 (x2 : Nat), .int .i64 (x3 : Nat), .int .i64 (x4 : Nat)] 52) = w2 at G0 y2 ⊢
  have HG0 := Lib.hid G0
  have HY2 := Lib.hid y2
  clear G0 y2 hhb HY1
  go_loopw [9, 10, 11] (fun zv ov kv wr => ∃ (k z p : Nat), k ≤ i ∧ kv = .int .i64 (k : Nat) ∧ zv = .int .i64 (z : Nat) ∧ ov = .int .i64 (p : Nat) ∧ cnts h o (x1, x2, x3, x4) k = (z, p) ∧ Four wr hb 52 (.int .i64 (x1 : Nat)) (.int .i64 (x2 : Nat)) (.int .i64 (x3 : Nat)) (.int .i64 (x4 : Nat)) ∧ Below w.heap.size w wr) (fun _ _ kv _ => i - (intOf kv).toNat)
  case atStart => exact ⟨0, 0, 0, Nat.zero_le _, rfl, rfl, rfl, rfl, HG0.out, HY2.out⟩
  case round =>
    obtain ⟨k, z, p, hk, rfl, rfl, rfl, hzp, G, yr⟩ := hrel
    have hle := cnts_le h o (x1, x2, x3, x4) k
    rw [hzp] at hle
    dsimp only at hle
    have HZP := Lib.hid hzp
    have HG := Lib.hid G
    have HY := Lib.hid yr
    have g0 := G.c0
    have g1 := G.c1
    have g2 := G.c2
    have g3 := G.c3
    clear hzp G yr HG0 HY2
    by_cases hlt : k < i
    · obtain ⟨Y, hY⟩ : ∃ Y, Y = ctx h k o := ⟨_, rfl⟩
      have hYok : CtxOk Y := by rw [hY]; exact ctx_small H01.out k o (by omega) ho
      have HCK := Lib.hid (fun W (hW : Rd W A n c (ncells h)) => refctx_any hW H01.out k o (by omega) ho _ _ rfl rfl)
      rw [← hY] at HCK
      obtain ⟨b, hb'⟩ : ∃ b, b = decide (Y ≠ (x1, x2, x3, x4)) := ⟨_, rfl⟩
      have hneq := fun W => ctx_neq hYok HXO.out W b hb'
      unfold cval at hneq
      have hneq' : ∀ W, (binOp .neq 52 (cval Y) (.agg #[.int .i64 (x1 : Nat), .int .i64 (x2 : Nat), .int .i64 (x3 : Nat), .int .i64 (x4 : Nat)])).run Try.prog W = .ok (.bool b) W := hneq
      have hgd : ∀ W o1 o2, (eqGuard .neq 52 o1 o2 (cval Y) (.agg #[.int .i64 (x1 : Nat), .int .i64 (x2 : Nat), .int .i64 (x3 : Nat), .int .i64 (x4 : Nat)])).run Try.prog W = .ok () W := fun W o1 o2 => ctx_guard Y (x1, x2, x3, x4) W o1 o2
      clear hneq
      have HYY := Lib.hid hY
      have HB := Lib.hid hb'
      clear hY hb' hYok
      have HRW := Lib.hid ((HR.out.on HY.out).drew)
      cases b
      · go_upto_region 6 with (fail)
        go_region_held3 (fun w' => w'.cell? ⟨hb, 0, none⟩ = some (.int .i64 (x1 : Nat)) ∧ w'.cell? ⟨hb, 1, none⟩ = some (.int .i64 (x2 : Nat)) ∧ w'.cell? ⟨hb, 2, none⟩ = some (.int .i64 (x3 : Nat)) ∧ w'.cell? ⟨hb, 3, none⟩ = some (.int .i64 (x4 : Nat))) (go_keep) ((go_at_call 25; refine (HCK.out _ HRW.out).mono ?_; rintro e w5 ⟨rfl, y5⟩; have G5 := Lib.hid ((Four.drew HG.out).on y5); have e0 := G5.out.c0; have e1 := G5.out.c1; have e2 := G5.out.c2; have e3 := G5.out.c3; have Y5 := Lib.hid ((belowD HY.out).trans (y5.mono (belowD HY.out).size)); clear y5))
        have HYX := Lib.hid (show ctx h k o = (x1, x2, x3, x4) by have := HB.out; rw [← HYY.out]; simpa using this.symm)
        clear g0 g1 g2 g3 e0 e1 e2 e3
        obtain ⟨g, off, rfl, hg, hc⟩ := (HR.out.on Y5.out).2.2.2 (by omega)
        have hcell := hc k _ (ncells_get h k (by omega))
        have hx2 := H01.out k
        obtain ⟨x, hx⟩ : ∃ x, x = h.getD k 0 := ⟨_, rfl⟩
        rw [← hx] at hcell hx2
        have HXX := Lib.hid hx
        clear hc hx
        rcases (by omega : x = 0 ∨ x = 1) with rfl | rfl
        · clear hx2
          rcases (by omega : z + p < 254 ∨ z + p = 254) with hsm | hbig
          · have HU := Lib.hid (show cnts h o (x1, x2, x3, x4) (k + 1) = (z + 1, p) by
              rw [cnts, if_pos HYX.out, HZP.out, ← HXX.out]; unfold upd halve; rw [if_neg (by decide), if_neg (by dsimp only; omega)])
            go_wp2_with fail
            go_roundw
            case rel => exact ⟨k + 1, z + 1, p, by omega, by go_num, by go_num, by go_num, HU.out, G5.out, Y5.out⟩
            case measure => simp [intOf] <;> omega
          · have HU := Lib.hid (show cnts h o (x1, x2, x3, x4) (k + 1) = ((z + 2) / 2, (p + 1) / 2) by
              rw [cnts, if_pos HYX.out, HZP.out, ← HXX.out]; unfold upd halve; rw [if_neg (by decide), if_pos (by dsimp only; omega)])
            have ht : (z : Int) + 1 + (p : Int) = 255 := by omega
            go_wp2_with fail
            go_roundw
            case rel => exact ⟨k + 1, (z + 2) / 2, (p + 1) / 2, by omega, by go_num, by congr 1; omega, by congr 1; omega, HU.out, G5.out, Y5.out⟩
            case measure => simp [intOf] <;> omega
        · clear hx2
          rcases (by omega : z + p < 254 ∨ z + p = 254) with hsm | hbig
          · have HU := Lib.hid (show cnts h o (x1, x2, x3, x4) (k + 1) = (z, p + 1) by
              rw [cnts, if_pos HYX.out, HZP.out, ← HXX.out]; unfold upd halve; rw [if_pos rfl, if_neg (by dsimp only; omega)])
            go_wp2_with fail
            go_roundw
            case rel => exact ⟨k + 1, z, p + 1, by omega, by go_num, by go_num, by go_num, HU.out, G5.out, Y5.out⟩
            case measure => simp [intOf] <;> omega
          · have HU := Lib.hid (show cnts h o (x1, x2, x3, x4) (k + 1) = ((z + 1) / 2, (p + 2) / 2) by
              rw [cnts, if_pos HYX.out, HZP.out, ← HXX.out]; unfold upd halve; rw [if_pos rfl, if_pos (by dsimp only; omega)])
            have ht : (z : Int) + ((p : Int) + 1) = 255 := by omega
            go_wp2_with fail
            go_roundw
            case rel => exact ⟨k + 1, (z + 1) / 2, (p + 2) / 2, by omega, by go_num, by congr 1; omega, by congr 1; omega, HU.out, G5.out, Y5.out⟩
            case measure => simp [intOf] <;> omega
      · go_upto_region 6 with (fail)
        go_region_held3 (fun w' => w'.cell? ⟨hb, 0, none⟩ = some (.int .i64 (x1 : Nat)) ∧ w'.cell? ⟨hb, 1, none⟩ = some (.int .i64 (x2 : Nat)) ∧ w'.cell? ⟨hb, 2, none⟩ = some (.int .i64 (x3 : Nat)) ∧ w'.cell? ⟨hb, 3, none⟩ = some (.int .i64 (x4 : Nat))) (go_keep) ((go_at_call 25; refine (HCK.out _ HRW.out).mono ?_; rintro e w5 ⟨rfl, y5⟩; have G5 := Lib.hid ((Four.drew HG.out).on y5); have e0 := G5.out.c0; have e1 := G5.out.c1; have e2 := G5.out.c2; have e3 := G5.out.c3; have Y5 := Lib.hid ((belowD HY.out).trans (y5.mono (belowD HY.out).size)); clear y5))
        clear g0 g1 g2 g3 e0 e1 e2 e3
        go_wp2_with fail
        go_roundw
        case rel => exact ⟨k + 1, z, p, by omega, by go_num, rfl, rfl, by rw [cnts, if_neg (by have := HB.out; rw [HYY.out] at this; simpa using this.symm), HZP.out], G5.out, Y5.out⟩
        case measure => simp [intOf] <;> omega
    · obtain rfl : k = i := by omega
      clear g0 g1 g2 g3
      go_wp2
      go_ret2
      exact ⟨by rw [HZP.out]; rfl, HY.out⟩
set_option maxRecDepth 100000 in
set_option maxHeartbeats 3200000 in
theorem predicted_any {A : Option Addr} {n c : Nat} {h : List Nat} {w : World} (hr : Rd w A n c (ncells h)) (h01 : Is01 h) (i ord : Nat) (hi : i ≤ h.length) (hi2 : i ≤ 100000) (ho : ord ≤ 2) (ii oi : Int) (hii : ii = (i : Nat)) (hoi : oi = (ord : Nat)) :
    Calls Try.prog 11 #[.slice A n c, .int .i64 ii, .int .i64 oi] w fun e w' => e = .returned (.int .i64 (predv h i ord : Nat)) ∧ Below w.heap.size w w' := by
  subst hii hoi
  have HR := Lib.hid hr
  have H01 := Lib.hid h01
  clear hr h01
  go_enter Try.func11, Try.ntmps11
  go_wp2_with fail
  go_loopw [7, 8, 9, 10] (fun sv wv cv kv wr => ∃ (k S1 W1 sc : Nat), k ≤ ord + 1 ∧ kv = .int .i64 (k : Nat) ∧ sv = .int .i64 (S1 : Nat) ∧ wv = .int .i64 (W1 : Nat) ∧ cv = .int .i64 (sc : Nat) ∧ sc = 4 ^ k ∧ pacc2 h i k = (S1, W1) ∧ 1 ≤ W1 ∧ W1 ≤ 1 + 240 * k ∧ S1 ≤ 2048 + 1000000 * k ∧ Below w.heap.size w wr) (fun _ _ _ kv _ => ord + 1 - (intOf kv).toNat)
  case atStart => exact ⟨0, 2048, 1, 1, by omega, rfl, rfl, rfl, rfl, rfl, rfl, by omega, by omega, by omega, Below.refl _ _⟩
  case round =>
    obtain ⟨k, S1, W1, sc, hk, rfl, rfl, rfl, rfl, hsc, hacc, hw1, hw2, hs1, yr⟩ := hrel
    have HA := Lib.hid hacc
    have HSC := Lib.hid hsc
    have HY := Lib.hid yr
    clear hacc hsc yr
    by_cases hlt : k < ord + 1
    · have HC := Lib.hid (counts_any (HR.out.on HY.out) H01.out i k hi hi2 (by omega) (i : Nat) (k : Nat) rfl rfl)
      have hcl := cnts_le h k (ctx h i k) i
      have HST := Lib.hid (show pacc2 h i (k + 1) = (S1 + wgt (hcnt h i k) k * mshare (hcnt h i k), W1 + wgt (hcnt h i k) k) by rw [pacc2, HA.out])
      obtain ⟨z, on, hzo⟩ : ∃ z on, hcnt h i k = (z, on) := ⟨_, _, rfl⟩
      rw [show cnts h k (ctx h i k) i = hcnt h i k from rfl, hzo] at hcl
      rw [hzo] at HST HC
      dsimp only at hcl HC
      clear hzo
      obtain ⟨hsh1, hsh2⟩ := mshare_in (k := (z, on)) hcl
      have hws := wgt_le (z, on) (o := k) (by omega)
      have HWG := Lib.hid (show wgt (z, on) k = min (z + on) 15 * sc by rw [HSC.out]; rfl)
      have HSH := Lib.hid (show (2 * (on : Int) + 1) * 2048 / ((z : Int) + (on : Int) + 1) = ((mshare (z, on) : Nat) : Int) by unfold mshare; simp)
      obtain ⟨sh, hshd⟩ : ∃ sh, sh = mshare (z, on) := ⟨_, rfl⟩
      obtain ⟨ww, hwwd⟩ : ∃ ww, ww = wgt (z, on) k := ⟨_, rfl⟩
      rw [← hshd] at hsh1 hsh2 HST HSH
      rw [← hwwd] at hws HST HWG
      clear hshd hwwd
      have hsw : ww * sh ≤ 240 * 4087 := Nat.mul_le_mul hws hsh2
      have hsw1 : (ww : Int) * (sh : Int) = ((ww * sh : Nat) : Int) := by push_cast; rfl
      obtain ⟨ws, hwsd⟩ : ∃ ws, ws = ww * sh := ⟨_, rfl⟩
      rw [← hwsd] at hsw hsw1 HST
      have HSW := Lib.hid hsw1
      clear hwsd hsw1
      go_wp2_with fail
      refine HC.out.mono ?_
      rintro e w5 ⟨rfl, y5⟩
      have HY5 := Lib.hid (HY.out.trans (y5.mono HY.out.size))
      clear y5
      go_upto_region 9 with (fail)
      obtain ⟨nn, hnn⟩ : ∃ nn, nn = z + on := ⟨_, rfl⟩
      have HNN := Lib.hid (show (z : Int) + (on : Int) = ((nn : Nat) : Int) by omega)
      rw [HNN.out]
      rw [← hnn] at hcl HWG
      have hlt2 : on ≤ nn := by omega
      rw [HNN.out] at HSH
      clear hnn HNN
      have hsc16 : sc ≤ 16 := by
        have e := HSC.out
        rcases (by omega : k = 0 ∨ k = 1 ∨ k = 2) with r | r | r <;> (rw [r] at e; omega)
      have hm1 : IntKind.i64.wrap ((ww : Int) * ((2 * (on : Int) + 1) * 2048 / ((nn : Int) + 1))) = (ws : Int) := by
        rw [HSH.out, HSW.out]
        exact IntWalk.i64_in _ (by omega)
      rcases (by omega : nn ≤ 15 ∨ 15 < nn) with hn15 | hn15
      · have hwe := HWG.out
        rw [Nat.min_eq_left hn15] at hwe
        have hm2 : IntKind.i64.wrap ((nn : Int) * (sc : Int)) = (ww : Int) := by
          rw [show (nn : Int) * (sc : Int) = ((nn * sc : Nat) : Int) by push_cast; rfl, ← hwe]
          exact IntWalk.i64_in _ (by omega)
        clear hwe
        go_wp2_with fail
        go_roundw
        case rel => exact ⟨k + 1, S1 + ws, W1 + ww, 4 * sc, by omega, by go_num, by go_num, by go_num, by go_num, by rw [HSC.out, Nat.pow_succ, Nat.mul_comm], HST.out, by omega, by omega, by omega, HY5.out⟩
        case measure => simp [intOf] <;> omega
      · have hwe := HWG.out
        rw [Nat.min_eq_right (by omega)] at hwe
        have HW := Lib.hid (show 15 * (sc : Int) = ((ww : Nat) : Int) by omega)
        clear hwe
        go_upto_region 12 with (fail)
        rw [HW.out]
        go_wp2_with fail
        go_roundw
        case rel => exact ⟨k + 1, S1 + ws, W1 + ww, 4 * sc, by omega, by go_num, by go_num, by go_num, by go_num, by rw [HSC.out, Nat.pow_succ, Nat.mul_comm], HST.out, by omega, by omega, by omega, HY5.out⟩
        case measure => simp [intOf] <;> omega
    · obtain rfl : k = ord + 1 := by omega
      have HV := Lib.hid (show predv h i ord = S1 / W1 by unfold predv; rw [HA.out])
      have hle : S1 / W1 ≤ S1 := Nat.div_le_self _ _
      obtain ⟨V, hVd⟩ : ∃ V, V = predv h i ord := ⟨_, rfl⟩
      rw [← hVd] at HV
      have HVD := Lib.hid hVd
      have HE := Lib.hid (show wrap64 ((S1 : Int) / (W1 : Int)) = ((V : Nat) : Int) by
        have e1 : (S1 : Int) / (W1 : Int) = ((S1 / W1 : Nat) : Int) := rfl
        rw [e1, HV.out]
        generalize S1 / W1 = q at hle
        exact IntWalk.wrap64_in _ (by omega))
      clear hle hVd
      go_wp2
      rw [HE.out]
      go_ret
      exact ⟨by rw [HVD.out]; rfl, HY.out⟩
end PB
end Go.Proofs.Ytmkkbedbgkhbpaa
