/-
  The prediction of the next bit from the counts.
-/
import Derived.Test.YtmkkbedbgkhbpaaMdCtx
namespace Go.Proofs.Ytmkkbedbgkhbpaa
open Go.RowKit
attribute [local go_sem ↓] Go.wp_at_zero Go.wp_at_succ
set_option linter.unusedVariables false
set_option linter.unusedSimpArgs false
namespace PB
/-- Sum and weights behind some contexts. -/
def accf (f : Ctx → Nat × Nat) : List Ctx → Nat × Nat → Nat × Nat
  | [], a => a
  | c :: l, a => accf f l (a.1 + wgt (f c) c.1 * mshare (f c), a.2 + wgt (f c) c.1)
/-- The prediction. -/
def pvf (f : Ctx → Nat × Nat) (l : List Ctx) : Nat := (accf f l (2048, 1)).1 / (accf f l (2048, 1)).2
theorem accf_snoc (f : Ctx → Nat × Nat) (c : Ctx) : ∀ (l : List Ctx) (a : Nat × Nat), accf f (l ++ [c]) a = ((accf f l a).1 + wgt (f c) c.1 * mshare (f c), (accf f l a).2 + wgt (f c) c.1) := by
  intro l
  induction l with
  | nil => intro a; rfl
  | cons x l ih => intro a; exact ih _
theorem accf_take {f : Ctx → Nat × Nat} {l : List Ctx} {k : Nat} (hk : k < l.length) (a : Nat × Nat) : accf f (l.take (k + 1)) a = ((accf f (l.take k) a).1 + wgt (f l[k]) (l[k]).1 * mshare (f l[k]), (accf f (l.take k) a).2 + wgt (f l[k]) (l[k]).1) := by
  rw [List.take_succ_eq_append_getElem hk, accf_snoc]
theorem wgt_le (k : Nat × Nat) {o : Nat} (h : o ≤ 2) : wgt k o ≤ 240 := by
  unfold wgt
  rcases (by omega : o = 0 ∨ o = 1 ∨ o = 2) with rfl | rfl | rfl <;> simp <;> omega
theorem count_eq (z o z2 o2 : Int) (W : World) (b : Bool) (hb : b = decide (z = z2 ∧ o = o2)) : (binOp .eql 59 (.agg #[.int .i64 z, .int .i64 o]) (.agg #[.int .i64 z2, .int .i64 o2])).run Try.prog W = .ok (.bool b) W := by
  subst hb
  by_cases h1 : z = z2
  · subst h1
    by_cases h2 : o = o2
    · subst h2; go_simp
    · go_simp
  · go_simp
set_option maxRecDepth 100000 in
set_option maxHeartbeats 1600000 in
theorem predict_any {w : World} {s b n ord la be bg : Nat} {f : Ctx → Nat × Nat} (h : Pm w s b n ord la be bg f) (ho : ord ≤ 2) (h1 : la < 256) (h2 : be < 256) (h3 : bg < 256) (hf : ∀ c, (f c).1 + (f c).2 ≤ 254) (V : Nat) (hV : V = pvf f (ctxs ord la be bg)) :
    Calls Try.prog 22 #[.pointer (some ⟨s, 0, none⟩)] w fun e w' => e = .returned (.int .i64 (V : Nat)) ∧ Below w.heap.size w w' := by
  have hL := ctxs_length ord la be bg ho
  have hok := ctxs_ok (ord := ord) (la := la) (be := be) (bg := bg) ho h1 h2 h3
  obtain ⟨l, hl⟩ : ∃ l, l = ctxs ord la be bg := ⟨_, rfl⟩
  have HC := Lib.hid (contexts_any h ho)
  rw [← hl] at hL hok HC hV
  have HP := Lib.hid h
  have HV := Lib.hid hV
  have HF := Lib.hid hf
  have HOK := Lib.hid hok
  obtain ⟨m, hm⟩ : ∃ m, m = ord + 1 := ⟨_, rfl⟩
  have hm3 : m ≤ 3 := by omega
  rw [← hm] at hL HC
  clear h hV hf hok hl ho hm h1 h2 h3
  go_enter Try.func22, Try.ntmps22
  go_wp2_with fail
  refine HC.out.mono ?_
  rintro e w1 ⟨A, c, rfl, ho1, y1⟩
  have HX := Lib.hid (RdX.own ho1)
  have HP1 := Lib.hid (HP.out.on y1)
  clear ho1
  go_wp2_with fail
  go_loopw [3, 4, 14] (fun sv wv i wr => ∃ (k S1 W1 : Nat), k ≤ m ∧ i = .int .i64 (k : Nat) ∧ sv = .int .i64 (S1 : Nat) ∧ wv = .int .i64 (W1 : Nat) ∧ accf f (l.take k) (2048, 1) = (S1, W1) ∧ 1 ≤ W1 ∧ W1 ≤ 1 + 240 * k ∧ S1 ≤ 2048 + 1000000 * k ∧ Below w1.heap.size w1 wr) (fun _ _ i _ => m - (intOf i).toNat)
  case atStart => exact ⟨0, 2048, 1, by omega, rfl, rfl, rfl, rfl, by omega, by omega, by omega, Below.refl _ _⟩
  case round =>
    obtain ⟨k, S1, W1, hk, rfl, rfl, rfl, hacc, hw1, hw2, hs1, yr⟩ := hrel
    have HA := Lib.hid hacc
    clear hacc
    by_cases hlt : k < m
    · obtain ⟨g, off, rfl, hg, c0, c1, c2, c3⟩ := (HX.out.on yr).at k (by omega)
      have HT := Lib.hid (accf_take (f := f) (l := l) (k := k) (by omega) (2048, 1))
      obtain ⟨hcx, hc2⟩ := HOK.out l[k] (List.getElem_mem _)
      have hcnt := HF.out l[k]
      generalize l[k]'(by omega) = cx at c0 c1 c2 c3 HT hcx hc2 hcnt
      obtain ⟨o, la', be', bg'⟩ := cx
      dsimp only at c0 c1 c2 c3 HT hc2 hcnt
      have HPr := Lib.hid (HP1.out.on yr)
      obtain ⟨z, on, hzo⟩ : ∃ z on, f (o, la', be', bg') = (z, on) := ⟨_, _, rfl⟩
      rw [hzo] at HT hcnt
      dsimp only at hcnt
      have HA1 := HPr.out.alloc (.cells #[.int .i64 (o : Nat), .int .i64 (la' : Nat), .int .i64 (be' : Nat), .int .i64 (bg' : Nat)] 57)
      have HF1 := Four.new wr 57 (.int .i64 (o : Nat)) (.int .i64 (la' : Nat)) (.int .i64 (be' : Nat)) (.int .i64 (bg' : Nat))
      have y2 := yr.alloc yr.size (.cells #[.int .i64 (o : Nat), .int .i64 (la' : Nat), .int .i64 (be' : Nat), .int .i64 (bg' : Nat)] 57)
      go_upto_region 5 with (fail)
      generalize wr.alloc (.cells #[.int .i64 (o : Nat), .int .i64 (la' : Nat), .int .i64 (be' : Nat), .int .i64 (bg' : Nat)] 57) = w2 at HA1 HF1 y2 ⊢
      have l1 : (Instr.lookup 46 (.map (some b)) (.agg #[.int .i64 (o : Nat), .int .i64 (la' : Nat), .int .i64 (be' : Nat), .int .i64 (bg' : Nat)]) false).run Try.prog w2.drew = .ok (.agg #[.int .i64 (z : Nat), .int .i64 (on : Nat)]) w2.drew := by
        have := HA1.drew.cm.look hcx
        rw [hzo] at this
        exact this
      have l2 : (Instr.lookup 46 (.map (some b)) (.agg #[.int .i64 (o : Nat), .int .i64 (la' : Nat), .int .i64 (be' : Nat), .int .i64 (bg' : Nat)]) false).run Try.prog (w2.alloc (.cells #[.int .i64 0, .int .i64 0] 59)).drew = .ok (.agg #[.int .i64 (z : Nat), .int .i64 (on : Nat)]) (w2.alloc (.cells #[.int .i64 0, .int .i64 0] 59)).drew := by
        have := (HA1.alloc (.cells #[.int .i64 0, .int .i64 0] 59)).drew.cm.look hcx
        rw [hzo] at this
        exact this
      have f0 := HF1.c0
      have f1 := HF1.c1
      have f2 := HF1.c2
      have f3 := HF1.c3
      have t1 := HA1.c1
      clear c0 c1 c2 c3
      apply share
      · intro key
        go_region_held3 (fun w' => w'.cell? ⟨wr.heap.size, 0, none⟩ = some (.int .i64 (o : Nat)) ∧ w'.cell? ⟨wr.heap.size, 1, none⟩ = some (.int .i64 (la' : Nat)) ∧ w'.cell? ⟨wr.heap.size, 2, none⟩ = some (.int .i64 (be' : Nat)) ∧ w'.cell? ⟨wr.heap.size, 3, none⟩ = some (.int .i64 (bg' : Nat)) ∧ w'.cell? ⟨s, 1, none⟩ = some (.map (some b))) (go_keep) (fail)
        all_goals (try simp only [Act.put, List.setIfInBounds_toArray, List.set_cons_zero, List.set_cons_succ])
        all_goals exact key
      have HK3 := Two.new w2 59 (.int .i64 (z : Nat)) (.int .i64 (on : Nat))
      have HF3 := (HF1.alloc (.cells #[.int .i64 (z : Nat), .int .i64 (on : Nat)] 59)).drew
      have y3 := belowD (y2.alloc y2.size (.cells #[.int .i64 (z : Nat), .int .i64 (on : Nat)] 59))
      have HK4 := HK3.drew
      clear HK3 HF1 y2 l1 l2 f0 f1 f2 f3 t1 HA1
      generalize (w2.alloc (.cells #[.int .i64 (z : Nat), .int .i64 (on : Nat)] 59)).drew = w3 at HK4 HF3 y3 ⊢
      have k0 := HK4.c0
      have k1 := HK4.c1
      have k2 := HF3.c0
      by_cases hz0 : z = 0 ∧ on = 0
      · obtain ⟨rfl, rfl⟩ := hz0
        have k0' : w3.cell? ⟨w2.heap.size, 0, none⟩ = some (.int .i64 0) := k0
        have k1' : w3.cell? ⟨w2.heap.size, 1, none⟩ = some (.int .i64 0) := k1
        clear k0 k1
        go_wp2
        go_roundw
        case rel =>
          have hT := HT.out
          have e0 : wgt (0, 0) o = 0 := by simp [wgt]
          rw [e0, HA.out] at hT
          dsimp only at hT
          rw [Nat.zero_mul] at hT
          exact ⟨k + 1, S1, W1, by omega, by go_num, rfl, rfl, hT, by omega, by omega, by omega, y3⟩
        case measure => simp [intOf] <;> omega
      · rcases (by omega : z ≠ 0 ∨ (z = 0 ∧ on ≠ 0)) with hz | ⟨hz, hz'⟩
        · have hd : ¬ (z : Int) = 0 := by omega
          clear hz0 hz
          have hsh : (2 * (on : Int) + 1) * 2048 / (((z : Int) + (on : Int)) + 1) = ((mshare (z, on) : Nat) : Int) := by
            unfold mshare
            simp
          have HSH := Lib.hid hsh
          obtain ⟨hsh1, hsh2⟩ := mshare_in (k := (z, on)) hcnt
          obtain ⟨ww, hww⟩ : ∃ ww, ww = wgt (z, on) o := ⟨_, rfl⟩
          have hww2 : ww ≤ 240 := by rw [hww]; exact wgt_le _ hc2
          rw [← hww] at HT
          clear hsh
          go_upto_region 9 with (fail)
          rw [HSH.out]
          clear HSH
          generalize mshare (z, on) = sh at *
          have HO2 := Lib.hid (show ((z : Int) + (on : Int)) = ((z + on : Nat) : Int) by omega)
          rw [HO2.out]
          clear HO2
          obtain ⟨nn, hnn⟩ : ∃ nn, nn = z + on := ⟨_, rfl⟩
          rw [← hnn] at hcnt ⊢
          have HWW := Lib.hid (show ww = min nn 15 * 4 ^ o by rw [hww, hnn]; rfl)
          clear hnn hww
          have hsw : ww * sh ≤ 240 * 4087 := Nat.mul_le_mul hww2 hsh2
          have hsw1 : (ww : Int) * (sh : Int) = ((ww * sh : Nat) : Int) := by push_cast; rfl
          obtain ⟨ws, hws⟩ : ∃ ws, ws = ww * sh := ⟨_, rfl⟩
          rw [← hws] at hsw hsw1 HT
          have HSW := Lib.hid hsw1
          clear hsw1 hws
          rcases (by omega : o = 0 ∨ o = 1 ∨ o = 2) with e | e | e
          · have k3 : w3.cell? ⟨wr.heap.size, 0, none⟩ = some (.int .i64 0) := by rw [k2, e]; rfl
            clear k2
            have HI := Lib.hid (show (if (15 : Int) < (nn : Int) then (15 : Int) else (nn : Int)) = ((ww : Nat) : Int) by rw [HWW.out, e]; split <;> omega)
            clear e
            go_upto_region 10 with (fail)
            rw [HI.out]
            clear HI
            have hm1 : IntKind.i64.wrap ((ww : Int) * (sh : Int)) = (ws : Int) := by rw [HSW.out]; exact IntWalk.i64_in _ (by omega)
            go_wp2
            go_roundw
            case rel => exact ⟨k + 1, S1 + ws, W1 + ww, by omega, by go_num, by go_num, by go_num, by rw [HT.out, HA.out], by omega, by omega, by omega, y3⟩
            case measure => simp [intOf] <;> omega
          · have k3 : w3.cell? ⟨wr.heap.size, 0, none⟩ = some (.int .i64 1) := by rw [k2, e]; rfl
            clear k2
            have HI := Lib.hid (show (if (15 : Int) < (nn : Int) then (15 : Int) else (nn : Int)) * 4 = ((ww : Nat) : Int) by rw [HWW.out, e]; split <;> omega)
            clear e
            go_upto_region 10 with (fail)
            rw [HI.out]
            clear HI
            have hm1 : IntKind.i64.wrap ((ww : Int) * (sh : Int)) = (ws : Int) := by rw [HSW.out]; exact IntWalk.i64_in _ (by omega)
            go_wp2
            go_roundw
            case rel => exact ⟨k + 1, S1 + ws, W1 + ww, by omega, by go_num, by go_num, by go_num, by rw [HT.out, HA.out], by omega, by omega, by omega, y3⟩
            case measure => simp [intOf] <;> omega
          · have k3 : w3.cell? ⟨wr.heap.size, 0, none⟩ = some (.int .i64 2) := by rw [k2, e]; rfl
            clear k2
            have HI := Lib.hid (show (if (15 : Int) < (nn : Int) then (15 : Int) else (nn : Int)) * 16 = ((ww : Nat) : Int) by rw [HWW.out, e]; split <;> omega)
            clear e
            go_upto_region 10 with (fail)
            rw [HI.out]
            clear HI
            have hm1 : IntKind.i64.wrap ((ww : Int) * (sh : Int)) = (ws : Int) := by rw [HSW.out]; exact IntWalk.i64_in _ (by omega)
            go_wp2
            go_roundw
            case rel => exact ⟨k + 1, S1 + ws, W1 + ww, by omega, by go_num, by go_num, by go_num, by rw [HT.out, HA.out], by omega, by omega, by omega, y3⟩
            case measure => simp [intOf] <;> omega
        · subst hz
          have hd : ¬ (on : Int) = 0 := by omega
          clear hz0 hz'
          have hsh : (2 * (on : Int) + 1) * 2048 / ((on : Int) + 1) = ((mshare (0, on) : Nat) : Int) := by
            unfold mshare
            simp
          have HSH := Lib.hid hsh
          obtain ⟨hsh1, hsh2⟩ := mshare_in (k := (0, on)) hcnt
          obtain ⟨ww, hww⟩ : ∃ ww, ww = wgt (0, on) o := ⟨_, rfl⟩
          have hww2 : ww ≤ 240 := by rw [hww]; exact wgt_le _ hc2
          rw [← hww] at HT
          clear hsh
          go_upto_region 9 with (fail)
          rw [HSH.out]
          clear HSH
          generalize mshare (0, on) = sh at *
          have HO2 := Lib.hid (show (on : Int) = ((0 + on : Nat) : Int) by omega)
          rw [HO2.out]
          clear HO2
          obtain ⟨nn, hnn⟩ : ∃ nn, nn = 0 + on := ⟨_, rfl⟩
          rw [← hnn] at hcnt ⊢
          have HWW := Lib.hid (show ww = min nn 15 * 4 ^ o by rw [hww, hnn]; rfl)
          clear hnn hww
          have hsw : ww * sh ≤ 240 * 4087 := Nat.mul_le_mul hww2 hsh2
          have hsw1 : (ww : Int) * (sh : Int) = ((ww * sh : Nat) : Int) := by push_cast; rfl
          obtain ⟨ws, hws⟩ : ∃ ws, ws = ww * sh := ⟨_, rfl⟩
          rw [← hws] at hsw hsw1 HT
          have HSW := Lib.hid hsw1
          clear hsw1 hws
          rcases (by omega : o = 0 ∨ o = 1 ∨ o = 2) with e | e | e
          · have k3 : w3.cell? ⟨wr.heap.size, 0, none⟩ = some (.int .i64 0) := by rw [k2, e]; rfl
            clear k2
            have HI := Lib.hid (show (if (15 : Int) < (nn : Int) then (15 : Int) else (nn : Int)) = ((ww : Nat) : Int) by rw [HWW.out, e]; split <;> omega)
            clear e
            go_upto_region 10 with (fail)
            rw [HI.out]
            clear HI
            have hm1 : IntKind.i64.wrap ((ww : Int) * (sh : Int)) = (ws : Int) := by rw [HSW.out]; exact IntWalk.i64_in _ (by omega)
            go_wp2
            go_roundw
            case rel => exact ⟨k + 1, S1 + ws, W1 + ww, by omega, by go_num, by go_num, by go_num, by rw [HT.out, HA.out], by omega, by omega, by omega, y3⟩
            case measure => simp [intOf] <;> omega
          · have k3 : w3.cell? ⟨wr.heap.size, 0, none⟩ = some (.int .i64 1) := by rw [k2, e]; rfl
            clear k2
            have HI := Lib.hid (show (if (15 : Int) < (nn : Int) then (15 : Int) else (nn : Int)) * 4 = ((ww : Nat) : Int) by rw [HWW.out, e]; split <;> omega)
            clear e
            go_upto_region 10 with (fail)
            rw [HI.out]
            clear HI
            have hm1 : IntKind.i64.wrap ((ww : Int) * (sh : Int)) = (ws : Int) := by rw [HSW.out]; exact IntWalk.i64_in _ (by omega)
            go_wp2
            go_roundw
            case rel => exact ⟨k + 1, S1 + ws, W1 + ww, by omega, by go_num, by go_num, by go_num, by rw [HT.out, HA.out], by omega, by omega, by omega, y3⟩
            case measure => simp [intOf] <;> omega
          · have k3 : w3.cell? ⟨wr.heap.size, 0, none⟩ = some (.int .i64 2) := by rw [k2, e]; rfl
            clear k2
            have HI := Lib.hid (show (if (15 : Int) < (nn : Int) then (15 : Int) else (nn : Int)) * 16 = ((ww : Nat) : Int) by rw [HWW.out, e]; split <;> omega)
            clear e
            go_upto_region 10 with (fail)
            rw [HI.out]
            clear HI
            have hm1 : IntKind.i64.wrap ((ww : Int) * (sh : Int)) = (ws : Int) := by rw [HSW.out]; exact IntWalk.i64_in _ (by omega)
            go_wp2
            go_roundw
            case rel => exact ⟨k + 1, S1 + ws, W1 + ww, by omega, by go_num, by go_num, by go_num, by rw [HT.out, HA.out], by omega, by omega, by omega, y3⟩
            case measure => simp [intOf] <;> omega
    · obtain rfl : k = m := by omega
      have hend : S1 / W1 = V := by
        have e := HA.out
        rw [← hL, List.take_length] at e
        rw [HV.out]; unfold pvf; rw [e]
      have hle : S1 / W1 ≤ S1 := Nat.div_le_self _ _
      have HE := Lib.hid (show wrap64 ((S1 : Int) / (W1 : Int)) = ((V : Nat) : Int) by
        have e1 : (S1 : Int) / (W1 : Int) = ((S1 / W1 : Nat) : Int) := rfl
        rw [e1, ← hend]
        generalize S1 / W1 = q at hle
        exact IntWalk.wrap64_in _ (by omega))
      clear hend hle
      go_wp2
      rw [HE.out]
      go_ret
      exact ⟨rfl, y1.trans (yr.mono y1.size)⟩
end PB
end Go.Proofs.Ytmkkbedbgkhbpaa
