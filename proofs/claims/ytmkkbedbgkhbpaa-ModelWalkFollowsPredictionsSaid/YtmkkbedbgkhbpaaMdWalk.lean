/-
  The state of the model behind a list of bits; model.Walk over any step function that has a contract.
-/
import Derived.Test.YtmkkbedbgkhbpaaMdUpd
namespace Go.Proofs.Ytmkkbedbgkhbpaa
open Go.RowKit
attribute [local go_sem ↓] Go.wp_at_zero Go.wp_at_succ
set_option linter.unusedVariables false
set_option linter.unusedSimpArgs false
namespace PB
/-- The counts behind i bits of a history. -/
def mf (ord : Nat) (h : List Nat) (i : Nat) (c : Ctx) : Nat × Nat := if c.1 ≤ ord then cnts h c.1 c i else (0, 0)
theorem mf_le (ord : Nat) (h : List Nat) (i : Nat) (c : Ctx) : (mf ord h i c).1 + (mf ord h i c).2 ≤ 254 := by
  unfold mf
  split
  · exact cnts_le h _ c i
  · exact Nat.zero_le _
theorem mf_zero (ord : Nat) (h : List Nat) : mf ord h 0 = fun _ => (0, 0) := by
  funext c
  unfold mf
  split <;> rfl
theorem mf_append (ord : Nat) (h m : List Nat) (i : Nat) (hi : i ≤ h.length) : mf ord (h ++ m) i = mf ord h i := by
  funext c
  unfold mf
  split
  · exact cnts_append h m _ c i hi
  · rfl
theorem last_append (h m : List Nat) (k : Nat) (hk : k ≤ h.length) : mbeg (h ++ m) k = mbeg h k ∧ mlast (h ++ m) k = mlast h k ∧ mbefore (h ++ m) k = mbefore h k := by
  have e := ctx_append h m k 2 hk
  unfold ctx at e
  simp only [Prod.mk.injEq, true_and] at e
  obtain ⟨e1, e2, e3⟩ := e
  simp at e1 e2
  exact ⟨e3, e1, e2⟩
theorem ctxs_eq (ord : Nat) (ho : ord ≤ 2) (h : List Nat) (i : Nat) : ctxs ord (mlast h i) (mbefore h i) (mbeg h i) = (List.range (ord + 1)).map (ctx h i) := by
  rcases (by omega : ord = 0 ∨ ord = 1 ∨ ord = 2) with rfl | rfl | rfl <;> rfl
theorem ctx_ord (h : List Nat) (i o : Nat) : (ctx h i o).1 = o := rfl
theorem fupd_map (h : List Nat) (i bit : Nat) (f : Ctx → Nat × Nat) : ∀ (m : Nat) (c : Ctx), fupd f ((List.range m).map (ctx h i)) bit c = if c.1 < m ∧ ctx h i c.1 = c then upd (f c) bit else f c := by
  intro m
  induction m with
  | zero => intro c; rw [if_neg (by omega)]; rfl
  | succ m ih =>
    intro c
    have e : fupd f ((List.range (m + 1)).map (ctx h i)) bit = fset (fupd f ((List.range m).map (ctx h i)) bit) (ctx h i m) (upd (fupd f ((List.range m).map (ctx h i)) bit (ctx h i m)) bit) := by
      unfold fupd
      rw [List.range_succ, List.map_append, List.foldl_append]
      rfl
    rw [e]
    unfold fset
    rw [ih, ih]
    by_cases hc : c = ctx h i m
    · rw [if_pos hc]
      subst hc
      rw [if_neg (by rw [ctx_ord]; omega), ctx_ord, if_pos ⟨by omega, rfl⟩]
    · rw [if_neg hc]
      by_cases hcm : c.1 < m ∧ ctx h i c.1 = c
      · rw [if_pos hcm, if_pos ⟨by omega, hcm.2⟩]
      · rw [if_neg hcm, if_neg]
        rintro ⟨h1, h2⟩
        by_cases h3 : c.1 = m
        · rw [h3] at h2
          exact hc h2.symm
        · exact hcm ⟨by omega, h2⟩
theorem mf_step (ord : Nat) (ho : ord ≤ 2) (h : List Nat) (i : Nat) : fupd (mf ord h i) (ctxs ord (mlast h i) (mbefore h i) (mbeg h i)) (h.getD i 0) = mf ord h (i + 1) := by
  rw [ctxs_eq ord ho]
  funext c
  rw [fupd_map]
  unfold mf
  by_cases hc : c.1 ≤ ord
  · rw [if_pos hc, if_pos hc, cnts]
    by_cases he : ctx h i c.1 = c
    · rw [if_pos ⟨by omega, he⟩, if_pos he]
    · rw [if_neg (fun x => he x.2), if_neg he]
  · rw [if_neg hc, if_neg hc, if_neg (by omega)]
theorem pv_eq (ord : Nat) (ho : ord ≤ 2) (h : List Nat) (i : Nat) : pvf (mf ord h i) (ctxs ord (mlast h i) (mbefore h i) (mbeg h i)) = predv h i ord := by
  have key : ∀ o, o ≤ ord → mf ord h i (ctx h i o) = hcnt h i o := by
    intro o h1
    unfold mf
    rw [ctx_ord, if_pos h1]
    rfl
  rw [ctxs_eq ord ho]
  unfold pvf predv
  have e : accf (mf ord h i) ((List.range (ord + 1)).map (ctx h i)) (2048, 1) = pacc2 h i (ord + 1) := by
    have : ∀ m, m ≤ ord + 1 → accf (mf ord h i) ((List.range m).map (ctx h i)) (2048, 1) = pacc2 h i m := by
      intro m
      induction m with
      | zero => intro _; rfl
      | succ m ih =>
        intro hm
        rw [List.range_succ, List.map_append, List.map_cons, List.map_nil, accf_snoc, ih (by omega), key m (by omega), ctx_ord]
        rfl
    exact this _ (Nat.le_refl _)
  rw [e]
/-- The predictor behind a list of bits. -/
def MSt (w : World) (s b n ord : Nat) (l : List Nat) : Prop := Pm w s b n ord (mlast l l.length) (mbefore l l.length) (mbeg l l.length) (mf ord l l.length)
/-- What is done to the world leaves predictors and maps as they are. -/
structure Keep (w w' : World) : Prop where
  size : w.heap.size ≤ w'.heap.size
  blk : ∀ k cs, Blk w k 48 cs → Blk w' k 48 cs
  fault : ∀ k cs, Blk w k 24 cs → Blk w' k 24 cs
  mp : ∀ (k : Nat) (es : Array MapEntry) (clock : Nat), w.heap[k]? = some (Obj.map es clock) → w'.heap[k]? = some (Obj.map es clock)
theorem Keep.refl (w : World) : Keep w w := ⟨Nat.le_refl _, fun _ _ h => h, fun _ _ h => h, fun _ _ _ h => h⟩
theorem Keep.trans {a b c : World} (h : Keep a b) (k : Keep b c) : Keep a c := ⟨Nat.le_trans h.size k.size, fun i cs h1 => k.blk i cs (h.blk i cs h1), fun i cs h1 => k.fault i cs (h.fault i cs h1), fun i es cl h1 => k.mp i es cl (h.mp i es cl h1)⟩
theorem Keep.of_below {w w' : World} (h : Below w.heap.size w w') : Keep w w' :=
  ⟨h.size, fun k cs h1 => h1.on h, fun k cs h1 => h1.on h, fun k es cl h1 => (h.block k (Array.getElem?_eq_some_iff.1 h1).1).trans h1⟩
theorem CM.keep {w w' : World} {b n : Nat} {f : Ctx → Nat × Nat} (h : CM w b n f) (hk : Keep w w') : CM w' b n f := by
  obtain ⟨D, ⟨es, clock, h1, h2⟩, r⟩ := h
  exact ⟨D, ⟨es, clock, hk.mp _ _ _ h1, h2⟩, r⟩
theorem Pm.keep {w w' : World} {s b n ord la be bg : Nat} {f : Ctx → Nat × Nat} (h : Pm w s b n ord la be bg f) (hk : Keep w w') : Pm w' s b n ord la be bg f :=
  ⟨hk.blk _ _ h.blk, h.cm.keep hk⟩
theorem mst_new {w : World} {s b ord : Nat} (h : Pm w s b 0 ord 0 0 1 (fun _ => (0, 0))) : MSt w s b 0 ord [] := by
  unfold MSt
  rw [List.length_nil, mlast_zero, mbefore_zero, mbeg_zero, mf_zero]
  exact h
theorem mst_predict {w : World} {s b n ord : Nat} {l : List Nat} (h : MSt w s b n ord l) (h01 : Is01 l) (ho : ord ≤ 2) (V : Nat) (hV : V = predv l l.length ord) :
    Calls Try.prog 22 #[.pointer (some ⟨s, 0, none⟩)] w fun e w' => e = .returned (.int .i64 (V : Nat)) ∧ Below w.heap.size w w' :=
  predict_any h ho (Nat.lt_of_lt_of_le (mlast_lt _ _) (by decide)) (Nat.lt_of_lt_of_le (mbefore_lt _ _) (by decide)) (mbeg_bound h01 _ (Nat.le_refl _)).2 (mf_le _ _ _) V (by rw [hV, pv_eq ord ho])
theorem mst_update {w : World} {s b n ord bit : Nat} {l : List Nat} (h : MSt w s b n ord l) (h01 : Is01 l) (ho : ord ≤ 2) (hb : bit ≤ 1) (hn : n + 3 < 1000000) (bi : Int) (hbi : bi = (bit : Nat)) :
    Calls Try.prog 23 #[.pointer (some ⟨s, 0, none⟩), .int .i64 bi] w fun e w' => e = .returned (.tuple #[]) ∧ MSt w' s b (n + (ord + 1)) ord (l ++ [bit]) ∧ But2 s b w w' := by
  have h01' : Is01 (l ++ [bit]) := h01.snoc (by omega)
  have hlen : (l ++ [bit]).length = l.length + 1 := by simp
  have hg : (l ++ [bit]).getD l.length 0 = bit := by simp
  obtain ⟨a1, a2, a3⟩ := last_append l [bit] l.length (Nat.le_refl _)
  have af := mf_append ord l [bit] l.length (Nat.le_refl _)
  have st := mf_step ord ho (l ++ [bit]) l.length
  rw [a1, a2, a3, af, hg] at st
  refine (update_any (bit := bit) h ho (mlast_lt _ _) (mbefore_lt _ _) (mbeg_bound h01 _ (Nat.le_refl _)).2 hb (mf_le _ _ _) hn (mlast (l ++ [bit]) (l.length + 1)) (mbefore (l ++ [bit]) (l.length + 1)) (mbeg (l ++ [bit]) (l.length + 1)) ?_ bi hbi).mono ?_
  · by_cases hm : (l.length + 1) % 8 = 0
    · obtain ⟨q1, q2, q3, q4, q5⟩ := mstep_end h01' l.length (by omega) hm
      rw [a1, hg] at q2 q4
      rw [a2] at q3
      exact .inr ⟨q4, q2, q3, q1⟩
    · obtain ⟨q1, q2, q3, q4⟩ := mstep_in h01' l.length (by omega) hm
      rw [a1, hg] at q1 q4
      rw [a2] at q2
      rw [a3] at q3
      exact .inl ⟨q4, q2, q3, q1⟩
  · rintro e w' ⟨rfl, hp, hb2⟩
    refine ⟨rfl, ?_, hb2⟩
    unfold MSt
    rw [hlen, ← st]
    exact hp
theorem call_func {fn : Nat} {fd : Func} (hfd : Try.prog.funcs[fn]? = some fd) (hfn : ¬ fd.name = "runtime.NumGoroutine") (hfb : ¬ fd.body = none) (args : Array Value) (W : World) : (callFunc fn args).run Try.prog W = .ok (.enter fn args) W := by
  simp [callFunc, hfd, hfn, hfb, go_sem]
theorem func_not_nil (fn : Nat) (cap : Array Value) (W : World) : (binOp .eql 35 (.func (.func fn) #[] cap) .nilFunc).run Try.prog W = .ok (.bool false) W := by
  kernel_rfl
set_option maxHeartbeats 800000 in
theorem mdfault_any (code index : Int) (w : World) :
    Calls Try.prog 18 #[.int .i64 code, .int .i64 index] w fun e w' => e = .returned (.agg #[.int .i64 code, .int .i64 index]) ∧ Below w.heap.size w w' := by
  go_enter Try.func18, Try.ntmps18
  go_wp2
  refine bodyPost_ret (v := .agg #[.int .i64 code, .int .i64 index]) (by simp [results, Try.results18, go_sem]) rfl ⟨rfl, ?_⟩
  exact (Below.refl _ _).alloc (Nat.le_refl _) _
set_option maxRecDepth 100000 in
set_option maxHeartbeats 3200000 in
theorem walk_any (w : World) (w0 : Nat) (hw0 : w.heap.size = w0) {ord steps : Nat} (ho : ord ≤ 2) (hs : steps ≤ 8192) (fn : Nat) (fd : Func) (hfd : Try.prog.funcs[fn]? = some fd) (hfn : ¬ fd.name = "runtime.NumGoroutine") (hfb : ¬ fd.body = none) (cap : Array Value) (Inv : List Nat → World → Prop) (Bad : List Nat → World → Prop)
    (hstep : ∀ (l : List Nat) (w : World), Is01 l → l.length < steps → Inv l w → Calls Try.prog fn (#[.int .i64 (predv l l.length ord : Nat)] ++ cap) w fun e w' => ∃ v : Int, e = .returned (.int .i64 v) ∧ Keep w w' ∧ (((v = 0 ∨ v = 1) ∧ Inv (l ++ [v.toNat]) w') ∨ (¬ (v = 0 ∨ v = 1) ∧ Bad l w')))
    (hquiet : ∀ (l : List Nat) (w w' : World), Inv l w → Below w.heap.size w w' → Inv l w')
    (hbad : ∀ (l : List Nat) (w w' : World) (s : Nat) (cs : Array Value), Blk w s 24 cs → w0 ≤ s → But2 s s w w' → (Inv l w → Inv l w') ∧ (Bad l w → Bad l w'))
    (hupd : ∀ (l : List Nat) (w w' : World) (s b : Nat) (cs : Array Value) (es : Array MapEntry) (clock : Nat), Inv l w → Blk w s 48 cs → w.heap[b]? = some (.map es clock) → w0 ≤ s → w0 ≤ b → But2 s b w w' → Inv l w')
    (h0 : Inv [] w) (si : Int) (hsi : si = (steps : Nat)) (oi : Int) (hoi : oi = (ord : Nat)) :
    Calls Try.prog 14 #[.int .i64 oi, .int .i64 si, .func (.func fn) #[] cap] w fun e w' => ∃ l, Is01 l ∧ ((l.length = steps ∧ e = .returned (.agg #[.int .i64 0, .int .i64 0]) ∧ Inv l w') ∨ (l.length < steps ∧ e = .returned (.agg #[.int .i64 6, .int .i64 (l.length : Nat)]) ∧ Bad l w')) := by
  subst hsi hoi
  have HW0 := Lib.hid hw0
  clear hw0
  have HS := Lib.hid hstep
  have HQ := Lib.hid hquiet
  have HB := Lib.hid hbad
  have HU := Lib.hid hupd
  have H0 := Lib.hid h0
  clear hstep hquiet hbad hupd h0
  have hmm := @run_makeMap Try.prog
  have hnn := func_not_nil fn cap
  have hcf := call_func hfd hfn hfb
  go_enter Try.func14, Try.ntmps14
  go_upto_region 7 with (fail)
  have hM := CM.made (w.alloc (.cells #[.int .i64 0, .int .i64 0] 24))
  have hR := ((Blk.new w 24 #[.int .i64 0, .int .i64 0]).alloc (.map #[] 0)).alloc (.cells #[.int .i64 (ord : Nat), .map (some (w.heap.size + 1)), .int .i64 0, .int .i64 0, .int .i64 1] 48)
  have hP := Blk.new ((w.alloc (.cells #[.int .i64 0, .int .i64 0] 24)).alloc (.map #[] 0)) 48 #[.int .i64 (ord : Nat), .map (some (w.heap.size + 1)), .int .i64 0, .int .i64 0, .int .i64 1]
  have hM2 := hM.alloc (.cells #[.int .i64 (ord : Nat), .map (some (w.heap.size + 1)), .int .i64 0, .int .i64 0, .int .i64 1] 48)
  have hY := (((Below.refl w.heap.size w).alloc (Nat.le_refl _) (.cells #[.int .i64 0, .int .i64 0] 24)).alloc (by simp) (.map #[] 0)).alloc (by simp; omega) (.cells #[.int .i64 (ord : Nat), .map (some (w.heap.size + 1)), .int .i64 0, .int .i64 0, .int .i64 1] 48)
  have e1 : (w.alloc (.cells #[.int .i64 0, .int .i64 0] 24)).heap.size = w.heap.size + 1 := by simp
  have e2 : ((w.alloc (.cells #[.int .i64 0, .int .i64 0] 24)).alloc (.map #[] 0)).heap.size = w.heap.size + 2 := by simp
  rw [e1] at hM2
  rw [e2] at hP
  have hst := mst_new ⟨hP, hM2⟩
  have hI := HQ.out _ _ _ H0.out hY
  go_upto_region 9 with (fail)
  generalize (((w.alloc (.cells #[.int .i64 0, .int .i64 0] 24)).alloc (.map #[] 0)).alloc (.cells #[.int .i64 (ord : Nat), .map (some (w.heap.size + 1)), .int .i64 0, .int .i64 0, .int .i64 1] 48)) = w1 at hR hst hI ⊢
  have HR := Lib.hid hR
  have HST := Lib.hid hst
  have HI := Lib.hid hI
  clear hR hst hI hP hM hM2 hY e1 e2 hmm hnn
  go_loopw [35] (fun i wr => ∃ (k : Nat) (l : List Nat), k ≤ steps ∧ i = .int .i64 (k : Nat) ∧ l.length = k ∧ Is01 l ∧ Inv l wr ∧ MSt wr (w.heap.size + 2) (w.heap.size + 1) (k * (ord + 1)) ord l ∧ Blk wr w.heap.size 24 #[.int .i64 0, .int .i64 0]) (fun i _ => steps - (intOf i).toNat)
  case atStart => exact ⟨0, [], by omega, rfl, rfl, Is01.nil, HI.out, by rw [Nat.zero_mul]; exact HST.out, HR.out⟩
  case round =>
    obtain ⟨k, l, hk, rfl, hl, h01, hI, hst, hR⟩ := hrel
    have HL := Lib.hid hl
    have H01 := Lib.hid h01
    have HIr := Lib.hid hI
    have HSTr := Lib.hid hst
    have HRr := Lib.hid hR
    clear hl h01 hI hst hR
    have hkm : k * (ord + 1) ≤ 8192 * 3 := Nat.mul_le_mul (by omega) (by omega)
    by_cases hlt : k < steps
    · obtain ⟨V, hV⟩ : ∃ V, V = predv l l.length ord := ⟨_, rfl⟩
      have HPR := Lib.hid (mst_predict HSTr.out H01.out ho V hV)
      have HV := Lib.hid hV
      clear hV
      go_wp2_with fail
      refine HPR.out.mono ?_
      rintro e w9 ⟨rfl, y9⟩
      have K9 := Keep.of_below y9
      have HST9 := Lib.hid (show MSt w9 _ _ _ _ _ from HSTr.out.keep K9)
      have HR9 := Lib.hid (K9.fault _ _ HRr.out)
      have HI9 := Lib.hid (HQ.out _ _ _ HIr.out y9)
      clear K9 y9 HSTr HRr HIr
      go_wp2_with fail
      have hsl := HS.out l w9 H01.out (by rw [HL.out]; exact hlt) HI9.out
      rw [← HV.out] at hsl
      have HSL := Lib.hid hsl
      clear hsl
      refine HSL.out.mono ?_
      rintro e w10 ⟨v, rfl, K10, hv⟩
      have HST10 := Lib.hid (show MSt w10 _ _ _ _ _ from HST9.out.keep K10)
      have HR10 := Lib.hid (K10.fault _ _ HR9.out)
      clear K10 HI9 HST9 HR9
      rcases hv with ⟨hv01, hI⟩ | ⟨hvb, hB⟩
      · obtain ⟨bt, hbt⟩ : ∃ bt, bt = v.toNat := ⟨_, rfl⟩
        have hbv : v = (bt : Nat) := by omega
        have hb1 : bt ≤ 1 := by omega
        rw [← hbt] at hI
        have HI10 := Lib.hid hI
        have HUP := Lib.hid (mst_update HST10.out H01.out ho hb1 (by omega) v hbv)
        have h01b : Is01 (l ++ [bt]) := H01.out.snoc (by omega)
        have H01B := Lib.hid h01b
        have HBV := Lib.hid hbv
        clear hI hbt hbv h01b
        have htest : (v != 0) = false ∨ ((v != 0) = true ∧ (v != 1) = false) := by
          rcases hv01 with rfl | rfl
          · left; rfl
          · right; exact ⟨rfl, rfl⟩
        clear hv01
        rcases htest with htest | ⟨htest, htest2⟩
        all_goals
          go_wp2_with fail
          refine HUP.out.mono ?_
          rintro e w11 ⟨rfl, hst11, hb11⟩
          obtain ⟨D9, ⟨es9, clock9, hmap9, -⟩, -⟩ := HST10.out.cm
          have HI11 := Lib.hid (HU.out _ _ _ _ _ _ _ _ HI10.out HST10.out.blk hmap9 (by have := HW0.out; omega) (by have := HW0.out; omega) hb11)
          clear hmap9
          have HR11 := Lib.hid (Blk.but2 HR10.out hb11 (by omega) (by omega))
          have HST11 := Lib.hid hst11
          clear hst11 hb11
          go_wp2_with fail
          go_roundw
          case rel => exact ⟨k + 1, l ++ [bt], by omega, by go_num, by rw [List.length_append, HL.out]; rfl, H01B.out, HI11.out, by rw [Nat.succ_mul]; exact HST11.out, HR11.out⟩
          case measure => simp [intOf] <;> omega
      · have hv0 : (v != 0) = true := by rw [bne_iff_ne]; omega
        have hv1 : (v != 1) = true := by rw [bne_iff_ne]; omega
        have HB10 := Lib.hid hB
        clear hB hvb
        go_wp2_with fail
        refine (mdfault_any _ _ _).mono ?_
        rintro e w11 ⟨rfl, y11⟩
        have HR11 : Blk w11 w.heap.size 24 #[.int .i64 0, .int .i64 0] := HR10.out.on y11
        have HY := Lib.hid y11
        clear y11
        have q0 := Blk.cell HR11 0
        have q1 := Blk.cell HR11 1
        have q2 := Blk.frozen HR11 0
        have q3 := Blk.frozen HR11 1
        simp at q0 q1
        go_wp2
        have rr := (HR11.set_ 0 (.int .i64 6)).set_ 1 (.int .i64 (k : Nat))
        simp only [List.setIfInBounds_toArray, List.set_cons_succ, List.set_cons_zero] at rr
        have r0 := Blk.cell rr 0
        have r1 := Blk.cell rr 1
        simp at r0 r1
        have hb := (But2.of_below HY.out w.heap.size w.heap.size).trans (((But2.refl w.heap.size w.heap.size w11).set_ 0 (.int .i64 6)).set_ 1 (.int .i64 (k : Nat)))
        refine bodyPost_ret (v := .agg #[.int .i64 6, .int .i64 (k : Nat)]) (by simp [results, Try.results14, go_sem, r0, r1]) rfl ?_
        exact ⟨l, H01.out, .inr ⟨by rw [HL.out]; exact hlt, by rw [HL.out], (HB.out l _ _ _ _ HR10.out (by have := HW0.out; omega) hb).2 HB10.out⟩⟩
    · have hks : k = steps := by omega
      subst hks
      have q0 := Blk.cell HRr.out 0
      have q1 := Blk.cell HRr.out 1
      have q2 := Blk.frozen HRr.out 0
      have q3 := Blk.frozen HRr.out 1
      simp at q0 q1
      go_wp2
      have rr := (HRr.out.set_ 0 (.int .i64 0)).set_ 1 (.int .i64 0)
      simp only [List.setIfInBounds_toArray, List.set_cons_succ, List.set_cons_zero] at rr
      have r0 := Blk.cell rr 0
      have r1 := Blk.cell rr 1
      simp at r0 r1
      have hb := ((But2.refl w.heap.size w.heap.size wr).set_ 0 (.int .i64 0)).set_ 1 (.int .i64 0)
      refine bodyPost_ret (v := .agg #[.int .i64 0, .int .i64 0]) (by simp [results, Try.results14, go_sem, r0, r1]) rfl ?_
      exact ⟨l, H01.out, .inl ⟨HL.out, rfl, (HB.out l _ _ _ _ HRr.out (by have := HW0.out; omega) hb).1 HIr.out⟩⟩
end PB
end Go.Proofs.Ytmkkbedbgkhbpaa
