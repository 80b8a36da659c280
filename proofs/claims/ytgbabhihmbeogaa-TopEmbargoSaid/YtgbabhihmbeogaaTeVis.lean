/-
  catalogue.Visible: some fault and nothing, or exactly the entries that the reader may see; no fault for the catalogue of the closed example.
-/
import Derived.Test.YtgbabhihmbeogaaTeSee
namespace Go.Proofs.Ytgbabhihmbeogaa
open Go.RowKit
attribute [local go_sem ↓] Go.wp_at_zero Go.wp_at_succ
set_option linter.unusedVariables false
set_option linter.unusedSimpArgs false
namespace PB
/-- The entries, of the first k, that a reader may see. -/
def vis (es : List Ent) (R : List ByteArray) (day : Int) (k : Nat) : List Nat := (List.range k).filter fun j => (es[j]?).any fun e => seen e R day
theorem vis_yes {es : List Ent} {R : List ByteArray} {day : Int} {k : Nat} (h : k < es.length) (hs : seen es[k] R day = true) : vis es R day (k + 1) = vis es R day k ++ [k] := by
  unfold vis
  rw [List.range_succ, List.filter_append]
  congr 1
  simp [List.filter_cons, List.getElem?_eq_getElem h, hs]
theorem vis_no {es : List Ent} {R : List ByteArray} {day : Int} {k : Nat} (h : k < es.length) (hs : seen es[k] R day = false) : vis es R day (k + 1) = vis es R day k := by
  unfold vis
  rw [List.range_succ, List.filter_append]
  simp [List.filter_cons, List.getElem?_eq_getElem h, hs]
theorem vis_len (es : List Ent) (R : List ByteArray) (day : Int) (k : Nat) : (vis es R day k).length ≤ k := by
  unfold vis
  have := List.length_filter_le (fun j => (es[j]?).any fun e => seen e R day) (List.range k)
  rw [List.length_range] at this
  exact this
theorem vis_mem {es : List Ent} {R : List ByteArray} {day : Int} {k j : Nat} (h : j ∈ vis es R day k) : ∃ h : j < es.length, seen es[j] R day = true := by
  unfold vis at h
  rw [List.mem_filter] at h
  obtain ⟨h1, h2⟩ := h
  rcases Nat.lt_or_ge j es.length with hj | hj
  · refine ⟨hj, ?_⟩
    rw [List.getElem?_eq_getElem hj] at h2
    simpa using h2
  · rw [List.getElem?_eq_none hj] at h2
    simp at h2
theorem mem_vis {es : List Ent} {R : List ByteArray} {day : Int} {j : Nat} (h : j < es.length) (hs : seen es[j] R day = true) : j ∈ vis es R day es.length := by
  unfold vis
  rw [List.mem_filter]
  refine ⟨List.mem_range.2 h, ?_⟩
  rw [List.getElem?_eq_getElem h]
  simpa using hs
/-- What Visible answers: a fault and nothing, or the entries. -/
def SOut (es : List Ent) (R : List ByteArray) (day : Int) (code idx : Int) (l : List Nat) : Prop :=
  (code ≠ 0 ∧ l = []) ∨ (code = 0 ∧ idx = 0 ∧ es.length ≤ 60 ∧ (∀ j (h : j < es.length), 0 ≤ (es[j]).emb) ∧ l = vis es R day es.length)
set_option maxRecDepth 100000 in
set_option maxHeartbeats 6400000 in
theorem visible_any {A : Option Addr} {n c : Nat} {es : List Ent} {w : World} (h : RdE w A n c es) {B : Option Addr} {m d : Nat} {R : List ByteArray} (hr : Rd w B m d (xcells R)) (day : Int) :
    Calls Try.prog 12 #[.agg #[.slice A n c], .agg #[.slice B m d, .int .i64 day]] w fun r w' => ∃ (code idx : Int) (l : List Nat) (Ao : Option Addr) (co : Nat), SOut es R day code idx l ∧ (n = 1 → (∀ e ∈ es, e.Exm) → m = 0 → 1 ≤ day → day ≤ 3652059 → code = 0) ∧
      r = .returned (.tuple #[.slice Ao l.length co, .agg #[.int .i64 code, .int .i64 idx]]) ∧ w'.ownsRow w.heap.size 3 1 (.slice Ao l.length co) l.length (ncells l) ∧ Below w.heap.size w w' := by
  obtain ⟨i0, hi, hz0, hz1, hz2⟩ := info_parts int_info
  have hn := h.len
  have hcap := h.2.1
  have hcm := h.2.2.1
  unfold maxLen at hcm
  subst hn
  obtain ⟨Z, hZ, hz⟩ := ent_zero
  have HC0 := Lib.hid (((One.new w 56 (.slice A es.length c)).alloc (.cells #[.slice B m d, .int .i64 day] 46)).alloc (.cells #[.int .i64 0, .int .i64 0] 29))
  have HX0 := Lib.hid ((Two.new1 w (.cells #[.slice A es.length c] 56) 46 (.slice B m d) (.int .i64 day)).alloc (.cells #[.int .i64 0, .int .i64 0] 29))
  have HM0 := Lib.hid (Two.new2 w (.cells #[.slice A es.length c] 56) (.cells #[.slice B m d, .int .i64 day] 46) 29 (.int .i64 0) (.int .i64 0))
  have HE0 := Lib.hid (((h.alloc (.cells #[.slice A es.length c] 56)).alloc (.cells #[.slice B m d, .int .i64 day] 46)).alloc (.cells #[.int .i64 0, .int .i64 0] 29))
  have HR0 := Lib.hid (((Rd.alloc hr (.cells #[.slice A es.length c] 56)).alloc (.cells #[.slice B m d, .int .i64 day] 46)).alloc (.cells #[.int .i64 0, .int .i64 0] 29))
  have HY0 := Lib.hid ((((Below.refl w.heap.size w).alloc (Nat.le_refl _) (.cells #[.slice A es.length c] 56)).alloc (by simp) (.cells #[.slice B m d, .int .i64 day] 46)).alloc (by simp; omega) (.cells #[.int .i64 0, .int .i64 0] 29))
  clear h hr
  go_enter Try.func12, Try.ntmps12
  go_upto_region 1 with (fail)
  obtain ⟨W0, hW0⟩ : ∃ W0, W0 = ((w.alloc (.cells #[.slice A es.length c] 56)).alloc (.cells #[.slice B m d, .int .i64 day] 46)).alloc (.cells #[.int .i64 0, .int .i64 0] 29) := ⟨_, rfl⟩
  rw [← hW0] at HC0 HX0 HM0 HE0 HR0 HY0 ⊢
  clear hW0
  have q1 := HC0.out.c0
  have HV := Lib.hid (validate_any HE0.out)
  go_wp2_with fail
  refine HV.out.mono ?_
  rintro r w1 ⟨code, idx, hv, rfl, y⟩
  clear q1 HV
  have HVO := Lib.hid hv
  have HF1 := Lib.hid (Two.new w1 29 (.int .i64 code) (.int .i64 idx))
  have y1 := y.trans ((Below.refl _ _).alloc (Nat.le_refl _) (.cells #[.int .i64 code, .int .i64 idx] 29) |>.mono y.size)
  have HC1 := Lib.hid (HC0.out.on y1)
  have HX1 := Lib.hid (HX0.out.on y1)
  have HM1 := Lib.hid (HM0.out.on y1)
  have HE1 := Lib.hid (HE0.out.on y1)
  have HR1 := Lib.hid (HR0.out.on y1)
  have HY1 := Lib.hid (HY0.out.trans (y1.mono HY0.out.size))
  clear hv y y1
  by_cases hc1 : code = 0
  · obtain rfl : idx = 0 := (HVO.out.2 hc1).1
    subst hc1
    have f0 := HF1.out.c0
    have f1 := HF1.out.c1
    obtain ⟨W1, hW1⟩ : ∃ W1, W1 = w1.alloc (.cells #[.int .i64 0, .int .i64 0] 29) := ⟨_, rfl⟩
    have HRD := Lib.hid (reader_any HR1.out day)
    rw [← hW1] at HF1 HC1 HX1 HM1 HE1 HR1 HY1 HRD f0 f1
    have x0 := HX1.out.c0
    have x1 := HX1.out.c1
    go_upto_region 2 with (fail)
    rw [← hW1]
    clear hW1
    go_wp2_with fail
    refine HRD.out.mono ?_
    rintro r w2 ⟨code, idx, hcd, rfl, y⟩
    have HCD := Lib.hid hcd
    clear hcd f0 f1 x0 x1 HRD HF1
    have HF2 := Lib.hid (Two.new w2 29 (.int .i64 code) (.int .i64 idx))
    have y1 := y.trans ((Below.refl _ _).alloc (Nat.le_refl _) (.cells #[.int .i64 code, .int .i64 idx] 29) |>.mono y.size)
    have HC2 := Lib.hid (HC1.out.on y1)
    have HX2 := Lib.hid (HX1.out.on y1)
    have HM2 := Lib.hid (HM1.out.on y1)
    have HE2 := Lib.hid (HE1.out.on y1)
    have HR2 := Lib.hid (HR1.out.on y1)
    have HY2 := Lib.hid (HY1.out.trans (y1.mono HY1.out.size))
    clear y y1
    by_cases hc2 : code = 0
    · obtain rfl : idx = 0 := HCD.out.2 hc2
      subst hc2
      have f0 := HF2.out.c0
      have f1 := HF2.out.c1
      obtain ⟨W2, hW2⟩ : ∃ W2, W2 = w2.alloc (.cells #[.int .i64 0, .int .i64 0] 29) := ⟨_, rfl⟩
      rw [← hW2] at HF2 HC2 HX2 HM2 HE2 HR2 HY2 f0 f1
      have c0 := HC2.out.c0
      go_upto_region 5 with (fail)
      rw [← hW2]
      clear hW2
      go_wp2_with fail
      clear f0 f1 c0
      go_loopw [8, 26] (fun ov iv wr => ∃ (k : Nat) (Ao : Option Addr) (co : Nat), k ≤ es.length ∧ iv = .int .i64 (k : Nat) ∧ ov = .slice Ao (vis es R day k).length co ∧ wr.ownsRow W2.heap.size 3 1 (.slice Ao (vis es R day k).length co) (vis es R day k).length (ncells (vis es R day k)) ∧ Below W2.heap.size W2 wr) (fun _ iv _ => es.length - (intOf iv).toNat)
      case atStart => exact ⟨0, none, 0, Nat.zero_le _, rfl, rfl, by simpa [ncells, vis] using World.ownsRow_nil _ _ _ _, Below.refl _ _⟩
      case round =>
        obtain ⟨k, Ao, co, hk, rfl, rfl, ho, yr⟩ := hrel
        have HO := Lib.hid ho
        have HYR := Lib.hid yr
        clear ho
        by_cases hlt : k < es.length
        · have hRr := HE2.out.on yr
          have hx := hRr.is k hlt
          obtain ⟨g, off, rfl, hg, q1⟩ := hRr.at k hlt
          have HLD := Lib.hid (ent_load q1 hx.len)
          have hst := ent_scells wr hZ hx.len hx.one
          have hsz : (es[k]).cs.toArray.size = 76 := by simpa using hx.len
          have HLD2 := Lib.hid (ent_load (Blk.whole (Blk.new wr 39 (es[k]).cs.toArray)) hx.len)
          have HMS := Lib.hid (maysee_any (hx.alloc (.cells (es[k]).cs.toArray 39)) (Rd.alloc (Rd.on HR2.out yr) (.cells (es[k]).cs.toArray 39)) day _ rfl)
          obtain ⟨xs, hxs⟩ : ∃ xs, xs = (es[k]).cs.toArray := ⟨_, rfl⟩
          rw [← hxs] at HLD hst hsz HLD2 HMS
          obtain ⟨b, hb⟩ : ∃ b, b = seen es[k] R day := ⟨_, rfl⟩
          rw [← hb] at HMS
          have HB := Lib.hid hb
          have HY := Lib.hid (yr.alloc yr.size (.cells xs 39))
          have HO1 := Lib.hid (World.ownsRow.alloc HO.out (.cells xs 39))
          have xr := (HX2.out.on yr).alloc (.cells xs 39)
          have x0 := xr.c0
          have x1 := xr.c1
          have i1 : (0 : Int) ≤ (k : Int) := by omega
          have i2 : (k : Int) < (es.length : Int) := by omega
          clear hxs hb hx q1 hRr yr xr
          have HVL := Lib.hid (vis_len es R day k)
          obtain ⟨vl, hvl⟩ : ∃ vl, vl = (vis es R day k).length := ⟨_, rfl⟩
          rw [← hvl] at HO1 HVL ⊢
          have HVLE := Lib.hid hvl
          clear hvl
          go_wp2_with fail
          refine wp_load_run _ _ rfl rfl HLD.out ?_
          go_wp2_with fail
          refine wp_load_run _ _ rfl rfl HLD2.out ?_
          go_wp2_with fail
          refine HMS.out.mono ?_
          rintro r w5 ⟨rfl, y⟩
          have HO5 := Lib.hid (own_on HO1.out y)
          have HY5 := Lib.hid (HY.out.trans (y.mono HY.out.size))
          have HYS := HY5.out.size
          clear y x0 x1 HLD HLD2 hst HO1 HY HMS
          cases b
          · go_wp2_with fail
            go_roundw
            case rel => exact ⟨k + 1, Ao, co, by omega, by go_num, by rw [vis_no hlt HB.out.symm, HVLE.out], by rw [vis_no hlt HB.out.symm, ← HVLE.out]; exact HO5.out, HY5.out⟩
            case measure => simp [intOf] <;> omega
          · have h60 := (HVO.out.2 rfl).2.1
            have hvb := HVL.out
            go_wp2_with (at_builtin; refine wpList_app1 _ rfl _ _ _ rfl W2.heap.size 3 i0 _ 8 Try.underlying40 hi hz0 hz1 hz2 rfl _ _ _ rfl HO5.out (.int .i64 (k : Nat)) rfl rfl ?g1 ?g2 HYS ?_)
            case g1 => unfold maxLen; omega
            case g2 => omega
            intro A4 c4 w4 o4 g4
            have Y4 := below_grown HY5.out HO5.out g4 (Nat.le_refl _) HYS
            have HO4 := Lib.hid o4
            clear o4 g4
            go_wp2_with fail
            go_roundw
            case rel =>
              have e := vis_yes hlt HB.out.symm
              refine ⟨k + 1, A4, c4, by omega, by go_num, ?_, ?_, Y4⟩
              · rw [e, List.length_append, ← HVLE.out]; rfl
              · rw [e, List.length_append, ← HVLE.out, ncells_append]
                exact HO4.out
            case measure => simp [intOf] <;> omega
        · obtain rfl : k = es.length := by omega
          have mm := HM2.out.on yr
          have m0 := mm.c0
          have m1 := mm.c1
          have m2 := mm.f0
          have m3 := mm.f1
          go_wp2
          have rr := (mm.set0 (.int .i64 0)).set1 (.int .i64 0)
          have r0 := rr.c0
          have r1 := rr.c1
          refine bodyPost_ret (v := .tuple #[.slice Ao (vis es R day es.length).length co, .agg #[.int .i64 0, .int .i64 0]]) (by simp [results, Try.results12, go_sem, r0, r1]) rfl ⟨0, 0, vis es R day es.length, Ao, co, .inr ⟨rfl, rfl, (HVO.out.2 rfl).2.1, (HVO.out.2 rfl).2.2, rfl⟩, fun _ _ _ _ _ => rfl, rfl, ?_, ?_⟩
          · have hlow : w.heap.size + 2 < W2.heap.size := HM2.out.lt
            have h1 := own_far_any (own_far_any HO.out (p := ⟨w.heap.size + 2, 0, none⟩) (fun e => by have := (HO.out.lt _ e).1; simp at this; omega) (.int .i64 0)) (p := ⟨w.heap.size + 2, 1, none⟩) (fun e => by have := (HO.out.lt _ e).1; simp at this; omega) (.int .i64 0)
            exact own_less h1 HY2.out.size
          · exact ((HY2.out.trans (yr.mono HY2.out.size)).setCell (by simp; omega) _).setCell (by simp; omega) _
    · have hnq := neq_fault code idx 0 0 (fun e => hc2 e.1)
      obtain ⟨m0, m1, m2, m3, m4⟩ := HM2.out.facts
      obtain ⟨f0, f1, f2, f3, f4⟩ := HF2.out.facts
      go_upto_region 6 with (fail)
      go_region
      go_wp2
      have r0 := ((HM2.out.set0 (.int .i64 code)).set1 (.int .i64 idx)).c0
      have r1 := ((HM2.out.set0 (.int .i64 code)).set1 (.int .i64 idx)).c1
      refine bodyPost_ret (v := .tuple #[.slice none 0 0, .agg #[.int .i64 code, .int .i64 idx]]) (by simp [results, Try.results12, go_sem, r0, r1]) rfl ⟨code, idx, [], none, 0, .inl ⟨hc2, rfl⟩, fun h1 h2 h3 h4 h5 => (HCD.out.1 h3 h4 h5).1, rfl, ?_, ?_⟩
      · simpa [ncells] using World.ownsRow_nil _ _ _ _
      · exact belowD ((HY2.out.setCell (by simp; omega) _).setCell (by simp; omega) _)
  · have hnq := neq_fault code idx 0 0 (fun e => hc1 e.1)
    obtain ⟨m0, m1, m2, m3, m4⟩ := HM1.out.facts
    obtain ⟨f0, f1, f2, f3, f4⟩ := HF1.out.facts
    go_upto_region 3 with (fail)
    go_region
    go_wp2
    have r0 := ((HM1.out.set0 (.int .i64 code)).set1 (.int .i64 idx)).c0
    have r1 := ((HM1.out.set0 (.int .i64 code)).set1 (.int .i64 idx)).c1
    refine bodyPost_ret (v := .tuple #[.slice none 0 0, .agg #[.int .i64 code, .int .i64 idx]]) (by simp [results, Try.results12, go_sem, r0, r1]) rfl ⟨code, idx, [], none, 0, .inl ⟨hc1, rfl⟩, fun h1 h2 h3 h4 h5 => HVO.out.1 h1 h2, rfl, ?_, ?_⟩
    · simpa [ncells] using World.ownsRow_nil _ _ _ _
    · exact belowD ((HY1.out.setCell (by simp; omega) _).setCell (by simp; omega) _)
end PB
end Go.Proofs.Ytgbabhihmbeogaa
