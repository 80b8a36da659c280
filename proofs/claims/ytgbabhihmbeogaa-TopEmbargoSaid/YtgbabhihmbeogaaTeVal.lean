/-
  catalogue.Validate: some fault for every catalogue; none for the catalogue of the closed example; where there is none, no embargo is negative.
-/
import Derived.Test.YtgbabhihmbeogaaTePos
namespace Go.Proofs.Ytgbabhihmbeogaa
open Go.RowKit
attribute [local go_sem ↓] Go.wp_at_zero Go.wp_at_succ
set_option linter.unusedVariables false
set_option linter.unusedSimpArgs false
namespace PB
theorem Ent.Is.drew {e : Ent} {w : World} (h : e.Is w) : e.Is w.drew := ⟨h.len, h.one, h.c0, h.c1, h.c2, h.c3, h.c4, h.c37, h.c38, h.c39, h.c40, h.c41, h.c42, h.c75, h.src.drew, h.grp, h.all, h.wver, h.wname, h.wemb⟩
theorem RdE.drew {w : World} {A : Option Addr} {n c : Nat} {es : List Ent} (h : RdE w A n c es) : RdE w.drew A n c es := ⟨h.1, h.2.1, h.2.2.1, h.2.2.2.1, fun e he => (h.2.2.2.2 e he).drew⟩
/-- What is said of the fault of a catalogue. -/
def VOut (es : List Ent) (code idx : Int) : Prop := (es.length = 1 → (∀ e ∈ es, e.Exm) → code = 0) ∧ (code = 0 → idx = 0 ∧ es.length ≤ 60 ∧ ∀ j (h : j < es.length), 0 ≤ (es[j]).emb)
set_option maxRecDepth 100000 in
set_option maxHeartbeats 6400000 in
theorem validate_any {A : Option Addr} {n c : Nat} {es : List Ent} {w : World} (h : RdE w A n c es) :
    Calls Try.prog 16 #[.agg #[.slice A n c]] w fun r w' => ∃ code idx : Int, VOut es code idx ∧ r = .returned (.agg #[.int .i64 code, .int .i64 idx]) ∧ Below w.heap.size w w' := by
  have hn := h.len
  have hcap := h.2.1
  have hcm := h.2.2.1
  unfold maxLen at hcm
  subst hn
  obtain ⟨Z, hZ, hz⟩ := ent_zero
  obtain ⟨ti, hti⟩ : ∃ ti, Try.prog.info? 39 = some ti := ⟨_, rfl⟩
  have HS := Lib.hid (fun A n c k h1 h2 => slice_upto (P := Try.prog) 54 39 ti Try.underlying54 hti A n c k h1 h2)
  clear hti
  have C0 := (One.new w 56 (.slice A es.length c)).alloc (.cells #[.int .i64 0, .int .i64 0] 29)
  have M0 := Two.new1 w (.cells #[.slice A es.length c] 56) 29 (.int .i64 0) (.int .i64 0)
  have R0 := (h.alloc (.cells #[.slice A es.length c] 56)).alloc (.cells #[.int .i64 0, .int .i64 0] 29)
  have Y0 := ((Below.refl w.heap.size w).alloc (Nat.le_refl _) (.cells #[.slice A es.length c] 56)).alloc (by simp) (.cells #[.int .i64 0, .int .i64 0] 29)
  have c0 := C0.c0
  clear h
  by_cases h60 : 60 < es.length
  · go_enter Try.func16, Try.ntmps16
    go_wp2_with fail
    refine (cafault_any _ _ _).mono ?_
    rintro r w3 ⟨rfl, y3⟩
    have M3 := M0.on y3
    have Y3 := Y0.trans (y3.mono Y0.size)
    clear y3
    have p0 := M3.c0
    have p1 := M3.c1
    have p2 := M3.f0
    have p3 := M3.f1
    go_wp2
    have rr := (M3.set0 (.int .i64 2)).set1 (.int .i64 (-1))
    have r0 := rr.c0
    have r1 := rr.c1
    refine bodyPost_ret (v := .agg #[.int .i64 2, .int .i64 (-1)]) (by simp [results, Try.results16, go_sem, r0, r1]) rfl ⟨2, (-1), ⟨fun h => by omega, fun h => by cases h⟩, rfl, ?_⟩
    exact ((Y3.setCell (p := ⟨w.heap.size + 1, 0, none⟩) (by simp) _).setCell (p := ⟨w.heap.size + 1, 1, none⟩) (by simp) _)
  · have HC0 := Lib.hid C0
    have HM0 := Lib.hid M0
    have HR0 := Lib.hid R0
    have HY0 := Lib.hid Y0
    clear C0 M0 R0 Y0
    go_enter Try.func16, Try.ntmps16
    go_wp2_with fail
    obtain ⟨W0, hW0⟩ : ∃ W0, W0 = (w.alloc (.cells #[.slice A es.length c] 56)).alloc (.cells #[.int .i64 0, .int .i64 0] 29) := ⟨_, rfl⟩
    rw [← hW0] at HC0 HM0 HR0 HY0 c0 ⊢
    clear hW0
    go_loopw [21] (fun iv wr => ∃ k : Nat, k ≤ es.length ∧ iv = .int .i64 (k : Nat) ∧ Below W0.heap.size W0 wr ∧ ∀ j (h : j < es.length), j < k → 0 ≤ (es[j]).emb) (fun iv _ => es.length - (intOf iv).toNat)
    case atStart => exact ⟨0, Nat.zero_le _, rfl, Below.refl _ _, fun j h hj => by omega⟩
    case round =>
      obtain ⟨k, hk, rfl, yr, hemb⟩ := hrel
      have HEMB := Lib.hid hemb
      have HYR := Lib.hid yr
      clear hemb
      by_cases hlt : k < es.length
      · have hRr := HR0.out.on yr
        have hx := hRr.is k hlt
        obtain ⟨g, off, rfl, hg, q1⟩ := hRr.at k hlt
        have HLD := Lib.hid (ent_load q1 hx.len)
        have hst := ent_scells wr hZ hx.len hx.one
        have hsz : (es[k]).cs.toArray.size = 76 := by simpa using hx.len
        have HLD2 := Lib.hid (ent_load (Blk.whole (Blk.drew (Blk.new wr 39 (es[k]).cs.toArray))) hx.len)
        have HC := Lib.hid (entry_any (hx.alloc (.cells (es[k]).cs.toArray 39)).drew ((hRr.take k (by omega)).alloc (.cells (es[k]).cs.toArray 39)).drew)
        have hsl := HS.out (some ⟨g, off, none⟩) es.length c k (by omega) hcap
        obtain ⟨e, he⟩ : ∃ e, e = es[k] := ⟨_, rfl⟩
        rw [← he] at HLD hst hsz HLD2 HC
        obtain ⟨xs, hxs⟩ : ∃ xs, xs = e.cs.toArray := ⟨_, rfl⟩
        rw [← hxs] at HLD hst hsz HLD2 HC
        have HE := Lib.hid he
        have HY := Lib.hid (yr.alloc yr.size (.cells xs 39))
        have cr := (HC0.out.on yr).alloc (.cells xs 39)
        have cr0 := cr.c0
        have i1 : (0 : Int) ≤ (k : Int) := by omega
        have i2 : (k : Int) < (es.length : Int) := by omega
        clear hxs he hx q1 hRr yr cr c0
        go_wp2_with fail
        refine wp_load_run _ _ rfl rfl HLD.out ?_
        go_upto_region 6 with (fail)
        clear hst
        obtain ⟨hb, hhb⟩ : ∃ hb, hb = wr.heap.size := ⟨_, rfl⟩
        obtain ⟨W1, hW1⟩ : ∃ W1, W1 = wr.alloc (.cells xs 39) := ⟨_, rfl⟩
        rw [← hW1] at HLD2 HC HY cr0 ⊢
        rw [← hhb] at HLD2 ⊢
        clear hW1 hhb
        refine wp_region_still_tail 5 (by kernel_rfl) (by kernel_rfl) ?_
        simp only [List.take_succ_cons, List.take_zero, List.drop_succ_cons, List.drop_zero]
        refine wpStill_load rfl _ _ rfl rfl HLD2.out ?_
        repeat still_step
        refine wpStill_nil ?_
        change wpList _ _ _ _ _ W1.drew
        go_wp2_with fail
        refine HC.out.mono ?_
        rintro r w5 ⟨code, hcode, rfl, y5⟩
        have HCODE := Lib.hid hcode
        have HY5 := Lib.hid ((belowD HY.out).trans (y5.mono (belowD HY.out).size))
        clear hcode y5
        by_cases hz0 : code = 0
        · subst hz0
          go_wp2_with fail
          go_roundw
          case rel =>
            refine ⟨k + 1, by omega, by go_num, HY5.out, fun j h hj => ?_⟩
            rcases (by omega : j < k ∨ j = k) with hjk | rfl
            · exact HEMB.out j h hjk
            · have := HCODE.out.2 (by simp)
              rw [HE.out] at this
              exact this
          case measure => simp [intOf] <;> omega
        · have hz1 : (code != 0) = true := by rw [bne_iff_ne]; exact hz0
          have M5 := HM0.out.on HY5.out
          have Y5 := HY0.out.trans (HY5.out.mono HY0.out.size)
          clear cr0 HLD HLD2
          go_wp2_with fail
          refine (cafault_any _ _ _).mono ?_
          rintro r w3 ⟨rfl, y3⟩
          have M3 := M5.on y3
          have Y3 := Y5.trans (y3.mono Y5.size)
          clear y3
          have p0 := M3.c0
          have p1 := M3.c1
          have p2 := M3.f0
          have p3 := M3.f1
          go_wp2
          have rr := (M3.set0 (.int .i64 code)).set1 (.int .i64 (k : Nat))
          have r0 := rr.c0
          have r1 := rr.c1
          refine bodyPost_ret (v := .agg #[.int .i64 code, .int .i64 (k : Nat)]) (by simp [results, Try.results16, go_sem, r0, r1]) rfl ⟨code, (k : Nat), ⟨fun h1 hall => absurd (HCODE.out.1 (by rw [HE.out]; exact hall _ (List.getElem_mem _)) (by omega)) hz0, fun h => absurd h hz0⟩, rfl, ?_⟩
          exact ((Y3.setCell (p := ⟨w.heap.size + 1, 0, none⟩) (by simp) _).setCell (p := ⟨w.heap.size + 1, 1, none⟩) (by simp) _)
      · obtain rfl : k = es.length := by omega
        have cr := HC0.out.on yr
        have cr0 := cr.c0
        have HPOS := Lib.hid (positions_any (HR0.out.on yr) (by omega))
        clear cr yr c0 hlt hk
        go_wp2_with fail
        refine HPOS.out.mono ?_
        rintro r w5 ⟨b, m, hpm, rfl, y5⟩
        clear HPOS
        have HP5 := Lib.hid hpm
        have HY5 := Lib.hid (HYR.out.trans (y5.mono HYR.out.size))
        clear hpm y5 cr0 HYR
        have cr := HC0.out.on HY5.out
        have cr0 := cr.c0
        clear cr
        go_wp2_with fail
        go_loopw [44] (fun iv wr => ∃ k : Nat, k ≤ es.length ∧ iv = .int .i64 (k : Nat) ∧ Below w5.heap.size w5 wr) (fun iv _ => es.length - (intOf iv).toNat)
        case atStart => exact ⟨0, Nat.zero_le _, rfl, Below.refl _ _⟩
        case round =>
          obtain ⟨k, hk, rfl, yr⟩ := hrel
          have HYR := Lib.hid yr
          by_cases hlt : k < es.length
          · have hRr := (HR0.out.on HY5.out).on yr
            have hx := hRr.is k hlt
            obtain ⟨g, off, rfl, hg, q1⟩ := hRr.at k hlt
            have HLD := Lib.hid (ent_load q1 hx.len)
            have hst := ent_scells wr hZ hx.len hx.one
            have hsz : (es[k]).cs.toArray.size = 76 := by simpa using hx.len
            have sr := Blk.lcell (Blk.new wr 39 (es[k]).cs.toArray) 37 hx.c37
            have HSRC := Lib.hid (hx.src.alloc (.cells (es[k]).cs.toArray 39))
            have HALL := Lib.hid hx.all
            obtain ⟨e, he⟩ : ∃ e, e = es[k] := ⟨_, rfl⟩
            rw [← he] at HLD hst hsz sr HSRC HALL
            obtain ⟨xs, hxs⟩ : ∃ xs, xs = e.cs.toArray := ⟨_, rfl⟩
            rw [← hxs] at HLD hst hsz sr HSRC
            have HE := Lib.hid he
            have HY := Lib.hid (yr.alloc yr.size (.cells xs 39))
            have i1 : (0 : Int) ≤ (k : Int) := by omega
            have i2 : (k : Int) < (es.length : Int) := by omega
            have hsl := HSRC.out.len
            have hsc := HSRC.out.2.1
            have hsm := HSRC.out.2.2.1
            unfold maxLen at hsm
            obtain ⟨sA, hsA⟩ : ∃ sA, sA = e.sA := ⟨_, rfl⟩
            obtain ⟨sN, hsN⟩ : ∃ sN, sN = e.sN := ⟨_, rfl⟩
            obtain ⟨sC, hsC⟩ : ∃ sC, sC = e.sC := ⟨_, rfl⟩
            rw [← hsA, ← hsN, ← hsC] at sr HSRC
            rw [← hsN] at hsl hsc
            rw [← hsC] at hsc hsm
            have HSN := Lib.hid hsN
            obtain ⟨rs, hrs⟩ : ∃ rs, rs = e.src := ⟨_, rfl⟩
            rw [← hrs] at hsl HSRC HALL
            clear hxs he hx q1 hRr yr cr0 hsA hsN hsC hrs
            subst hsl
            go_wp2_with fail
            refine wp_load_run _ _ rfl rfl HLD.out ?_
            go_wp2_with fail
            obtain ⟨W1, hW1⟩ : ∃ W1, W1 = wr.alloc (.cells xs 39) := ⟨_, rfl⟩
            clear hst
            rw [← hW1] at HSRC HY sr ⊢
            clear hW1 HLD
            go_loopw [52] (fun iv wr => ∃ k : Nat, k ≤ rs.length ∧ iv = .int .i64 (k : Nat) ∧ Below W1.heap.size W1 wr) (fun iv _ => rs.length - (intOf iv).toNat)
            case atStart => exact ⟨0, Nat.zero_le _, rfl, Below.refl _ _⟩
            case round =>
              obtain ⟨i, hi, rfl, yi⟩ := hrel
              have HYI := Lib.hid yi
              by_cases hil : i < rs.length
              · obtain ⟨g2, off2, rfl, hg2, s1, s2⟩ := (HSRC.out.on yi).at i hil
                have hrk := HALL.out _ (List.getElem_mem hil)
                obtain ⟨x, hx⟩ : ∃ x, x = rs[i] := ⟨_, rfl⟩
                rw [← hx] at s1 s2 hrk
                obtain ⟨nm, vr⟩ := x
                dsimp only at s1 s2
                clear hx
                obtain ⟨pc, pok, hpk⟩ := ((HP5.out.on (HY.out.trans (yi.mono HY.out.size))).alloc (.cells #[.string nm, .int .i64 vr] 71)).look hrk
                dsimp only at hpk
                have hlk := hpk _ rfl
                clear hpk
                have X0 := Two.new wr 71 (.string nm) (.int .i64 vr)
                have x0 := X0.c0
                have x1 := X0.c1
                have HY6 := Lib.hid (yi.alloc yi.size (.cells #[.string nm, .int .i64 vr] 71))
                have j1 : (0 : Int) ≤ (i : Int) := by omega
                have j2 : (i : Int) < (rs.length : Int) := by omega
                clear X0 yi hrk
                cases pok
                · go_wp2_with fail
                  go_roundw
                  case rel => exact ⟨i + 1, by omega, by go_num, HY6.out⟩
                  case measure => simp [intOf] <;> omega
                · by_cases hcy : (k : Int) ≤ pc
                  · have M5 := HM0.out.on (HY5.out.trans ((HY.out.trans (HY6.out.mono HY.out.size)).mono HY5.out.size))
                    have Y5 := HY0.out.trans ((HY5.out.trans ((HY.out.trans (HY6.out.mono HY.out.size)).mono HY5.out.size)).mono HY0.out.size)
                    go_wp2_with fail
                    refine (cafault_any _ _ _).mono ?_
                    rintro r w3 ⟨rfl, y3⟩
                    have M3 := M5.on y3
                    have Y3 := Y5.trans (y3.mono Y5.size)
                    clear y3
                    have p0 := M3.c0
                    have p1 := M3.c1
                    have p2 := M3.f0
                    have p3 := M3.f1
                    go_wp2
                    have rr := (M3.set0 (.int .i64 22)).set1 (.int .i64 (k : Nat))
                    have r0 := rr.c0
                    have r1 := rr.c1
                    refine bodyPost_ret (v := .agg #[.int .i64 22, .int .i64 (k : Nat)]) (by simp [results, Try.results16, go_sem, r0, r1]) rfl ⟨22, (k : Nat), ⟨fun h1 hall => absurd (hall e (by rw [HE.out]; exact List.getElem_mem _)).sN (by rw [← HSN.out]; omega), fun h => by cases h⟩, rfl, ?_⟩
                    exact ((Y3.setCell (p := ⟨w.heap.size + 1, 0, none⟩) (by simp) _).setCell (p := ⟨w.heap.size + 1, 1, none⟩) (by simp) _)
                  · go_wp2_with fail
                    go_roundw
                    case rel => exact ⟨i + 1, by omega, by go_num, HY6.out⟩
                    case measure => simp [intOf] <;> omega
              · obtain rfl : i = rs.length := by omega
                go_wp2_with fail
                go_roundw
                case rel => exact ⟨k + 1, by omega, by go_num, HY.out.trans (yi.mono HY.out.size)⟩
                case measure => simp [intOf] <;> omega
          · obtain rfl : k = es.length := by omega
            have M5 := HM0.out.on (HY5.out.trans (yr.mono HY5.out.size))
            have Y5 := HY0.out.trans ((HY5.out.trans (yr.mono HY5.out.size)).mono HY0.out.size)
            have p0 := M5.c0
            have p1 := M5.c1
            have p2 := M5.f0
            have p3 := M5.f1
            go_wp2
            have rr := (M5.set0 (.int .i64 0)).set1 (.int .i64 0)
            have r0 := rr.c0
            have r1 := rr.c1
            refine bodyPost_ret (v := .agg #[.int .i64 0, .int .i64 0]) (by simp [results, Try.results16, go_sem, r0, r1]) rfl ⟨0, 0, ⟨fun _ _ => rfl, fun _ => ⟨rfl, by omega, fun j h => HEMB.out j h h⟩⟩, rfl, ?_⟩
            exact ((Y5.setCell (p := ⟨w.heap.size + 1, 0, none⟩) (by simp) _).setCell (p := ⟨w.heap.size + 1, 1, none⟩) (by simp) _)
end PB
end Go.Proofs.Ytgbabhihmbeogaa
