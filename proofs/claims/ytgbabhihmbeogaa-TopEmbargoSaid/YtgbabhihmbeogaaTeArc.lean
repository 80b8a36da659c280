/-
  archive.Visible: what catalogue.Visible says of the entries of the results.
-/
import Derived.Test.YtgbabhihmbeogaaTeRes
import Derived.Great.BuildSlice
namespace Go.Proofs.Ytgbabhihmbeogaa
open Go.RowKit
attribute [local go_sem ↓] Go.wp_at_zero Go.wp_at_succ
set_option linter.unusedVariables false
set_option linter.unusedSimpArgs false
namespace PB
/-- []Entry of one element. -/
theorem ent_buildSlice (w : World) {cs : Array Value} (hl : cs.size = 76) : (Instr.buildSlice 54 1 #[(0, .agg cs)]).run Try.prog w = .ok (.slice (some ⟨w.heap.size, 0, none⟩) 1 1) (w.alloc (.cells cs 39)) := by
  obtain ⟨z, hz, hh⟩ := ent_info
  obtain ⟨i, hi, h1, h2, h3⟩ := info_parts hh
  refine run_buildSlice (P := Try.prog) w 54 39 1 _ cs i z Try.underlying54 hi h1 (by rw [h2]; decide) (by rw [h2]; decide) ?_
  rw [h2]
  have := Great.fill_whole (s := 76) (by decide) [.agg cs] ((Array.range (1 * 76)).map (z.cells[· % z.cells.size]!)) (by simpa [Value.cells] using hl) (by simp)
  simp only [List.zipIdx_cons, List.zipIdx_nil, List.map_cons, List.map_nil] at this
  simp [Value.cells] at this
  exact this
theorem wp_ent_slice {o : Oper} {a : Act} {w : World} {K : Act → World → Prop} {Q : Exit → Act → World → Prop} (x : Operand) (ho : o.op = .buildSlice 54 1 #[(0, x)]) {cs : Array Value} (hx : a.eval x = .agg cs) (hl : cs.size = 76)
    (h : K (a.put o.dst (.slice (some ⟨w.heap.size, 0, none⟩) 1 1)) (w.alloc (.cells cs 39))) : o.wp Try.prog a w K Q := by
  unfold Oper.wp execOp
  simp only [ho, List.map_toArray, List.map_cons, List.map_nil, hx, Sem.run_bind, ent_buildSlice w hl, Result.andThen_ok]
  exact h
/-- The entries of results. -/
def ents (rs : List (Ent × List Value)) : List Ent := rs.map (·.1)
theorem ents_take_succ {rs : List (Ent × List Value)} {k : Nat} (h : k < rs.length) : ents (rs.take (k + 1)) = ents (rs.take k) ++ [(rs[k]).1] := by
  unfold ents
  rw [← List.take_append_getElem h, List.map_append]
  rfl
set_option maxRecDepth 100000 in
set_option maxHeartbeats 6400000 in
theorem arc_any {A : Option Addr} {n c : Nat} {rs : List (Ent × List Value)} {w : World} (h : RdS w A n c rs) (hroom : n * 216 ≤ 140737488355328) (v0 v1 v2 v3 : Value) {B : Option Addr} {m d : Nat} {R : List ByteArray} (hr : Rd w B m d (xcells R)) (day : Int) :
    Calls Try.prog 5 #[.agg #[v0, v1, v2, v3, .slice A n c], .agg #[.slice B m d, .int .i64 day]] w fun r w' => ∃ (code idx : Int) (l : List Nat) (Ao : Option Addr) (co : Nat), SOut (ents rs) R day code idx l ∧ (n = 1 → (∀ x ∈ rs, x.1.Exm) → m = 0 → 1 ≤ day → day ≤ 3652059 → code = 0) ∧
      r = .returned (.tuple #[.slice Ao l.length co, .agg #[.int .i64 code, .int .i64 idx]]) ∧ w'.ownsRow w.heap.size 3 1 (.slice Ao l.length co) l.length (ncells l) ∧ Below w.heap.size w w' := by
  obtain ⟨z, hzs, hinf⟩ := ent_info
  obtain ⟨i0, hi, hz0, hz1, hz2⟩ := info_parts hinf
  have hn := h.len
  have hcap := h.2.1
  have hcm := h.2.2.1
  unfold maxLen at hcm
  subst hn
  obtain ⟨Z, hZ, hz⟩ := res_zero
  have HB0 := Lib.hid ((((Blk.new w 27 #[v0, v1, v2, v3, .slice A rs.length c]).alloc (.cells #[.slice B m d, .int .i64 day] 46)).alloc (.cells #[.int .i64 0, .int .i64 0] 29)))
  have HX0 := Lib.hid ((Two.new1 w (.cells #[v0, v1, v2, v3, .slice A rs.length c] 27) 46 (.slice B m d) (.int .i64 day)).alloc (.cells #[.int .i64 0, .int .i64 0] 29))
  have HM0 := Lib.hid (Two.new2 w (.cells #[v0, v1, v2, v3, .slice A rs.length c] 27) (.cells #[.slice B m d, .int .i64 day] 46) 29 (.int .i64 0) (.int .i64 0))
  have HE0 := Lib.hid (((h.alloc (.cells #[v0, v1, v2, v3, .slice A rs.length c] 27)).alloc (.cells #[.slice B m d, .int .i64 day] 46)).alloc (.cells #[.int .i64 0, .int .i64 0] 29))
  have HR0 := Lib.hid (((Rd.alloc hr (.cells #[v0, v1, v2, v3, .slice A rs.length c] 27)).alloc (.cells #[.slice B m d, .int .i64 day] 46)).alloc (.cells #[.int .i64 0, .int .i64 0] 29))
  have HY0 := Lib.hid ((((Below.refl w.heap.size w).alloc (Nat.le_refl _) (.cells #[v0, v1, v2, v3, .slice A rs.length c] 27)).alloc (by simp) (.cells #[.slice B m d, .int .i64 day] 46)).alloc (by simp; omega) (.cells #[.int .i64 0, .int .i64 0] 29))
  clear h hr
  go_enter Try.func5, Try.ntmps5
  go_upto_region 1 with (fail)
  obtain ⟨W0, hW0⟩ : ∃ W0, W0 = ((w.alloc (.cells #[v0, v1, v2, v3, .slice A rs.length c] 27)).alloc (.cells #[.slice B m d, .int .i64 day] 46)).alloc (.cells #[.int .i64 0, .int .i64 0] 29) := ⟨_, rfl⟩
  rw [← hW0] at HB0 HX0 HM0 HE0 HR0 HY0 ⊢
  clear hW0
  have b4 := (Blk.alloc HB0.out (.cells #[.slice none 0 0] 56)).cell 4
  simp at b4
  obtain ⟨cb, hcb⟩ : ∃ cb, cb = W0.heap.size := ⟨_, rfl⟩
  have HCB := Lib.hid hcb
  have HC1 := Lib.hid (One.new W0 56 (.slice none 0 0))
  have HY1 := Lib.hid ((Below.refl W0.heap.size W0).alloc (Nat.le_refl _) (.cells #[.slice none 0 0] 56))
  go_wp2_with fail
  rw [← hcb] at HC1 ⊢
  clear hcb b4
  go_loopw [12] (fun iv wr => ∃ (k : Nat) (Ao : Option Addr) (co : Nat), k ≤ rs.length ∧ iv = .int .i64 (k : Nat) ∧ One wr cb 56 (.slice Ao k co) ∧ wr.ownsRow (cb + 1) 39 76 (.slice Ao k co) k (flat (ents (rs.take k))) ∧ Below W0.heap.size W0 wr) (fun iv _ => rs.length - (intOf iv).toNat)
  case atStart => exact ⟨0, none, 0, Nat.zero_le _, rfl, HC1.out, by simpa [flat, ents] using World.ownsRow_nil _ _ _ _, HY1.out⟩
  case round =>
    obtain ⟨k, Ao, co, hk, rfl, cr, ho, yr⟩ := hrel
    have HO := Lib.hid ho
    have HCR := Lib.hid cr
    have HYR := Lib.hid yr
    clear ho HC1 HY1 cr
    by_cases hlt : k < rs.length
    · have hRr := HE0.out.on yr
      obtain ⟨hx, hx3, hx1⟩ := hRr.is k hlt
      obtain ⟨g, off, rfl, hg, q1⟩ := hRr.at k hlt
      have hl79 : ((rs[k]).1.cs ++ (rs[k]).2).length = 79 := by rw [List.length_append, hx.len, hx3]
      have h179 : ∀ v ∈ (rs[k]).1.cs ++ (rs[k]).2, v.oneCell' = true := by
        intro v hv
        rcases List.mem_append.1 hv with hv | hv
        · exact hx.one v hv
        · exact hx1 v hv
      have HLD := Lib.hid (res_load q1 hl79)
      have hst := res_scells wr hZ hl79 h179
      have hsz : ((rs[k]).1.cs ++ (rs[k]).2).toArray.size = 79 := by rw [List.size_toArray]; exact hl79
      have hrg : (wr.alloc (.cells ((rs[k]).1.cs ++ (rs[k]).2).toArray 42)).rangeAt wr.heap.size 0 (rs[k]).1.cs := by
        have := Blk.range (Blk.new wr 42 ((rs[k]).1.cs ++ (rs[k]).2).toArray) 0 76
        rw [List.drop_zero, show (76 : Nat) = (rs[k]).1.cs.length from hx.len.symm, List.take_left] at this
        exact this
      have HLD2 := Lib.hid (ent_load hrg hx.len)
      have HLE := Lib.hid hx.len
      have HON := Lib.hid hx.one
      have HTS := Lib.hid (show flat (ents (rs.take (k + 1))) = flat (ents (rs.take k)) ++ (rs[k]).1.cs by rw [ents_take_succ hlt, flat_snoc])
      obtain ⟨cs, hcs⟩ : ∃ cs, cs = (rs[k]).1.cs := ⟨_, rfl⟩
      obtain ⟨ts, hts⟩ : ∃ ts, ts = (cs ++ (rs[k]).2).toArray := ⟨_, rfl⟩
      rw [← hcs] at HLD hst hsz HLD2 HLE HON HTS
      rw [← hts] at HLD hst hsz HLD2
      have HY := Lib.hid (yr.alloc yr.size (.cells ts 42))
      have HO1 := Lib.hid (World.ownsRow.alloc HO.out (.cells ts 42))
      have HC1 := Lib.hid (HCR.out.alloc (.cells ts 42))
      have c0 := HC1.out.c0
      have i1 : (0 : Int) ≤ (k : Int) := by omega
      have i2 : (k : Int) < (rs.length : Int) := by omega
      clear hcs hts hx hx3 hx1 hl79 h179 hrg q1 hRr yr
      go_wp2_with fail
      refine wp_load_run _ _ rfl rfl HLD.out ?_
      go_wp2_with fail
      refine wp_load_run _ _ rfl rfl HLD2.out ?_
      go_step
      go_step
      refine wp_ent_slice _ rfl rfl (by simpa using HLE.out) ?_
      clear HLD HLD2 hst c0
      obtain ⟨W2, hW2⟩ : ∃ W2, W2 = wr.alloc (.cells ts 42) := ⟨_, rfl⟩
      have hsw : wr.heap.size < W2.heap.size := by rw [hW2]; simp
      rw [← hW2] at HY HO1 HC1 ⊢
      clear hW2
      have hcbs : cb + 1 ≤ W2.heap.size := HC1.out.lt
      go_step
      refine wpList_ent1 W2 rfl _ _ _ rfl (cb + 1) 39 i0 z 216 Try.underlying54 hi hz0 hz1 hz2 hzs (.slice Ao k co) k (flat (ents (rs.take k))) rfl HO1.out cs HLE.out HON.out rfl ?g1 ?g2 hcbs ?_
      case g1 => unfold maxLen; omega
      case g2 => omega
      intro A4 c4 w4 o4 g4
      have hne : some cb ≠ (Value.slice Ao k co).ownBlock := fun e => by have := (HO1.out.lt _ e.symm).1; omega
      have HC4 := Lib.hid (One.grown HC1.out g4 hne)
      have HY4 := Lib.hid (HY.out.grown g4 HY.out.size (fun q hq => by have := (HO1.out.lt _ hq).1; have := HCB.out; omega))
      rw [← HTS.out] at o4
      have HO4 := Lib.hid o4
      have d0 := HC4.out.c0
      have d1 := HC4.out.f0
      clear o4 g4 hne
      go_wp2_with fail
      go_roundw
      case rel =>
        refine ⟨k + 1, A4, c4, by omega, by go_num, HC4.out.set0 _, ?_, HY4.out.setCell (by simp; have := HCB.out; omega) _⟩
        exact own_far_any HO4.out (p := ⟨cb, 0, none⟩) (fun e => by have := (HO4.out.lt _ e).1; dsimp only at this; omega) _
      case measure => simp [intOf] <;> omega
    · obtain rfl : k = rs.length := by omega
      have hents : ents (rs.take rs.length) = ents rs := by rw [List.take_length]
      have ho := HO.out
      rw [hents] at ho
      have hlen : (ents rs).length = rs.length := by simp [ents]
      have his : ∀ e ∈ ents rs, e.Is W0 := by
        intro e he
        obtain ⟨x, hx, rfl⟩ := List.mem_map.1 he
        exact (HE0.out.2.2.2.2 x hx).1
      have HRE := Lib.hid (RdE.own ho (fun e he => (his e he).on yr))
      have HV := Lib.hid (visible_any HRE.out (Rd.on HR0.out yr) day)
      have xr := HX0.out.on yr
      have x0 := xr.c0
      have x1 := xr.c1
      have c0 := HCR.out.c0
      have HLN := Lib.hid hlen
      clear hents ho hlen his xr
      go_wp2_with fail
      refine HV.out.mono ?_
      rintro r w5 ⟨code, idx, l, Av, cv, hso, hex, rfl, hov, y⟩
      have HSO := Lib.hid hso
      have HEX := Lib.hid hex
      have HOV := Lib.hid hov
      have HY5 := Lib.hid (yr.trans (y.mono yr.size))
      have HYW := Lib.hid (yr.size)
      clear hso hex hov y x0 x1 c0 yr
      have mm := HM0.out.on HY5.out
      have m0 := mm.c0
      have m1 := mm.c1
      have m2 := mm.f0
      have m3 := mm.f1
      go_wp2
      have rr := (mm.set0 (.int .i64 code)).set1 (.int .i64 idx)
      have r0 := rr.c0
      have r1 := rr.c1
      refine bodyPost_ret (v := .tuple #[.slice Av l.length cv, .agg #[.int .i64 code, .int .i64 idx]]) (by simp [results, Try.results5, go_sem, r0, r1]) rfl ⟨code, idx, l, Av, cv, HSO.out, ?_, rfl, ?_, ?_⟩
      · intro h1 h2
        exact HEX.out h1 (fun e he => by
          obtain ⟨x, hx, rfl⟩ := List.mem_map.1 he
          exact h2 x hx)
      · have hlow : w.heap.size + 2 < W0.heap.size := HM0.out.lt
        have hww := HYW.out
        have h1 := own_far_any (own_far_any HOV.out (p := ⟨w.heap.size + 2, 0, none⟩) (fun e => by have := (HOV.out.lt _ e).1; simp at this; omega) (.int .i64 code)) (p := ⟨w.heap.size + 2, 1, none⟩) (fun e => by have := (HOV.out.lt _ e).1; simp at this; omega) (.int .i64 idx)
        exact own_less h1 (by omega)
      · exact ((HY0.out.trans (HY5.out.mono HY0.out.size)).setCell (by simp; omega) _).setCell (by simp; omega) _
end PB
end Go.Proofs.Ytgbabhihmbeogaa
