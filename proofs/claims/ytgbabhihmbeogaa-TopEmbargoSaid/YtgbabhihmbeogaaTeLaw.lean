/-
  The law TopEmbargo: it returns true.
-/
import Derived.Test.YtgbabhihmbeogaaTeLawA
namespace Go.Proofs.Ytgbabhihmbeogaa
open Go.RowKit
attribute [local go_sem ↓] Go.wp_at_zero Go.wp_at_succ
set_option linter.unusedVariables false
set_option linter.unusedSimpArgs false
namespace PB
theorem sub_one {e : Int} (h : I6 e) : 0 ≤ e → wrap64 (e - 1) = e - 1 := by
  intro h0
  obtain ⟨h1, h2⟩ := h
  unfold wrap64
  omega
theorem not_early {rs : List Ent} {R : List ByteArray} {dv : Int} {code idx : Int} {l : List Nat} (h : SOut rs R dv code idx l) {k : Nat} {e : Ent} (hk : k < rs.length) (he : rs[k] = e) (hd : 0 ≤ e.emb → dv = e.emb - 1) : ∀ i, i < l.length → l.getD i 0 ≠ k := by
  intro i hi e0
  rcases h with ⟨_, h2⟩ | ⟨_, _, _, h3, h4⟩
  · subst h2; simp at hi
  · have hm : k ∈ l := by
      rw [← e0, List.getD_eq_getElem?_getD, List.getElem?_eq_getElem hi]
      exact List.getElem_mem hi
    rw [h4] at hm
    obtain ⟨hj, hs⟩ := vis_mem hm
    rw [he] at hs
    unfold seen at hs
    rw [Bool.and_eq_true] at hs
    have h5 := of_decide_eq_true hs.1
    have h6 := h3 k hk
    rw [he] at h6
    have := hd h6
    omega
theorem late_in {rs : List Ent} {r2 : Int} {code idx : Int} {l : List Nat} {e : Ent} {w : World} (h : SOut rs e.grp r2 code idx l) {k : Nat} (hk : k < rs.length) (he : rs[k] = e) (hi : e.Is w) : code = 0 → e.emb ≤ r2 → ∃ j, j < l.length ∧ l.getD j 0 = k := by
  intro hc hr
  rcases h with ⟨h1, _⟩ | ⟨_, _, _, _, h4⟩
  · exact absurd hc h1
  · have hs : seen e e.grp r2 = true := by
      unfold seen
      rw [Bool.and_eq_true, decide_eq_true_eq]
      refine ⟨hr, ?_⟩
      rw [Bool.or_eq_true, decide_eq_true_eq]
      by_cases h0 : e.gN = 0
      · exact .inl h0
      · right
        have hl := hi.grp.len
        unfold xcells at hl
        rw [List.length_map] at hl
        rw [List.any_eq_true]
        refine ⟨e.grp[0]'(by omega), List.getElem_mem _, ?_⟩
        exact (Lib.containsS_iff _ _).2 (List.getElem_mem _)
    have hm : k ∈ l := by
      rw [h4]
      exact mem_vis hk (by rw [he]; exact hs)
    obtain ⟨j, hj, e1⟩ := List.getElem_of_mem hm
    refine ⟨j, hj, ?_⟩
    rw [List.getD_eq_getElem?_getD, List.getElem?_eq_getElem hj]
    exact e1
theorem is_of {w : World} {A : Option Addr} {n c : Nat} {rs : List (Ent × List Value)} (h : RdS w A n c rs) {k : Nat} {e : Ent} {et : List Value} (hk : rs[k]? = some (e, et)) : e.Is w := (h.2.2.2.2 _ (List.mem_of_getElem? hk)).1
theorem ex_all : ∀ x ∈ [(exE, exT)], x.1.Exm := by
  intro x hx
  obtain rfl := List.mem_singleton.1 hx
  exact exE_exm
set_option maxRecDepth 100000 in
set_option maxHeartbeats 6400000 in
theorem te_all {A : Option Addr} {n c : Nat} {rs : List (Ent × List Value)} {w : World} (h : RdS w A n c rs) (hroom : n * 216 ≤ 140737488355328) (v0 v1 v2 v3 : Value) (q mo : Int) (hi64 : I6 q) :
    Calls Try.prog 3 #[.agg #[v0, v1, v2, v3, .slice A n c], .int .i64 q, .int .i64 mo] w fun r w' => r = .returned (.bool true) ∧ Below w.heap.size w w' := by
  have hn := h.len
  have hcap := h.2.1
  have hcm := h.2.2.1
  unfold maxLen at hcm
  subst hn
  obtain ⟨Z, hZ, hz⟩ := ent_zero
  obtain ⟨Z2, hZ2, hz2⟩ := res_zero
  have HI := Lib.hid hi64
  have HB := Lib.hid (Blk.new w 27 #[v0, v1, v2, v3, .slice A rs.length c])
  have H0 := Lib.hid h
  have HY := Lib.hid ((Below.refl w.heap.size w).alloc (Nat.le_refl _) (.cells #[v0, v1, v2, v3, .slice A rs.length c] 27))
  have HDY := Lib.hid (day_ex (w.alloc (.cells #[v0, v1, v2, v3, .slice A rs.length c] 27)))
  clear h hi64
  go_enter Try.func3, Try.ntmps3
  go_wp2_with fail
  refine HDY.out.mono ?_
  rintro r w1 ⟨rfl, y⟩
  clear HDY
  replace HB := Lib.hid (Blk.on HB.out y)
  replace HY := Lib.hid (HY.out.trans (y.mono HY.out.size))
  clear y
  obtain ⟨rb, hrb⟩ : ∃ rb, rb = w.heap.size := ⟨_, rfl⟩
  rw [← hrb] at HB ⊢
  have HRB := Lib.hid hrb
  clear hrb
  have L0 := Lib.hid (Blk.lt HB.out)
  replace HB := Lib.hid (Blk.alloc HB.out (.cells #[.int .i64 0, .int .i64 0] 29))
  replace HY := Lib.hid (HY.out.alloc HY.out.size (.cells #[.int .i64 0, .int .i64 0] 29))
  have HF := Lib.hid (Two.new w1 29 (.int .i64 0) (.int .i64 0))
  go_upto_region 2 with (fail)
  obtain ⟨fb, hfb⟩ : ∃ fb, fb = w1.heap.size := ⟨_, rfl⟩
  rw [← hfb] at HF L0 ⊢
  clear hfb
  obtain ⟨W1, hW1⟩ : ∃ W1, W1 = w1.alloc (.cells #[.int .i64 0, .int .i64 0] 29) := ⟨_, rfl⟩
  rw [← hW1] at HB HY HF ⊢
  clear hW1
  go_step
  go_step
  go_step
  go_step
  go_step
  refine wp_build_run _ _ rfl (ps := [(0, .string ⟨#[97]⟩), (1, .int .i64 1), (3, .int .i64 1), (8, .int .i64 741079)]) (by simp only [List.map_toArray, List.map_cons, List.map_nil]; rfl) ex_built ?_
  have hst := ent_scells W1 hZ (cs := exC) rfl (exE_is W1).one
  have hsz : exC.toArray.size = 76 := rfl
  have HLD := Lib.hid (ent_load (Blk.whole (Blk.new W1 39 exC.toArray)) rfl)
  obtain ⟨xs, hxs⟩ : ∃ xs, xs = exC.toArray := ⟨_, rfl⟩
  have HBR := Lib.hid ex_built2
  rw [← hxs] at hst hsz HLD HBR ⊢
  clear hxs
  go_upto_region 3 with (fail)
  go_step
  go_step
  refine wp_load_run _ _ rfl rfl HLD.out ?_
  clear hst HLD
  go_step
  go_step
  refine wp_build_run _ _ rfl (ps := [(0, .agg xs)]) (by simp only [List.map_toArray, List.map_cons, List.map_nil]; rfl) HBR.out ?_
  go_step
  go_step
  refine wp_res_slice _ rfl rfl rfl ?_
  go_step
  replace HB := Lib.hid (Blk.alloc HB.out (.cells xs 39))
  replace HY := Lib.hid (HY.out.alloc HY.out.size (.cells xs 39))
  replace HF := Lib.hid (HF.out.alloc (.cells xs 39))
  obtain ⟨eb, heb⟩ : ∃ eb, eb = W1.heap.size := ⟨_, rfl⟩
  rw [← heb]
  obtain ⟨W2, hW2⟩ : ∃ W2, W2 = W1.alloc (.cells xs 39) := ⟨_, rfl⟩
  rw [← hW2] at HB HY HF ⊢
  clear hW2 heb hsz HBR
  have HX := Lib.hid (Blk.new W2 42 (exC ++ exT).toArray)
  replace HB := Lib.hid (Blk.alloc HB.out (.cells (exC ++ exT).toArray 42))
  replace HY := Lib.hid (HY.out.alloc HY.out.size (.cells (exC ++ exT).toArray 42))
  replace HF := Lib.hid (HF.out.alloc (.cells (exC ++ exT).toArray 42))
  obtain ⟨xb, hxb⟩ : ∃ xb, xb = W2.heap.size := ⟨_, rfl⟩
  rw [← hxb] at HX ⊢
  obtain ⟨W3, hW3⟩ : ∃ W3, W3 = W2.alloc (.cells (exC ++ exT).toArray 42) := ⟨_, rfl⟩
  rw [← hW3] at HB HY HF HX ⊢
  clear hW3 hxb
  go_upto_region 4 with (fail)
  replace HB := Lib.hid (Blk.alloc HB.out (.cells #[.slice none 0 0, .slice none 0 0, .slice none 0 0, .bool false, .slice (some ⟨xb, 0, none⟩) 1 1] 27))
  replace HY := Lib.hid (HY.out.alloc HY.out.size (.cells #[.slice none 0 0, .slice none 0 0, .slice none 0 0, .bool false, .slice (some ⟨xb, 0, none⟩) 1 1] 27))
  replace HF := Lib.hid (HF.out.alloc (.cells #[.slice none 0 0, .slice none 0 0, .slice none 0 0, .bool false, .slice (some ⟨xb, 0, none⟩) 1 1] 27))
  replace HX := Lib.hid (Blk.alloc HX.out (.cells #[.slice none 0 0, .slice none 0 0, .slice none 0 0, .bool false, .slice (some ⟨xb, 0, none⟩) 1 1] 27))
  have HG := Lib.hid (Blk.new W3 27 #[.slice none 0 0, .slice none 0 0, .slice none 0 0, .bool false, .slice (some ⟨xb, 0, none⟩) 1 1])
  obtain ⟨gb, hgb⟩ : ∃ gb, gb = W3.heap.size := ⟨_, rfl⟩
  rw [← hgb] at HG ⊢
  obtain ⟨W4, hW4⟩ : ∃ W4, W4 = W3.alloc (.cells #[.slice none 0 0, .slice none 0 0, .slice none 0 0, .bool false, .slice (some ⟨xb, 0, none⟩) 1 1] 27) := ⟨_, rfl⟩
  rw [← hW4] at HB HY HF HX HG ⊢
  clear hW4 hgb
  have g0 := Blk.cell HG.out 0
  have g1 := Blk.cell HG.out 1
  have g2 := Blk.cell HG.out 2
  have g3 := Blk.cell HG.out 3
  have g4 := Blk.cell HG.out 4
  simp at g0 g1 g2 g3 g4
  have HAV := Lib.hid (arc_any (ex_rds HX.out) (by decide) (.slice none 0 0) (.slice none 0 0) (.slice none 0 0) (.bool false) (R := []) (Reads.nil _ _ none 0 (Nat.zero_le _)) 741078)
  go_wp2_with fail
  refine HAV.out.mono ?_
  rintro r we ⟨code, idx, l, Ae, ce, hso, hex, rfl, hov, y⟩
  clear HAV g0 g1 g2 g3 g4
  have h0 : code = 0 := hex (by trivial) ex_all (by trivial) (by decide) (by decide)
  subst h0
  obtain ⟨rfl, rfl⟩ : idx = 0 ∧ l = [] := by
    rcases hso with ⟨h1, _⟩ | ⟨_, h2, _, _, h3⟩
    · exact absurd rfl h1
    · exact ⟨h2, h3.trans ex_vis_early⟩
  clear hso hex
  replace HB := Lib.hid (Blk.on HB.out y)
  replace HY := Lib.hid (HY.out.trans (y.mono HY.out.size))
  replace HF := Lib.hid (HF.out.on y)
  replace HX := Lib.hid (Blk.on HX.out y)
  replace HG := Lib.hid (Blk.on HG.out y)
  clear y
  clear hov
  have Le := Lib.hid (HF.out.lt)
  replace HB := Lib.hid (Blk.alloc HB.out (.cells #[.int .i64 0, .int .i64 0] 29))
  replace HY := Lib.hid (HY.out.alloc HY.out.size (.cells #[.int .i64 0, .int .i64 0] 29))
  replace HF := Lib.hid (HF.out.alloc (.cells #[.int .i64 0, .int .i64 0] 29))
  replace HX := Lib.hid (Blk.alloc HX.out (.cells #[.int .i64 0, .int .i64 0] 29))
  replace HG := Lib.hid (Blk.alloc HG.out (.cells #[.int .i64 0, .int .i64 0] 29))
  have HF2 := Lib.hid (Two.new we 29 (.int .i64 0) (.int .i64 0))
  go_upto_region 5 with (fail)
  obtain ⟨fb2, hfb⟩ : ∃ fb2, fb2 = we.heap.size := ⟨_, rfl⟩
  rw [← hfb] at HF2 Le ⊢
  clear hfb
  obtain ⟨W5, hW5⟩ : ∃ W5, W5 = we.alloc (.cells #[.int .i64 0, .int .i64 0] 29) := ⟨_, rfl⟩
  rw [← hW5] at HB HY HF HX HG HF2 ⊢
  clear hW5
  have g0 := Blk.cell HG.out 0
  have g1 := Blk.cell HG.out 1
  have g2 := Blk.cell HG.out 2
  have g3 := Blk.cell HG.out 3
  have g4 := Blk.cell HG.out 4
  simp at g0 g1 g2 g3 g4
  have HAV := Lib.hid (arc_any (ex_rds HX.out) (by decide) (.slice none 0 0) (.slice none 0 0) (.slice none 0 0) (.bool false) (R := []) (Reads.nil _ _ none 0 (Nat.zero_le _)) 741079)
  go_wp2_with fail
  refine HAV.out.mono ?_
  rintro r wl ⟨code, idx, l, Al, cl, hso, hex, rfl, hov, y⟩
  clear HAV g0 g1 g2 g3 g4
  have h0 : code = 0 := hex (by trivial) ex_all (by trivial) (by decide) (by decide)
  subst h0
  obtain ⟨rfl, rfl⟩ : idx = 0 ∧ l = [0] := by
    rcases hso with ⟨h1, _⟩ | ⟨_, h2, _, _, h3⟩
    · exact absurd rfl h1
    · exact ⟨h2, h3.trans ex_vis_late⟩
  clear hso hex
  replace HB := Lib.hid (Blk.on HB.out y)
  replace HY := Lib.hid (HY.out.trans (y.mono HY.out.size))
  replace HF := Lib.hid (HF.out.on y)
  replace HX := Lib.hid (Blk.on HX.out y)
  replace HG := Lib.hid (Blk.on HG.out y)
  replace HF2 := Lib.hid (HF2.out.on y)
  clear y
  have HL := Lib.hid (Rd.own hov)
  clear hov
  have Ll := Lib.hid (HF2.out.lt)
  replace HB := Lib.hid (Blk.alloc HB.out (.cells #[.int .i64 0, .int .i64 0] 29))
  replace HY := Lib.hid (HY.out.alloc HY.out.size (.cells #[.int .i64 0, .int .i64 0] 29))
  replace HF := Lib.hid (HF.out.alloc (.cells #[.int .i64 0, .int .i64 0] 29))
  replace HX := Lib.hid (Blk.alloc HX.out (.cells #[.int .i64 0, .int .i64 0] 29))
  replace HG := Lib.hid (Blk.alloc HG.out (.cells #[.int .i64 0, .int .i64 0] 29))
  replace HF2 := Lib.hid (HF2.out.alloc (.cells #[.int .i64 0, .int .i64 0] 29))
  replace HL := Lib.hid (Rd.alloc HL.out (.cells #[.int .i64 0, .int .i64 0] 29))
  have HF3 := Lib.hid (Two.new wl 29 (.int .i64 0) (.int .i64 0))
  go_upto_region 6 with (fail)
  obtain ⟨fb3, hfb⟩ : ∃ fb3, fb3 = wl.heap.size := ⟨_, rfl⟩
  rw [← hfb] at HF3 Ll ⊢
  clear hfb
  obtain ⟨W6, hW6⟩ : ∃ W6, W6 = wl.alloc (.cells #[.int .i64 0, .int .i64 0] 29) := ⟨_, rfl⟩
  rw [← hW6] at HB HY HF HX HG HF2 HL HF3 ⊢
  clear hW6
  have a0 := HF.out.c0
  have a1 := HF2.out.c0
  have a2 := HF3.out.c0
  have R1 : Rd (W6.alloc (.cells #[.int .i64 0] 3)) (some ⟨W6.heap.size, 0, none⟩) 1 1 (ncells [0]) := by
    refine ⟨rfl, Nat.le_refl _, by decide, fun _ => ⟨W6.heap.size, 0, rfl, by simp, fun j u hj => ?_⟩⟩
    rw [Nat.zero_add, Blk.cell (Blk.new W6 3 #[.int .i64 0]) j]
    simpa [ncells] using hj
  have HIN := Lib.hid (ints_same (Rd.alloc HL.out (.cells #[.int .i64 0] 3)) R1)
  clear R1
  clear HX HG HL
  go_wp2_with fail
  refine HIN.out.mono ?_
  rintro r w7 ⟨rfl, y⟩
  clear HIN a0 a1 a2
  have y := Below.trans ((Below.refl W6.heap.size W6).alloc (Nat.le_refl _) (.cells #[.int .i64 0] 3)) (y.mono (by simp))
  replace HB := Lib.hid (Blk.on HB.out y)
  replace HY := Lib.hid (HY.out.trans (y.mono HY.out.size))
  replace HF := Lib.hid (HF.out.on y)
  replace HF2 := Lib.hid (HF2.out.on y)
  replace HF3 := Lib.hid (HF3.out.on y)
  clear y
  have b4 := Blk.cell HB.out 4
  simp at b4
  have HRI := Lib.hid (rin_any q 0 ((rs.length : Int) - 1) _ rfl w7)
  obtain ⟨bi, hbi⟩ : ∃ bi, bi = decide ((0 : Int) ≤ q ∧ q ≤ (rs.length : Int) - 1) := ⟨_, rfl⟩
  rw [← hbi] at HRI
  have HBI := Lib.hid hbi
  clear hbi
  go_wp2_with fail
  refine HRI.out.mono ?_
  rintro r w7 ⟨rfl, rfl⟩
  clear HRI b4
  cases bi
  · go_wp2
    go_ret
    exact ⟨rfl, HY.out⟩
  · obtain ⟨k, rfl⟩ : ∃ k : Nat, q = (k : Nat) := ⟨q.toNat, by have := of_decide_eq_true HBI.out.symm; omega⟩
    have hlt : k < rs.length := by have := of_decide_eq_true HBI.out.symm; omega
    clear HBI HI
    have hRr := H0.out.on HY.out
    have hxa := hRr.is k hlt
    have hra := hRr.at k hlt
    obtain ⟨x, hxk⟩ : ∃ x, rs[k]? = some x := ⟨_, List.getElem?_eq_getElem hlt⟩
    rw [show rs[k] = x from by rw [List.getElem?_eq_getElem hlt] at hxk; injection hxk] at hxa hra
    obtain ⟨e, et⟩ := x
    obtain ⟨hx, hx3, hx1⟩ := hxa
    obtain ⟨g, off, rfl, hg, q1⟩ := hra
    dsimp only at hx hx3 hx1 q1
    have q2 : w7.rangeAt g (off + k * 79) e.cs := fun j v hv => q1 j v (by rw [List.getElem?_append_left (List.getElem?_eq_some_iff.1 hv).1]; exact hv)
    have HLD := Lib.hid (ent_load q2 hx.len)
    have hst := ent_scells w7 hZ hx.len hx.one
    have hsz : e.cs.toArray.size = 76 := by simpa using hx.len
    have b4 := Blk.cell HB.out 4
    simp at b4
    have HXI := Lib.hid hx
    have HEB := Lib.hid (Blk.new w7 39 e.cs.toArray)
    have HLT := Lib.hid hlt
    have HXK := Lib.hid hxk
    obtain ⟨xs, hxs⟩ : ∃ xs, xs = e.cs.toArray := ⟨_, rfl⟩
    rw [← hxs] at HLD hst hsz HEB
    have HXS := Lib.hid hxs
    have i1 : (0 : Int) ≤ (k : Int) := by omega
    have i2 : (k : Int) < (rs.length : Int) := by omega
    clear hxs hxk hx hx3 hx1 q1 q2 hRr
    go_upto_region 10 with (fail)
    iterate 17 go_step
    refine wp_load_run _ _ rfl rfl HLD.out ?_
    clear HLD
    replace HB := Lib.hid (Blk.alloc HB.out (.cells xs 39))
    replace HY := Lib.hid (HY.out.alloc HY.out.size (.cells xs 39))
    replace HF := Lib.hid (HF.out.alloc (.cells xs 39))
    replace HF2 := Lib.hid (HF2.out.alloc (.cells xs 39))
    replace HF3 := Lib.hid (HF3.out.alloc (.cells xs 39))
    go_upto_region 11 with (fail)
    clear hst
    obtain ⟨nb, hnb⟩ : ∃ nb, nb = w7.heap.size := ⟨_, rfl⟩
    rw [← hnb] at HEB ⊢
    clear hnb
    obtain ⟨W8, hW8⟩ : ∃ W8, W8 = w7.alloc (.cells xs 39) := ⟨_, rfl⟩
    replace HXI := Lib.hid (HXI.out.alloc (.cells xs 39))
    rw [← hW8] at HB HY HF HF2 HF3 HEB HXI ⊢
    clear hW8
    obtain ⟨p0, p1, p2, p3, p4, p37, p38, p39, p40, p41, p42, p75⟩ := ecellsx HXS.out HEB.out HXI.out
    clear p0 p1 p2 p3 p4 p37 p40 p41 p42 p75 b4
    by_cases hg4 : 4 < e.gN
    · go_wp2_with fail
      go_ret
      exact ⟨rfl, HY.out⟩
    · have HDV := Lib.hid (sub_one HXI.out.wemb)
      clear y
      go_upto_region 14 with (fail)
      obtain ⟨dv, hdv⟩ : ∃ dv, dv = wrap64 (e.emb - 1) := ⟨_, rfl⟩
      rw [← hdv] at HDV ⊢
      clear hdv
      have LN := Lib.hid (HY.out.size)
      replace HB := Lib.hid (Blk.alloc HB.out (.cells #[.slice e.gA e.gN e.gC, .int .i64 dv] 46))
      replace HY := Lib.hid (HY.out.alloc HY.out.size (.cells #[.slice e.gA e.gN e.gC, .int .i64 dv] 46))
      replace HF := Lib.hid (HF.out.alloc (.cells #[.slice e.gA e.gN e.gC, .int .i64 dv] 46))
      replace HF2 := Lib.hid (HF2.out.alloc (.cells #[.slice e.gA e.gN e.gC, .int .i64 dv] 46))
      replace HF3 := Lib.hid (HF3.out.alloc (.cells #[.slice e.gA e.gN e.gC, .int .i64 dv] 46))
      replace HEB := Lib.hid (Blk.alloc HEB.out (.cells #[.slice e.gA e.gN e.gC, .int .i64 dv] 46))
      have HR := Lib.hid (Two.new W8 46 (.slice e.gA e.gN e.gC) (.int .i64 dv))
      replace HXI := Lib.hid (HXI.out.alloc (.cells #[.slice e.gA e.gN e.gC, .int .i64 dv] 46))
      obtain ⟨db, hdb⟩ : ∃ db, db = W8.heap.size := ⟨_, rfl⟩
      rw [← hdb] at HR ⊢
      have HDB := Lib.hid hdb
      obtain ⟨W9, hW9⟩ : ∃ W9, W9 = W8.alloc (.cells #[.slice e.gA e.gN e.gC, .int .i64 dv] 46) := ⟨_, rfl⟩
      rw [← hW9] at HB HY HF HF2 HF3 HEB HR HXI ⊢
      clear hW9 hdb p38 p39
      have g0 := Blk.cell HB.out 0
      have g1 := Blk.cell HB.out 1
      have g2 := Blk.cell HB.out 2
      have g3 := Blk.cell HB.out 3
      have g4 := Blk.cell HB.out 4
      simp at g0 g1 g2 g3 g4
      have x0 := HR.out.c0
      have x1 := HR.out.c1
      obtain ⟨f0, f1, f2, f3, f4⟩ := HF2.out.facts
      have HAV := Lib.hid (arc_any (H0.out.on HY.out) hroom v0 v1 v2 v3 HXI.out.grp dv)
      go_wp2_with fail
      refine HAV.out.mono ?_
      rintro r wv ⟨code1, idx1, l1, B1, d1, hso, hex, rfl, hov, y⟩
      clear HAV g0 g1 g2 g3 g4 x0 x1 f0 f1 f2 f3 f4 hex
      have HSO1 := Lib.hid hso
      clear hso
      have LW1 := Lib.hid HF.out.lt
      have LW2 := Lib.hid HF2.out.lt
      have LW3 := Lib.hid HF3.out.lt
      have LWd := Lib.hid HR.out.lt
      have LWn := Lib.hid (Blk.lt HEB.out)
      replace HB := Lib.hid (Blk.on HB.out y)
      replace HY := Lib.hid (HY.out.trans (y.mono HY.out.size))
      replace HF := Lib.hid (HF.out.on y)
      replace HF2 := Lib.hid (HF2.out.on y)
      replace HF3 := Lib.hid (HF3.out.on y)
      replace HEB := Lib.hid (Blk.on HEB.out y)
      replace HR := Lib.hid (HR.out.on y)
      clear y
      have HO1 := Lib.hid hov
      clear hov
      have HDB9 := Lib.hid (show w.heap.size ≤ db by have := HDB.out; have := HRB.out; have := LWn.out; have := LN.out; omega)
      obtain ⟨f0, f1, f2, f3, f4⟩ := HF2.out.facts
      go_upto_region 15 with (fail)
      clear f0 f1 f2 f3 f4
      replace HB := Lib.hid (Blk.far HB.out (p := ⟨fb2, 0, none⟩) (Blk.ne_ HB.out HF2.out (by decide)) (.int .i64 code1))
      replace HY := Lib.hid (HY.out.setCell (p := ⟨fb2, 0, none⟩) (by have := HRB.out; have := L0.out; have := Le.out; have := Ll.out; have := HDB9.out; dsimp only; omega) (.int .i64 code1))
      replace HF := Lib.hid (HF.out.far (p := ⟨fb2, 0, none⟩) (by have := L0.out; have := Le.out; have := Ll.out; dsimp only; omega) (.int .i64 code1))
      replace HF3 := Lib.hid (HF3.out.far (p := ⟨fb2, 0, none⟩) (by have := L0.out; have := Le.out; have := Ll.out; dsimp only; omega) (.int .i64 code1))
      replace HEB := Lib.hid (Blk.far HEB.out (p := ⟨fb2, 0, none⟩) (Blk.ne_ HEB.out HF2.out (by decide)) (.int .i64 code1))
      replace HR := Lib.hid (HR.out.far (p := ⟨fb2, 0, none⟩) (Blk.ne_ HR.out HF2.out (by decide)) (.int .i64 code1))
      replace HO1 := Lib.hid (own_far_any HO1.out (p := ⟨fb2, 0, none⟩) (fun e => by have := (HO1.out.lt _ e).1; have := LW1.out; have := LW2.out; have := LW3.out; have := LWd.out; dsimp only at *; omega) (.int .i64 code1))
      replace HF2 := Lib.hid (HF2.out.set0 (.int .i64 code1))
      replace HB := Lib.hid (Blk.far HB.out (p := ⟨fb2, 1, none⟩) (Blk.ne_ HB.out HF2.out (by decide)) (.int .i64 idx1))
      replace HY := Lib.hid (HY.out.setCell (p := ⟨fb2, 1, none⟩) (by have := HRB.out; have := L0.out; have := Le.out; have := Ll.out; have := HDB9.out; dsimp only; omega) (.int .i64 idx1))
      replace HF := Lib.hid (HF.out.far (p := ⟨fb2, 1, none⟩) (by have := L0.out; have := Le.out; have := Ll.out; dsimp only; omega) (.int .i64 idx1))
      replace HF3 := Lib.hid (HF3.out.far (p := ⟨fb2, 1, none⟩) (by have := L0.out; have := Le.out; have := Ll.out; dsimp only; omega) (.int .i64 idx1))
      replace HEB := Lib.hid (Blk.far HEB.out (p := ⟨fb2, 1, none⟩) (Blk.ne_ HEB.out HF2.out (by decide)) (.int .i64 idx1))
      replace HR := Lib.hid (HR.out.far (p := ⟨fb2, 1, none⟩) (Blk.ne_ HR.out HF2.out (by decide)) (.int .i64 idx1))
      replace HO1 := Lib.hid (own_far_any HO1.out (p := ⟨fb2, 1, none⟩) (fun e => by have := (HO1.out.lt _ e).1; have := LW1.out; have := LW2.out; have := LW3.out; have := LWd.out; dsimp only at *; omega) (.int .i64 idx1))
      replace HF2 := Lib.hid (HF2.out.set1 (.int .i64 idx1))
      obtain ⟨W10, hW10⟩ : ∃ W10, W10 = (wv.setCell ⟨fb2, 0, none⟩ (.int .i64 code1)).setCell ⟨fb2, 1, none⟩ (.int .i64 idx1) := ⟨_, rfl⟩
      rw [← hW10] at HB HY HF HF2 HF3 HEB HR HO1 ⊢
      clear hW10
      obtain ⟨p0, p1, p2, p3, p4, p37, p38, p39, p40, p41, p42, p75⟩ := ecellsx HXS.out HEB.out (is_of (H0.out.on HY.out) HXK.out)
      clear p0 p1 p2 p3 p4 p37 p38 p40 p41 p42 p75
      have HAM := Lib.hid (add_any e.emb mo W10)
      go_wp2_with fail
      refine HAM.out.mono ?_
      rintro r wa ⟨r2, code2, idx2, hadd, rfl, y⟩
      have HADD := Lib.hid hadd
      clear hadd HAM p39
      replace HB := Lib.hid (Blk.on HB.out y)
      replace HY := Lib.hid (HY.out.trans (y.mono HY.out.size))
      replace HF := Lib.hid (HF.out.on y)
      replace HF2 := Lib.hid (HF2.out.on y)
      replace HF3 := Lib.hid (HF3.out.on y)
      replace HEB := Lib.hid (Blk.on HEB.out y)
      replace HR := Lib.hid (HR.out.on y)
      replace HO1 := Lib.hid (own_on HO1.out y)
      clear y
      obtain ⟨f0, f1, f2, f3, f4⟩ := HF3.out.facts
      obtain ⟨x0, x1, x2, x3, x4⟩ := HR.out.facts
      have hne := Blk.ne_ HR.out HF3.out (by decide)
      have hne2 := hne.symm
      go_upto_region 16 with (fail)
      clear f0 f1 f2 f3 f4 x0 x1 x2 x3 x4 hne hne2
      replace HB := Lib.hid (Blk.far HB.out (p := ⟨db, 1, none⟩) (Blk.ne_ HB.out HR.out (by decide)) (.int .i64 r2))
      replace HY := Lib.hid (HY.out.setCell (p := ⟨db, 1, none⟩) (by have := HRB.out; have := L0.out; have := Le.out; have := Ll.out; have := HDB9.out; dsimp only; omega) (.int .i64 r2))
      replace HF := Lib.hid (HF.out.far (p := ⟨db, 1, none⟩) (Blk.ne_ HF.out HR.out (by decide)) (.int .i64 r2))
      replace HF2 := Lib.hid (HF2.out.far (p := ⟨db, 1, none⟩) (Blk.ne_ HF2.out HR.out (by decide)) (.int .i64 r2))
      replace HF3 := Lib.hid (HF3.out.far (p := ⟨db, 1, none⟩) (Blk.ne_ HF3.out HR.out (by decide)) (.int .i64 r2))
      replace HEB := Lib.hid (Blk.far HEB.out (p := ⟨db, 1, none⟩) (Blk.ne_ HEB.out HR.out (by decide)) (.int .i64 r2))
      replace HO1 := Lib.hid (own_far_any HO1.out (p := ⟨db, 1, none⟩) (fun e => by have := (HO1.out.lt _ e).1; have := LW1.out; have := LW2.out; have := LW3.out; have := LWd.out; dsimp only at *; omega) (.int .i64 r2))
      replace HR := Lib.hid (HR.out.set1 (.int .i64 r2))
      replace HB := Lib.hid (Blk.far HB.out (p := ⟨fb3, 0, none⟩) (Blk.ne_ HB.out HF3.out (by decide)) (.int .i64 code2))
      replace HY := Lib.hid (HY.out.setCell (p := ⟨fb3, 0, none⟩) (by have := HRB.out; have := L0.out; have := Le.out; have := Ll.out; have := HDB9.out; dsimp only; omega) (.int .i64 code2))
      replace HF := Lib.hid (HF.out.far (p := ⟨fb3, 0, none⟩) (by have := L0.out; have := Le.out; have := Ll.out; dsimp only; omega) (.int .i64 code2))
      replace HF2 := Lib.hid (HF2.out.far (p := ⟨fb3, 0, none⟩) (by have := L0.out; have := Le.out; have := Ll.out; dsimp only; omega) (.int .i64 code2))
      replace HEB := Lib.hid (Blk.far HEB.out (p := ⟨fb3, 0, none⟩) (Blk.ne_ HEB.out HF3.out (by decide)) (.int .i64 code2))
      replace HR := Lib.hid (HR.out.far (p := ⟨fb3, 0, none⟩) (Blk.ne_ HR.out HF3.out (by decide)) (.int .i64 code2))
      replace HO1 := Lib.hid (own_far_any HO1.out (p := ⟨fb3, 0, none⟩) (fun e => by have := (HO1.out.lt _ e).1; have := LW1.out; have := LW2.out; have := LW3.out; have := LWd.out; dsimp only at *; omega) (.int .i64 code2))
      replace HF3 := Lib.hid (HF3.out.set0 (.int .i64 code2))
      replace HB := Lib.hid (Blk.far HB.out (p := ⟨fb3, 1, none⟩) (Blk.ne_ HB.out HF3.out (by decide)) (.int .i64 idx2))
      replace HY := Lib.hid (HY.out.setCell (p := ⟨fb3, 1, none⟩) (by have := HRB.out; have := L0.out; have := Le.out; have := Ll.out; have := HDB9.out; dsimp only; omega) (.int .i64 idx2))
      replace HF := Lib.hid (HF.out.far (p := ⟨fb3, 1, none⟩) (by have := L0.out; have := Le.out; have := Ll.out; dsimp only; omega) (.int .i64 idx2))
      replace HF2 := Lib.hid (HF2.out.far (p := ⟨fb3, 1, none⟩) (by have := L0.out; have := Le.out; have := Ll.out; dsimp only; omega) (.int .i64 idx2))
      replace HEB := Lib.hid (Blk.far HEB.out (p := ⟨fb3, 1, none⟩) (Blk.ne_ HEB.out HF3.out (by decide)) (.int .i64 idx2))
      replace HR := Lib.hid (HR.out.far (p := ⟨fb3, 1, none⟩) (Blk.ne_ HR.out HF3.out (by decide)) (.int .i64 idx2))
      replace HO1 := Lib.hid (own_far_any HO1.out (p := ⟨fb3, 1, none⟩) (fun e => by have := (HO1.out.lt _ e).1; have := LW1.out; have := LW2.out; have := LW3.out; have := LWd.out; dsimp only at *; omega) (.int .i64 idx2))
      replace HF3 := Lib.hid (HF3.out.set1 (.int .i64 idx2))
      obtain ⟨W11, hW11⟩ : ∃ W11, W11 = ((wa.setCell ⟨db, 1, none⟩ (.int .i64 r2)).setCell ⟨fb3, 0, none⟩ (.int .i64 code2)).setCell ⟨fb3, 1, none⟩ (.int .i64 idx2) := ⟨_, rfl⟩
      rw [← hW11] at HB HY HF HF2 HF3 HEB HR HO1 ⊢
      clear hW11
      replace HXI := Lib.hid (is_of (H0.out.on HY.out) HXK.out)
      have g0 := Blk.cell HB.out 0
      have g1 := Blk.cell HB.out 1
      have g2 := Blk.cell HB.out 2
      have g3 := Blk.cell HB.out 3
      have g4 := Blk.cell HB.out 4
      simp at g0 g1 g2 g3 g4
      have x0 := HR.out.c0
      have x1 := HR.out.c1
      obtain ⟨f0, f1, f2, f3, f4⟩ := HF.out.facts
      have HAV := Lib.hid (arc_any (H0.out.on HY.out) hroom v0 v1 v2 v3 HXI.out.grp r2)
      go_wp2_with fail
      refine HAV.out.mono ?_
      rintro r wv ⟨code3, idx3, l3, B3, d3, hso, hex, rfl, hov, y⟩
      clear HAV g0 g1 g2 g3 g4 x0 x1 f0 f1 f2 f3 f4 hex
      have HSO3 := Lib.hid hso
      clear hso
      have LX1 := Lib.hid HF.out.lt
      replace HB := Lib.hid (Blk.on HB.out y)
      replace HY := Lib.hid (HY.out.trans (y.mono HY.out.size))
      replace HF := Lib.hid (HF.out.on y)
      replace HF2 := Lib.hid (HF2.out.on y)
      replace HF3 := Lib.hid (HF3.out.on y)
      replace HEB := Lib.hid (Blk.on HEB.out y)
      replace HR := Lib.hid (HR.out.on y)
      replace HO1 := Lib.hid (own_on HO1.out y)
      clear y
      have HO2 := Lib.hid hov
      clear hov
      obtain ⟨f0, f1, f2, f3, f4⟩ := HF.out.facts
      go_upto_region 17 with (fail)
      clear f0 f1 f2 f3 f4
      replace HB := Lib.hid (Blk.far HB.out (p := ⟨fb, 0, none⟩) (Blk.ne_ HB.out HF.out (by decide)) (.int .i64 code3))
      replace HY := Lib.hid (HY.out.setCell (p := ⟨fb, 0, none⟩) (by have := HRB.out; have := L0.out; have := Le.out; have := Ll.out; have := HDB9.out; dsimp only; omega) (.int .i64 code3))
      replace HF2 := Lib.hid (HF2.out.far (p := ⟨fb, 0, none⟩) (by have := L0.out; have := Le.out; have := Ll.out; dsimp only; omega) (.int .i64 code3))
      replace HF3 := Lib.hid (HF3.out.far (p := ⟨fb, 0, none⟩) (by have := L0.out; have := Le.out; have := Ll.out; dsimp only; omega) (.int .i64 code3))
      replace HEB := Lib.hid (Blk.far HEB.out (p := ⟨fb, 0, none⟩) (Blk.ne_ HEB.out HF.out (by decide)) (.int .i64 code3))
      replace HR := Lib.hid (HR.out.far (p := ⟨fb, 0, none⟩) (Blk.ne_ HR.out HF.out (by decide)) (.int .i64 code3))
      replace HO1 := Lib.hid (own_far_any HO1.out (p := ⟨fb, 0, none⟩) (fun e => by have := (HO1.out.lt _ e).1; have := LW1.out; have := LW2.out; have := LW3.out; have := LWd.out; dsimp only at *; omega) (.int .i64 code3))
      replace HO2 := Lib.hid (own_far_any HO2.out (p := ⟨fb, 0, none⟩) (fun e => by have := (HO2.out.lt _ e).1; have := LX1.out; have := LW1.out; have := LW2.out; have := LW3.out; have := LWd.out; dsimp only at *; omega) (.int .i64 code3))
      replace HF := Lib.hid (HF.out.set0 (.int .i64 code3))
      replace HB := Lib.hid (Blk.far HB.out (p := ⟨fb, 1, none⟩) (Blk.ne_ HB.out HF.out (by decide)) (.int .i64 idx3))
      replace HY := Lib.hid (HY.out.setCell (p := ⟨fb, 1, none⟩) (by have := HRB.out; have := L0.out; have := Le.out; have := Ll.out; have := HDB9.out; dsimp only; omega) (.int .i64 idx3))
      replace HF2 := Lib.hid (HF2.out.far (p := ⟨fb, 1, none⟩) (by have := L0.out; have := Le.out; have := Ll.out; dsimp only; omega) (.int .i64 idx3))
      replace HF3 := Lib.hid (HF3.out.far (p := ⟨fb, 1, none⟩) (by have := L0.out; have := Le.out; have := Ll.out; dsimp only; omega) (.int .i64 idx3))
      replace HEB := Lib.hid (Blk.far HEB.out (p := ⟨fb, 1, none⟩) (Blk.ne_ HEB.out HF.out (by decide)) (.int .i64 idx3))
      replace HR := Lib.hid (HR.out.far (p := ⟨fb, 1, none⟩) (Blk.ne_ HR.out HF.out (by decide)) (.int .i64 idx3))
      replace HO1 := Lib.hid (own_far_any HO1.out (p := ⟨fb, 1, none⟩) (fun e => by have := (HO1.out.lt _ e).1; have := LW1.out; have := LW2.out; have := LW3.out; have := LWd.out; dsimp only at *; omega) (.int .i64 idx3))
      replace HO2 := Lib.hid (own_far_any HO2.out (p := ⟨fb, 1, none⟩) (fun e => by have := (HO2.out.lt _ e).1; have := LX1.out; have := LW1.out; have := LW2.out; have := LW3.out; have := LWd.out; dsimp only at *; omega) (.int .i64 idx3))
      replace HF := Lib.hid (HF.out.set1 (.int .i64 idx3))
      obtain ⟨Wf, hWf⟩ : ∃ Wf, Wf = (wv.setCell ⟨fb, 0, none⟩ (.int .i64 code3)).setCell ⟨fb, 1, none⟩ (.int .i64 idx3) := ⟨_, rfl⟩
      rw [← hWf] at HB HY HF HF2 HF3 HEB HR HO1 HO2 ⊢
      clear hWf
      have hel : (ents rs)[k]? = some e := by unfold ents; rw [List.getElem?_map, HXK.out]; rfl
      have hkl : k < (ents rs).length := (List.getElem?_eq_some_iff.1 hel).1
      have hee : (ents rs)[k] = e := (List.getElem?_eq_some_iff.1 hel).2
      have HN1 := Lib.hid (not_early HSO1.out hkl hee HDV.out)
      have HN2 := Lib.hid (late_in HSO3.out hkl hee HXI.out)
      have R1 := Rd.own HO1.out
      have R2 := Rd.own HO2.out
      have hq1 := Reads.cap R1
      have hq2 := Reads.capMax R1
      have hq3 := Reads.cap R2
      have hq4 := Reads.capMax R2
      unfold maxLen at hq2 hq4
      have HR1 := Lib.hid R1
      have HR2 := Lib.hid R2
      have f0 := HF.out.c0
      have h0 := HF3.out.c0
      clear hel hkl hee R1 R2
      go_wp2_with fail
      go_loopw [17] (fun iv wr => ∃ i : Nat, i ≤ l1.length ∧ iv = .int .i64 (i : Nat) ∧ wr = Wf) (fun iv _ => l1.length - (intOf iv).toNat)
      case atStart => exact ⟨0, Nat.zero_le _, rfl, rfl⟩
      case round =>
        obtain ⟨i, hi, rfl, rfl⟩ := hrel
        by_cases hil : i < l1.length
        · obtain ⟨b, off, rfl, hb, hc⟩ := HR1.out.2.2.2 (by omega)
          have q1 := hc i _ (ncells_get l1 i hil)
          have hne := HN1.out i hil
          obtain ⟨x, hx⟩ : ∃ x, x = l1.getD i 0 := ⟨_, rfl⟩
          rw [← hx] at q1 hne
          have hne2 : ((x : Int) == (k : Int)) = false := by rw [beq_eq_false_iff_ne]; omega
          have j1 : (0 : Int) ≤ (i : Int) := by omega
          have j2 : (i : Int) < (l1.length : Int) := by omega
          clear hx hc hne
          go_wp2_with fail
          go_roundw
          case rel => exact ⟨i + 1, by omega, by go_num, by first | rfl | trivial⟩
          case measure => simp [intOf] <;> omega
        · obtain rfl : i = l1.length := by omega
          by_cases hc2 : code2 = 0
          · have hc2' : (code2 != 0) = false := by simp [hc2]
            by_cases hc3 : code3 = 0
            · have hc3' : (code3 != 0) = false := by simp [hc3]
              by_cases hmo : mo < 0
              · go_wp2_with fail
                go_ret
                exact ⟨rfl, HY.out⟩
              · have HIN := Lib.hid (HN2.out hc3 (HADD.out hc2 (by omega)))
                clear hc2 hc3
                go_wp2_with fail
                go_loopw [18] (fun iv w9 => ∃ i : Nat, i ≤ l3.length ∧ iv = .int .i64 (i : Nat) ∧ w9 = wr ∧ ∀ j, j < i → l3.getD j 0 ≠ k) (fun iv _ => l3.length - (intOf iv).toNat)
                case atStart => exact ⟨0, Nat.zero_le _, rfl, rfl, fun j hj => by omega⟩
                case round =>
                  obtain ⟨i, hi, rfl, rfl, hno⟩ := hrel
                  have HNO := Lib.hid hno
                  clear hno
                  by_cases hil : i < l3.length
                  · obtain ⟨b, off, rfl, hb, hc⟩ := HR2.out.2.2.2 (by omega)
                    have q1 := hc i _ (ncells_get l3 i hil)
                    obtain ⟨x, hx⟩ : ∃ x, x = l3.getD i 0 := ⟨_, rfl⟩
                    rw [← hx] at q1
                    have HX := Lib.hid hx
                    have j1 : (0 : Int) ≤ (i : Int) := by omega
                    have j2 : (i : Int) < (l3.length : Int) := by omega
                    clear hx hc
                    by_cases hxk : x = k
                    · have hne2 : ((x : Int) == (k : Int)) = true := by simp [hxk]
                      go_wp2_with fail
                      go_ret
                      exact ⟨rfl, HY.out⟩
                    · have hne2 : ((x : Int) == (k : Int)) = false := by rw [beq_eq_false_iff_ne]; omega
                      have HXN := Lib.hid hxk
                      clear hxk
                      go_wp2_with fail
                      go_roundw
                      case rel =>
                        refine ⟨i + 1, by omega, by go_num, by first | rfl | trivial, fun j hj => ?_⟩
                        rcases (by omega : j < i ∨ j = i) with h1 | rfl
                        · exact HNO.out j h1
                        · rw [← HX.out]; exact HXN.out
                      case measure => simp [intOf] <;> omega
                  · obtain rfl : i = l3.length := by omega
                    exfalso
                    obtain ⟨j, hj, hjk⟩ := HIN.out
                    exact HNO.out j hj hjk
            · have hc3' : (code3 != 0) = true := by simpa using hc3
              go_wp2_with fail
              go_ret
              exact ⟨rfl, HY.out⟩
          · have hc2' : (code2 != 0) = true := by simpa using hc2
            go_wp2_with fail
            go_ret
            exact ⟨rfl, HY.out⟩
end PB
end Go.Proofs.Ytgbabhihmbeogaa
