/-
  The step functions that collect what is predicted: of model.Predict, and of a law.
-/
import Derived.Test.YtmkkbedbgkhbpaaMdWalk
namespace Go.Proofs.Ytmkkbedbgkhbpaa
open Go.RowKit
attribute [local go_sem ↓] Go.wp_at_zero Go.wp_at_succ
set_option linter.unusedVariables false
set_option linter.unusedSimpArgs false
namespace PB
/-- What is predicted ahead of each bit of a list. -/
def preds (ord : Nat) (l : List Nat) : List Nat := (List.range l.length).map fun i => predv l i ord
theorem preds_length (ord : Nat) (l : List Nat) : (preds ord l).length = l.length := by simp [preds]
theorem preds_snoc (ord : Nat) (l : List Nat) (b : Nat) : preds ord (l ++ [b]) = preds ord l ++ [predv l l.length ord] := by
  unfold preds
  rw [List.length_append, List.length_singleton, List.range_succ, List.map_append, List.map_singleton]
  congr 1
  · refine List.map_congr_left fun i hi => ?_
    exact predv_append l [b] i ord (by rw [List.mem_range] at hi; omega)
  · rw [predv_append l [b] _ ord (Nat.le_refl _)]
/-- The step function's own state behind some calls: what it has collected, and what it reads. -/
structure Col (B ob hb lb : Nat) (w0 : World) (A : Option Addr) (n c : Nat) (xs : List Int) (hl : Bool) (last : Int) (P : List Nat) (w : World) : Prop where
  out : ∃ Ao co, One w ob 22 (.slice Ao P.length co) ∧ w.ownsRow (ob + 1) 3 1 (.slice Ao P.length co) P.length (ncells P)
  hist : One w hb 22 (.slice A n c)
  lst : hl = true → One w lb 3 (.int .i64 last) ∧ lb < ob ∧ B ≤ lb
  rd : Reads w B A n c (icells xs)
  bel : Below B w0 w
  hob : B ≤ ob
  hhb : B ≤ hb
  ne : ob ≠ hb
section
variable {B ob hb lb : Nat} {w0 w w' : World} {A : Option Addr} {n c : Nat} {xs : List Int} {hl : Bool} {last : Int} {P : List Nat}
theorem Col.on (h : Col B ob hb lb w0 A n c xs hl last P w) (hw : Below w.heap.size w w') : Col B ob hb lb w0 A n c xs hl last P w' := by
  obtain ⟨⟨Ao, co, h1, h2⟩, h3, hls, h4, h5, h6, h7, h8⟩ := h
  have hB : B ≤ w.heap.size := Nat.le_trans h6 (Nat.le_of_lt h1.lt)
  exact ⟨⟨Ao, co, h1.on hw, own_on h2 hw⟩, h3.on hw, fun e => ⟨(hls e).1.on hw, (hls e).2⟩, h4.below (hw.mono hB), h5.trans (hw.mono hB), h6, h7, h8⟩
theorem Col.but2 (h : Col B ob hb lb w0 A n c xs hl last P w) {s b : Nat} (hw : But2 s b w w') (hs : B ≤ s) (hb2 : B ≤ b) (hs1 : ∃ t cs, Blk w s t cs ∧ t ≠ 22 ∧ t ≠ 3) (hb1 : (∃ es clock, w.heap[b]? = some (Obj.map es clock)) ∨ b = s) : Col B ob hb lb w0 A n c xs hl last P w' := by
  obtain ⟨⟨Ao, co, h1, h2⟩, h3, hls, h4, h5, h6, h7, h8⟩ := h
  obtain ⟨t, cs, hsb, ht1, ht2⟩ := hs1
  have nb : ∀ (g : Nat) (u : TypeId) (vs : Array Value), Blk w g u vs → u ≠ t → g ≠ s ∧ g ≠ b := by
    intro g u vs hg hu
    have k1 := Blk.ne_ hg hsb hu
    refine ⟨k1, ?_⟩
    rcases hb1 with ⟨es, clock, hm⟩ | rfl
    · rintro rfl
      unfold Blk at hg
      rw [hg] at hm
      cases hm
    · exact k1
  have hB : B ≤ w.heap.size := Nat.le_trans h6 (Nat.le_of_lt h1.lt)
  have hbl : Below B w w' := hw.below hs hb2 hB
  have k1 := nb _ _ _ h1 (Ne.symm ht1)
  have k2 := nb _ _ _ h3 (Ne.symm ht1)
  refine ⟨⟨Ao, co, Blk.but2 h1 hw k1.1 k1.2, ?_⟩, Blk.but2 h3 hw k2.1 k2.2, fun e => ?_, h4.below hbl, h5.trans hbl, h6, h7, h8⟩
  · obtain ⟨q1, q2⟩ := h2
    refine ⟨q1, ?_⟩
    rcases q2 with q2 | ⟨g', cap', cur, hv, hg, hh, r⟩
    · exact Or.inl q2
    · have k3 := nb g' _ _ hh (Ne.symm ht2)
      exact Or.inr ⟨g', cap', cur, hv, hg, Blk.but2 (t := 3) hh hw k3.1 k3.2, r⟩
  · have k3 := nb _ _ _ (hls e).1 (Ne.symm ht2)
    exact ⟨Blk.but2 (hls e).1 hw k3.1 k3.2, (hls e).2⟩
end
theorem own_low_set {w : World} {base : Nat} {e : TypeId} {size : Nat} {v : Value} {n : Nat} {xs : List Value} (h : w.ownsRow base e size v n xs) {ob : Nat} (hp : ob < base) (u : Value) : (w.setCell ⟨ob, 0, none⟩ u).ownsRow base e size v n xs :=
  own_far_any h (p := ⟨ob, 0, none⟩) (by intro e; have := (h.lt _ e).1; dsimp only at this; omega) u
theorem ncells_snoc (l : List Nat) (x : Nat) : ncells (l ++ [x]) = ncells l ++ [.int .i64 (x : Nat)] := by rw [ncells_append]; rfl
theorem keep_of_col {w w' : World} {B : Nat} {row : Option Nat} {ob : Nat} {v : Value} {n : Nat} {xs : List Value} {vo : Value} (ho : w.ownsRow B 3 1 v n xs) (hob : One w ob 22 vo) (hg : w.grownBy w' v.ownBlock) (u : Value) : Keep w (w'.setCell ⟨ob, 0, none⟩ u) := by
  have key : ∀ k o, w.heap[k]? = some o → some k ≠ v.ownBlock → k ≠ ob → (w'.setCell ⟨ob, 0, none⟩ u).heap[k]? = some o := by
    intro k o hk h1 h2
    rw [Below.heap_setCell _ ⟨ob, 0, none⟩ _ _ h2]
    exact (hg.block k (Array.getElem?_eq_some_iff.1 hk).1 h1).trans hk
  refine ⟨?_, fun k cs h => ?_, fun k cs h => ?_, fun k es clock h => ?_⟩
  · have := hg.size
    simpa [World.setCell] using this
  · exact key k _ h (own_blk_ne ho h (by decide)) (Blk.ne_ h hob (by decide))
  · exact key k _ h (own_blk_ne ho h (by decide)) (Blk.ne_ h hob (by decide))
  · refine key k _ h (fun e => ?_) ?_
    · rcases ho.2 with ⟨rfl, _⟩ | ⟨g', cap, cur, rfl, _, hh, _⟩
      · simp [Value.ownBlock] at e
      · have he' : k = g' := by simpa [Value.ownBlock] using e
        subst he'
        rw [hh] at h
        cases h
    · rintro rfl
      unfold One Blk at hob
      rw [hob] at h
      cases h
set_option maxRecDepth 100000 in
set_option maxHeartbeats 1600000 in
theorem predclo_any {B ob hb lb : Nat} {w0 : World} {A : Option Addr} {n c : Nat} {xs : List Int} {last : Int} {P : List Nat} {w : World} (h : Col B ob hb lb w0 A n c xs false last P w) (hn : n ≤ 8192) (hP : P.length ≤ n) (p : Nat) (v : Int) (hv : v = if P.length < n then xs.getD P.length 0 else 0) (pi : Int) (hpi : pi = (p : Nat)) :
    Calls Try.prog 19 #[.int .i64 pi, .pointer (some ⟨ob, 0, none⟩), .pointer (some ⟨hb, 0, none⟩)] w fun e w' => e = .returned (.int .i64 v) ∧ Keep w w' ∧ Col B ob hb lb w0 A n c xs false last (P ++ [p]) w' := by
  subst hpi
  obtain ⟨i0, hi0, hz0, hz1, hz2⟩ := info_parts int_info
  obtain ⟨⟨Ao, co, h1, h2⟩, h3, hls, h4, h5, h6, h7, h8⟩ := h
  have hB : B ≤ w.heap.size := Nat.le_trans h6 (Nat.le_of_lt h1.lt)
  have hB2 : ob + 1 ≤ w.heap.size := h1.lt
  obtain ⟨m, hm⟩ : ∃ m, m = P.length := ⟨_, rfl⟩
  rw [← hm] at h1 h2 hv hP
  have hxl := h4.len
  simp only [icells, List.length_map] at hxl
  have HO := Lib.hid h2
  have H3 := Lib.hid h3
  have H1 := Lib.hid h1
  have H4 := Lib.hid h4
  have H5 := Lib.hid h5
  have HV := Lib.hid hv
  have HM := Lib.hid hm
  have HX := Lib.hid hxl
  have c0 := h1.c0
  have c1 := h3.c0
  have f0 := h1.f0
  have hbne := Ne.symm h8
  have HLS := Lib.hid hls
  clear h1 h2 h3 h4 h5 hv hm hxl hls
  go_enter Try.func19, Try.ntmps19
  go_wp2_with (at_builtin; refine wpList_app1 _ rfl _ _ _ rfl (ob + 1) 3 i0 _ 8 Try.underlying22 hi0 hz0 hz1 hz2 rfl _ _ _ rfl HO.out (.int .i64 (p : Nat)) rfl rfl ?g1 ?g2 hB2 ?_)
  case g1 => unfold maxLen; omega
  case g2 => omega
  intro A5 c5 w5 ho5 hg5
  have K1 := keep_of_col (row := none) HO.out H1.out hg5 (.slice A5 (m + 1) c5)
  have r1 := One.grown H1.out hg5 (own_blk_ne HO.out H1.out (by decide))
  have r3 := One.grown H3.out hg5 (own_blk_ne HO.out H3.out (by decide))
  have d0 := r1.c0
  have d1 := r1.f0
  have d2 := r3.c0
  have y5 := below_grown (Below.refl B w) HO.out hg5 (by omega) hB
  have HO5 := Lib.hid ho5
  have HG5 := Lib.hid hg5
  clear ho5 hg5
  go_upto_region 2 with (fail)
  have s1 := r1.set0 (.slice A5 (m + 1) c5)
  have s3 := One.far r3 (p := ⟨ob, 0, none⟩) hbne (.slice A5 (m + 1) c5)
  skip
  have y6 := y5.setCell (p := ⟨ob, 0, none⟩) h6 (.slice A5 (m + 1) c5)
  have o6 := Lib.hid (own_low_set HO5.out (Nat.lt_succ_self ob) (.slice A5 (m + 1) c5))
  have ho6 := h6
  generalize w5.setCell ⟨ob, 0, none⟩ (.slice A5 (m + 1) c5) = w6 at K1 s1 s3 y6 o6 ⊢
  have HK := Lib.hid K1
  have R4 := Lib.hid (H4.out.below y6)
  have Y6 := Lib.hid y6
  clear d0 d1 d2 r1 r3 c0 c1 f0 y5 K1 y6 HO5 HG5 HO H1 H3
  have c0 := s1.c0
  have c1 := s3.c0
  skip
  have HEND := Lib.hid (show Col B ob hb lb w0 A n c xs false last (P ++ [p]) w6 from
    ⟨⟨A5, c5, by rw [List.length_append, List.length_singleton, ← HM.out]; exact s1, by rw [List.length_append, List.length_singleton, ← HM.out, ncells_snoc]; exact o6.out⟩, s3, (fun e => by cases e), R4.out, H5.out.trans Y6.out, h6, h7, h8⟩)
  by_cases hlt : m < n
  · obtain ⟨g, off, rfl, hg, hc⟩ := R4.out.2.2.2 (by omega)
    have hcell := hc m (.int .i64 (xs.getD m 0)) (by
      have := HX.out
      unfold icells
      rw [List.getElem?_map, List.getElem?_eq_getElem (by omega), List.getD_eq_getElem?_getD, List.getElem?_eq_getElem (by omega)]
      rfl)
    have HV2 := Lib.hid (show v = xs.getD m 0 by rw [HV.out, if_pos hlt])
    obtain ⟨x, hx⟩ : ∃ x, x = xs.getD m 0 := ⟨_, rfl⟩
    rw [← hx] at hcell HV2
    clear hc hx
    go_wp2
    go_ret
    exact ⟨by rw [HV2.out]; rfl, HK.out, HEND.out⟩
  · have HV2 := Lib.hid (show v = 0 by rw [HV.out, if_neg hlt])
    go_wp2
    go_ret
    exact ⟨by rw [HV2.out]; rfl, HK.out, HEND.out⟩
set_option maxRecDepth 100000 in
set_option maxHeartbeats 1600000 in
theorem lawclo_any {B ob hb lb : Nat} {w0 : World} {A : Option Addr} {n c : Nat} {xs : List Int} {last : Int} {P : List Nat} {w : World} (h : Col B ob hb lb w0 A n c xs true last P w) (hn : n ≤ 8192) (hP : P.length ≤ n) (p : Nat) (v : Int) (hv : v = if P.length < n then xs.getD P.length 0 else last) (pi : Int) (hpi : pi = (p : Nat)) :
    Calls Try.prog 15 #[.int .i64 pi, .pointer (some ⟨ob, 0, none⟩), .pointer (some ⟨hb, 0, none⟩), .pointer (some ⟨lb, 0, none⟩)] w fun e w' => e = .returned (.int .i64 v) ∧ Keep w w' ∧ Col B ob hb lb w0 A n c xs true last (P ++ [p]) w' := by
  subst hpi
  obtain ⟨i0, hi0, hz0, hz1, hz2⟩ := info_parts int_info
  obtain ⟨⟨Ao, co, h1, h2⟩, h3, hls, h4, h5, h6, h7, h8⟩ := h
  have hB : B ≤ w.heap.size := Nat.le_trans h6 (Nat.le_of_lt h1.lt)
  have hB2 : ob + 1 ≤ w.heap.size := h1.lt
  obtain ⟨m, hm⟩ : ∃ m, m = P.length := ⟨_, rfl⟩
  rw [← hm] at h1 h2 hv hP
  have hxl := h4.len
  simp only [icells, List.length_map] at hxl
  have HO := Lib.hid h2
  have H3 := Lib.hid h3
  have H1 := Lib.hid h1
  have H4 := Lib.hid h4
  have H5 := Lib.hid h5
  have HV := Lib.hid hv
  have HM := Lib.hid hm
  have HX := Lib.hid hxl
  have c0 := h1.c0
  have c1 := h3.c0
  have f0 := h1.f0
  have hbne := Ne.symm h8
  have HLS := Lib.hid hls
  clear h1 h2 h3 h4 h5 hv hm hxl hls
  go_enter Try.func15, Try.ntmps15
  go_wp2_with (at_builtin; refine wpList_app1 _ rfl _ _ _ rfl (ob + 1) 3 i0 _ 8 Try.underlying22 hi0 hz0 hz1 hz2 rfl _ _ _ rfl HO.out (.int .i64 (p : Nat)) rfl rfl ?g1 ?g2 hB2 ?_)
  case g1 => unfold maxLen; omega
  case g2 => omega
  intro A5 c5 w5 ho5 hg5
  have K1 := keep_of_col (row := none) HO.out H1.out hg5 (.slice A5 (m + 1) c5)
  have r1 := One.grown H1.out hg5 (own_blk_ne HO.out H1.out (by decide))
  have r3 := One.grown H3.out hg5 (own_blk_ne HO.out H3.out (by decide))
  have d0 := r1.c0
  have d1 := r1.f0
  have d2 := r3.c0
  have y5 := below_grown (Below.refl B w) HO.out hg5 (by omega) hB
  obtain ⟨hl1, hl2, hl3⟩ := HLS.out (by simp)
  have r4 := One.grown hl1 hg5 (own_low_ne HO.out (by omega))
  have HO5 := Lib.hid ho5
  have HG5 := Lib.hid hg5
  clear ho5 hg5
  go_upto_region 2 with (fail)
  have s1 := r1.set0 (.slice A5 (m + 1) c5)
  have s3 := One.far r3 (p := ⟨ob, 0, none⟩) hbne (.slice A5 (m + 1) c5)
  have s4 := One.far r4 (p := ⟨ob, 0, none⟩) (by show lb ≠ ob; omega) (.slice A5 (m + 1) c5)
  have y6 := y5.setCell (p := ⟨ob, 0, none⟩) h6 (.slice A5 (m + 1) c5)
  have o6 := Lib.hid (own_low_set HO5.out (Nat.lt_succ_self ob) (.slice A5 (m + 1) c5))
  have ho6 := h6
  generalize w5.setCell ⟨ob, 0, none⟩ (.slice A5 (m + 1) c5) = w6 at K1 s1 s3 y6 o6 s4 ⊢
  have HK := Lib.hid K1
  have R4 := Lib.hid (H4.out.below y6)
  have Y6 := Lib.hid y6
  clear d0 d1 d2 r1 r3 c0 c1 f0 y5 K1 y6 HO5 HG5 HO H1 H3
  have c0 := s1.c0
  have c1 := s3.c0
  have c2 := s4.c0
  have HEND := Lib.hid (show Col B ob hb lb w0 A n c xs true last (P ++ [p]) w6 from
    ⟨⟨A5, c5, by rw [List.length_append, List.length_singleton, ← HM.out]; exact s1, by rw [List.length_append, List.length_singleton, ← HM.out, ncells_snoc]; exact o6.out⟩, s3, (fun _ => ⟨s4, hl2, hl3⟩), R4.out, H5.out.trans Y6.out, h6, h7, h8⟩)
  by_cases hlt : m < n
  · obtain ⟨g, off, rfl, hg, hc⟩ := R4.out.2.2.2 (by omega)
    have hcell := hc m (.int .i64 (xs.getD m 0)) (by
      have := HX.out
      unfold icells
      rw [List.getElem?_map, List.getElem?_eq_getElem (by omega), List.getD_eq_getElem?_getD, List.getElem?_eq_getElem (by omega)]
      rfl)
    have HV2 := Lib.hid (show v = xs.getD m 0 by rw [HV.out, if_pos hlt])
    obtain ⟨x, hx⟩ : ∃ x, x = xs.getD m 0 := ⟨_, rfl⟩
    rw [← hx] at hcell HV2
    clear hc hx
    go_wp2
    go_ret
    exact ⟨by rw [HV2.out]; rfl, HK.out, HEND.out⟩
  · have HV2 := Lib.hid (show v = last by rw [HV.out, if_neg hlt])
    go_wp2
    go_ret
    exact ⟨by rw [HV2.out]; rfl, HK.out, HEND.out⟩
/-- What the step function answers at a place. -/
def ysat (n : Nat) (xs : List Int) (last : Int) (j : Nat) : Int := if j < n then xs.getD j 0 else last
def Okpre (n : Nat) (xs : List Int) (last : Int) (l : List Nat) : Prop := ∀ j, j < l.length → ysat n xs last j = ((l.getD j 0 : Nat) : Int)
theorem okpre_nil (n : Nat) (xs : List Int) (last : Int) : Okpre n xs last [] := fun j hj => absurd hj (Nat.not_lt_zero _)
theorem okpre_snoc {n : Nat} {xs : List Int} {last : Int} {l : List Nat} (h : Okpre n xs last l) (v : Int) (hv : v = ysat n xs last l.length) (hb : v = 0 ∨ v = 1) : Okpre n xs last (l ++ [v.toNat]) := by
  intro j hj
  rw [List.length_append, List.length_singleton] at hj
  rcases (by omega : j < l.length ∨ j = l.length) with h1 | rfl
  · rw [h j h1, getD_append_lt h1]
  · have e : (l ++ [v.toNat]).getD l.length 0 = v.toNat := by simp
    rw [e, ← hv]
    omega
theorem walk_pred {B ob hb lb : Nat} {w0 : World} {A : Option Addr} {n c ord : Nat} {xs : List Int} {last : Int} {w : World} (h : Col B ob hb lb w0 A n c xs false last [] w) (hn : n + 1 ≤ 8192) (ho : ord ≤ 2) (oi si : Int) (hoi : oi = (ord : Nat)) (hsi : si = ((n + 1 : Nat) : Int)) :
    Calls Try.prog 14 #[.int .i64 oi, .int .i64 si, .func (.func 19) #[] #[.pointer (some ⟨ob, 0, none⟩), .pointer (some ⟨hb, 0, none⟩)]] w fun e w' => (∀ k cs, Blk w k 24 cs → Blk w' k 24 cs) ∧ ∃ l, Is01 l ∧ Okpre n xs 0 l ∧
      ((l.length = n + 1 ∧ e = .returned (.agg #[.int .i64 0, .int .i64 0]) ∧ Col B ob hb lb w0 A n c xs false last (preds ord l) w') ∨
       (l.length < n + 1 ∧ ¬ (ysat n xs 0 l.length = 0 ∨ ysat n xs 0 l.length = 1) ∧ e = .returned (.agg #[.int .i64 6, .int .i64 (l.length : Nat)]) ∧ Col B ob hb lb w0 A n c xs false last (preds ord l ++ [predv l l.length ord]) w')) := by
  have hBw : B ≤ w.heap.size := Nat.le_trans h.hob (Nat.le_of_lt (by obtain ⟨_, _, h1, _⟩ := h.out; exact h1.lt))
  refine (walk_any w w.heap.size rfl (ord := ord) (steps := n + 1) ho hn 19 _ Try.func19 (by decide +kernel) (by rw [Option.eq_none_iff_forall_ne_some]; intro hh; exact hh _ rfl) #[.pointer (some ⟨ob, 0, none⟩), .pointer (some ⟨hb, 0, none⟩)]
    (fun l w' => Okpre n xs 0 l ∧ Col B ob hb lb w0 A n c xs false last (preds ord l) w' ∧ (∀ k cs, Blk w k 24 cs → Blk w' k 24 cs))
    (fun l w' => Okpre n xs 0 l ∧ ¬ (ysat n xs 0 l.length = 0 ∨ ysat n xs 0 l.length = 1) ∧ Col B ob hb lb w0 A n c xs false last (preds ord l ++ [predv l l.length ord]) w' ∧ (∀ k cs, Blk w k 24 cs → Blk w' k 24 cs))
    ?_ ?_ ?_ ?_ ⟨okpre_nil _ _ _, h, fun _ _ h => h⟩ si hsi oi hoi).mono ?_
  · rintro l w1 h01 hlen ⟨i1, i2, i3⟩
    refine (predclo_any i2 (by omega) (by rw [preds_length]; omega) (predv l l.length ord) (ysat n xs 0 l.length) (by rw [preds_length]; rfl) _ rfl).mono ?_
    rintro e w2 ⟨rfl, k2, c2⟩
    refine ⟨_, rfl, k2, ?_⟩
    have i4 : ∀ k cs, Blk w k 24 cs → Blk w2 k 24 cs := fun k cs hk => k2.fault k cs (i3 k cs hk)
    by_cases hb : ysat n xs 0 l.length = 0 ∨ ysat n xs 0 l.length = 1
    · exact .inl ⟨hb, okpre_snoc i1 _ rfl hb, by rw [preds_snoc]; exact c2, i4⟩
    · exact .inr ⟨hb, i1, hb, c2, i4⟩
  · rintro l w1 w2 ⟨i1, i2, i3⟩ hy
    exact ⟨i1, i2.on hy, fun k cs hk => (i3 k cs hk).on hy⟩
  · intro l w1 w2 s cs hs hw0 hb
    have hne : ∀ k vs, Blk w k 24 vs → k ≠ s := fun k vs hk e => by have := hk.lt; omega
    refine ⟨?_, ?_⟩
    · rintro ⟨i1, i2, i3⟩
      exact ⟨i1, i2.but2 hb (by omega) (by omega) ⟨_, _, hs, by decide, by decide⟩ (.inr rfl), fun k vs hk => Blk.but2 (i3 k vs hk) hb (hne k vs hk) (hne k vs hk)⟩
    · rintro ⟨i1, i2, i3, i4⟩
      exact ⟨i1, i2, i3.but2 hb (by omega) (by omega) ⟨_, _, hs, by decide, by decide⟩ (.inr rfl), fun k vs hk => Blk.but2 (i4 k vs hk) hb (hne k vs hk) (hne k vs hk)⟩
  · rintro l w1 w2 s b cs es clock ⟨i1, i2, i3⟩ hs hm h1 h2 hb
    exact ⟨i1, i2.but2 hb (by omega) (by omega) ⟨_, _, hs, by decide, by decide⟩ (.inl ⟨_, _, hm⟩), fun k vs hk => Blk.but2 (i3 k vs hk) hb (by have := hk.lt; omega) (by have := hk.lt; omega)⟩
  · rintro e w9 ⟨l, h01, ⟨h1, h2, h3, h4, h5⟩ | ⟨h1, h2, h3, h4, h5, h6⟩⟩
    · exact ⟨h5, l, h01, h3, .inl ⟨h1, h2, h4⟩⟩
    · exact ⟨h6, l, h01, h3, .inr ⟨h1, h4, h2, h5⟩⟩
theorem walk_law {B ob hb lb : Nat} {w0 : World} {A : Option Addr} {n c ord : Nat} {xs : List Int} {last : Int} {w : World} (h : Col B ob hb lb w0 A n c xs true last [] w) (hn : n + 1 ≤ 8192) (ho : ord ≤ 2) (oi si : Int) (hoi : oi = (ord : Nat)) (hsi : si = ((n + 1 : Nat) : Int)) :
    Calls Try.prog 14 #[.int .i64 oi, .int .i64 si, .func (.func 15) #[] #[.pointer (some ⟨ob, 0, none⟩), .pointer (some ⟨hb, 0, none⟩), .pointer (some ⟨lb, 0, none⟩)]] w fun e w' => (∀ k cs, Blk w k 24 cs → Blk w' k 24 cs) ∧ ∃ l, Is01 l ∧ Okpre n xs last l ∧
      ((l.length = n + 1 ∧ e = .returned (.agg #[.int .i64 0, .int .i64 0]) ∧ Col B ob hb lb w0 A n c xs true last (preds ord l) w') ∨
       (l.length < n + 1 ∧ ¬ (ysat n xs last l.length = 0 ∨ ysat n xs last l.length = 1) ∧ e = .returned (.agg #[.int .i64 6, .int .i64 (l.length : Nat)]) ∧ Col B ob hb lb w0 A n c xs true last (preds ord l ++ [predv l l.length ord]) w')) := by
  have hBw : B ≤ w.heap.size := Nat.le_trans h.hob (Nat.le_of_lt (by obtain ⟨_, _, h1, _⟩ := h.out; exact h1.lt))
  refine (walk_any w w.heap.size rfl (ord := ord) (steps := n + 1) ho hn 15 _ Try.func15 (by decide +kernel) (by rw [Option.eq_none_iff_forall_ne_some]; intro hh; exact hh _ rfl) #[.pointer (some ⟨ob, 0, none⟩), .pointer (some ⟨hb, 0, none⟩), .pointer (some ⟨lb, 0, none⟩)]
    (fun l w' => Okpre n xs last l ∧ Col B ob hb lb w0 A n c xs true last (preds ord l) w' ∧ (∀ k cs, Blk w k 24 cs → Blk w' k 24 cs))
    (fun l w' => Okpre n xs last l ∧ ¬ (ysat n xs last l.length = 0 ∨ ysat n xs last l.length = 1) ∧ Col B ob hb lb w0 A n c xs true last (preds ord l ++ [predv l l.length ord]) w' ∧ (∀ k cs, Blk w k 24 cs → Blk w' k 24 cs))
    ?_ ?_ ?_ ?_ ⟨okpre_nil _ _ _, h, fun _ _ h => h⟩ si hsi oi hoi).mono ?_
  · rintro l w1 h01 hlen ⟨i1, i2, i3⟩
    refine (lawclo_any i2 (by omega) (by rw [preds_length]; omega) (predv l l.length ord) (ysat n xs last l.length) (by rw [preds_length]; rfl) _ rfl).mono ?_
    rintro e w2 ⟨rfl, k2, c2⟩
    refine ⟨_, rfl, k2, ?_⟩
    have i4 : ∀ k cs, Blk w k 24 cs → Blk w2 k 24 cs := fun k cs hk => k2.fault k cs (i3 k cs hk)
    by_cases hb : ysat n xs last l.length = 0 ∨ ysat n xs last l.length = 1
    · exact .inl ⟨hb, okpre_snoc i1 _ rfl hb, by rw [preds_snoc]; exact c2, i4⟩
    · exact .inr ⟨hb, i1, hb, c2, i4⟩
  · rintro l w1 w2 ⟨i1, i2, i3⟩ hy
    exact ⟨i1, i2.on hy, fun k cs hk => (i3 k cs hk).on hy⟩
  · intro l w1 w2 s cs hs hw0 hb
    have hne : ∀ k vs, Blk w k 24 vs → k ≠ s := fun k vs hk e => by have := hk.lt; omega
    refine ⟨?_, ?_⟩
    · rintro ⟨i1, i2, i3⟩
      exact ⟨i1, i2.but2 hb (by omega) (by omega) ⟨_, _, hs, by decide, by decide⟩ (.inr rfl), fun k vs hk => Blk.but2 (i3 k vs hk) hb (hne k vs hk) (hne k vs hk)⟩
    · rintro ⟨i1, i2, i3, i4⟩
      exact ⟨i1, i2, i3.but2 hb (by omega) (by omega) ⟨_, _, hs, by decide, by decide⟩ (.inr rfl), fun k vs hk => Blk.but2 (i4 k vs hk) hb (hne k vs hk) (hne k vs hk)⟩
  · rintro l w1 w2 s b cs es clock ⟨i1, i2, i3⟩ hs hm h1 h2 hb
    exact ⟨i1, i2.but2 hb (by omega) (by omega) ⟨_, _, hs, by decide, by decide⟩ (.inl ⟨_, _, hm⟩), fun k vs hk => Blk.but2 (i3 k vs hk) hb (by have := hk.lt; omega) (by have := hk.lt; omega)⟩
  · rintro e w9 ⟨l, h01, ⟨h1, h2, h3, h4, h5⟩ | ⟨h1, h2, h3, h4, h5, h6⟩⟩
    · exact ⟨h5, l, h01, h3, .inl ⟨h1, h2, h4⟩⟩
    · exact ⟨h6, l, h01, h3, .inr ⟨h1, h4, h2, h5⟩⟩
end PB
end Go.Proofs.Ytmkkbedbgkhbpaa
