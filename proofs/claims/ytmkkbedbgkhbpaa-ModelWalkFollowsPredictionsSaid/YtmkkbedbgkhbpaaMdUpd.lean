/-
  The update of the model with a bit: the counts at the contexts of the bit, and the contexts of the next one.
-/
import Derived.Test.YtmkkbedbgkhbpaaMdPred
import Derived.BigRegion
namespace Go.Proofs.Ytmkkbedbgkhbpaa
open Go.RowKit
attribute [local go_sem ↓] Go.wp_at_zero Go.wp_at_succ
set_option linter.unusedVariables false
set_option linter.unusedSimpArgs false
namespace PB
/-- What is done to the world but for two blocks, and new ones. -/
structure But2 (s b : Nat) (w w' : World) : Prop where
  os : w'.os = w.os
  tape : w'.tape = w.tape
  output : w'.output = w.output
  size : w.heap.size ≤ w'.heap.size
  block : ∀ k, k < w.heap.size → k ≠ s → k ≠ b → w'.heap[k]? = w.heap[k]?
section
variable {s b : Nat} {w w' w'' : World}
theorem But2.refl (s b : Nat) (w : World) : But2 s b w w := ⟨rfl, rfl, rfl, Nat.le_refl _, fun _ _ _ _ => rfl⟩
theorem But2.trans (h : But2 s b w w') (k : But2 s b w' w'') : But2 s b w w'' :=
  ⟨k.os.trans h.os, k.tape.trans h.tape, k.output.trans h.output, Nat.le_trans h.size k.size, fun i h1 h2 h3 => (k.block i (Nat.lt_of_lt_of_le h1 h.size) h2 h3).trans (h.block i h1 h2 h3)⟩
theorem But2.of_below (h : Below w.heap.size w w') (s b : Nat) : But2 s b w w' := ⟨h.os, h.tape, h.output, h.size, fun i h1 _ _ => h.block i h1⟩
theorem But2.of_grown (h : w.grownBy w' (some b)) (s : Nat) : But2 s b w w' := ⟨h.os, h.tape, h.output, h.size, fun i h1 _ h3 => h.block i h1 (by simpa using h3)⟩
theorem But2.drew (h : But2 s b w w') : But2 s b w w'.drew := ⟨h.os, h.tape, h.output, h.size, h.block⟩
theorem But2.set_ (h : But2 s b w w') (i : Nat) (u : Value) : But2 s b w (w'.setCell ⟨s, i, none⟩ u) :=
  ⟨h.os, h.tape, h.output, by simpa [World.setCell] using h.size, fun k h1 h2 h3 => (Below.heap_setCell w' ⟨s, i, none⟩ u k h2).trans (h.block k h1 h2 h3)⟩
theorem Blk.but2 {g : Nat} {t : TypeId} {cs : Array Value} (h : Blk w g t cs) (hb : But2 s b w w') (h1 : g ≠ s) (h2 : g ≠ b) : Blk w' g t cs := (hb.block g h.lt h1 h2).trans h
theorem But2.below {B : Nat} (h : But2 s b w w') (h1 : B ≤ s) (h2 : B ≤ b) (hB : B ≤ w.heap.size) : Below B w w' := ⟨h.os, h.tape, h.output, h.size, fun k hk => h.block k (by omega) (by omega) (by omega)⟩
end
/-- The counts behind an update. -/
def fupd (f : Ctx → Nat × Nat) (l : List Ctx) (bit : Nat) : Ctx → Nat × Nat :=
  l.foldl (fun g c => fset g c (upd (g c) bit)) f
theorem fupd_take {f : Ctx → Nat × Nat} {l : List Ctx} {bit k : Nat} (hk : k < l.length) : fupd f (l.take (k + 1)) bit = fset (fupd f (l.take k) bit) l[k] (upd (fupd f (l.take k) bit l[k]) bit) := by
  unfold fupd
  rw [List.take_succ_eq_append_getElem hk, List.foldl_append]
  rfl
theorem fset_le {f : Ctx → Nat × Nat} (h : ∀ c, (f c).1 + (f c).2 ≤ 254) (c : Ctx) (bit : Nat) : ∀ c', (fset f c (upd (f c) bit) c').1 + (fset f c (upd (f c) bit) c').2 ≤ 254 := by
  intro c'
  unfold fset
  split
  · exact upd_le (h c) bit
  · exact h c'
theorem fupd_le {f : Ctx → Nat × Nat} (h : ∀ c, (f c).1 + (f c).2 ≤ 254) (l : List Ctx) (bit : Nat) : ∀ c', (fupd f l bit c').1 + (fupd f l bit c').2 ≤ 254 := by
  induction l generalizing f with
  | nil => exact h
  | cons c l ih => exact ih (fset_le h c bit)
set_option maxRecDepth 100000 in
set_option maxHeartbeats 3200000 in
theorem update_any {w : World} {s b n ord la be bg bit : Nat} {f : Ctx → Nat × Nat} (h : Pm w s b n ord la be bg f) (ho : ord ≤ 2) (h1 : la < 32) (h2 : be < 32) (h3 : bg < 256) (hb : bit ≤ 1) (hf : ∀ c, (f c).1 + (f c).2 ≤ 254) (hn : n + 3 < 1000000) (LA BE BG : Nat)
    (hnew : (2 * bg + bit < 256 ∧ LA = la ∧ BE = be ∧ BG = 2 * bg + bit) ∨ (256 ≤ 2 * bg + bit ∧ LA = (2 * bg + bit) % 32 ∧ BE = la ∧ BG = 1)) (bi : Int) (hbi : bi = (bit : Nat)) :
    Calls Try.prog 23 #[.pointer (some ⟨s, 0, none⟩), .int .i64 bi] w fun e w' => e = .returned (.tuple #[]) ∧ Pm w' s b (n + (ord + 1)) ord LA BE BG (fupd f (ctxs ord la be bg) bit) ∧ But2 s b w w' := by
  have hL := ctxs_length ord la be bg ho
  have hok := ctxs_ok (ord := ord) (la := la) (be := be) (bg := bg) ho (by omega) (by omega) h3
  obtain ⟨l, hl⟩ : ∃ l, l = ctxs ord la be bg := ⟨_, rfl⟩
  have HC := Lib.hid (contexts_any h ho)
  rw [← hl] at hL hok HC ⊢
  have HP := Lib.hid h
  have HF := Lib.hid hf
  have HOK := Lib.hid hok
  have hls := h.lt
  have hlb := h.ltb
  have HNE := Lib.hid h.ne
  obtain ⟨m, hm⟩ : ∃ m, m = ord + 1 := ⟨_, rfl⟩
  have hm3 : m ≤ 3 := by omega
  rw [← hm] at hL HC ⊢
  have HNEW := Lib.hid hnew
  have HBI := Lib.hid hbi
  have hbi1 : 0 ≤ bi ∧ bi ≤ 1 := by omega
  obtain ⟨hbi1, hbi2⟩ := hbi1
  clear h hf hok hl ho hm h1 h2 hnew hbi
  go_enter Try.func23, Try.ntmps23
  go_wp2_with fail
  refine HC.out.mono ?_
  rintro e w1 ⟨A, c, rfl, ho1, y1⟩
  have HX := Lib.hid (RdX.own ho1)
  have HXB := Lib.hid (own_low_ne ho1 hlb)
  have HP1 := Lib.hid (HP.out.on y1)
  clear ho1
  go_wp2_with fail
  go_loopw [10] (fun i wr => ∃ k : Nat, k ≤ m ∧ i = .int .i64 (k : Nat) ∧ Pm wr s b (n + k) ord la be bg (fupd f (l.take k) bit) ∧ w1.grownBy wr (some b)) (fun i _ => m - (intOf i).toNat)
  case atStart => exact ⟨0, by omega, rfl, HP1.out, World.grownBy.refl _ _⟩
  case round =>
    obtain ⟨k, hk, rfl, hpr, yr⟩ := hrel
    have HPR := Lib.hid hpr
    have YR := Lib.hid yr
    clear hpr yr
    by_cases hlt : k < m
    · have HXr := Lib.hid (RdX.grown HX.out YR.out (by intro b0 off0 e0 e1; have := HXB.out; rw [e0] at this; exact this e1.symm))
      obtain ⟨g, off, rfl, hg, c0, c1, c2, c3⟩ := HXr.out.at k (by omega)
      have HT := Lib.hid (fupd_take (f := f) (l := l) (bit := bit) (k := k) (by omega))
      obtain ⟨hcx, hc2⟩ := HOK.out l[k] (List.getElem_mem _)
      have hcnt := fupd_le HF.out (l.take k) bit l[k]
      generalize l[k]'(by omega) = cx at c0 c1 c2 c3 HT hcx hc2 hcnt
      obtain ⟨o, la', be', bg'⟩ := cx
      dsimp only at c0 c1 c2 c3 HT hc2 hcnt
      obtain ⟨z, on, hzo⟩ : ∃ z on, fupd f (l.take k) bit (o, la', be', bg') = (z, on) := ⟨_, _, rfl⟩
      rw [hzo] at HT hcnt
      dsimp only at hcnt
      have HA1 := HPR.out.alloc (.cells #[.int .i64 (o : Nat), .int .i64 (la' : Nat), .int .i64 (be' : Nat), .int .i64 (bg' : Nat)] 57)
      have HF1 := Four.new wr 57 (.int .i64 (o : Nat)) (.int .i64 (la' : Nat)) (.int .i64 (be' : Nat)) (.int .i64 (bg' : Nat))
      have y2 := only_alloc YR.out (.cells #[.int .i64 (o : Nat), .int .i64 (la' : Nat), .int .i64 (be' : Nat), .int .i64 (bg' : Nat)] 57)
      have yrs := YR.out.size
      go_upto_region 3 with (fail)
      have hs2 : wr.heap.size < (wr.alloc (.cells #[.int .i64 (o : Nat), .int .i64 (la' : Nat), .int .i64 (be' : Nat), .int .i64 (bg' : Nat)] 57)).heap.size := by simp
      generalize wr.alloc (.cells #[.int .i64 (o : Nat), .int .i64 (la' : Nat), .int .i64 (be' : Nat), .int .i64 (bg' : Nat)] 57) = w2 at HA1 HF1 y2 hs2 ⊢
      have l1 : (Instr.lookup 46 (.map (some b)) (.agg #[.int .i64 (o : Nat), .int .i64 (la' : Nat), .int .i64 (be' : Nat), .int .i64 (bg' : Nat)]) false).run Try.prog w2.drew = .ok (.agg #[.int .i64 (z : Nat), .int .i64 (on : Nat)]) w2.drew := by
        have := HA1.drew.cm.look hcx
        rw [hzo] at this
        exact this
      have l2 : (Instr.lookup 46 (.map (some b)) (.agg #[.int .i64 (o : Nat), .int .i64 (la' : Nat), .int .i64 (be' : Nat), .int .i64 (bg' : Nat)]) false).run Try.prog (w2.alloc (.cells #[.int .i64 0, .int .i64 0] 59)).drew = .ok (.agg #[.int .i64 (z : Nat), .int .i64 (on : Nat)]) (w2.alloc (.cells #[.int .i64 0, .int .i64 0] 59)).drew := by
        have := (HA1.alloc (.cells #[.int .i64 0, .int .i64 0] 59)).drew.cm.look hcx
        rw [hzo] at this
        exact this
      have f0 := HF1.c0
      have f1 := HF1.c1
      have f2 := HF1.c2
      have f3 := HF1.c3
      have t1 := HA1.c1
      clear c0 c1 c2 c3
      apply share
      · intro key
        go_region_held3 (fun w' => w'.cell? ⟨wr.heap.size, 0, none⟩ = some (.int .i64 (o : Nat)) ∧ w'.cell? ⟨wr.heap.size, 1, none⟩ = some (.int .i64 (la' : Nat)) ∧ w'.cell? ⟨wr.heap.size, 2, none⟩ = some (.int .i64 (be' : Nat)) ∧ w'.cell? ⟨wr.heap.size, 3, none⟩ = some (.int .i64 (bg' : Nat)) ∧ w'.cell? ⟨s, 1, none⟩ = some (.map (some b))) (go_keep) (fail)
        all_goals (try simp only [Act.put, List.setIfInBounds_toArray, List.set_cons_zero, List.set_cons_succ])
        all_goals exact key
      have HK4 := (Two.new w2 59 (.int .i64 (z : Nat)) (.int .i64 (on : Nat))).drew
      have HF3 := (HF1.alloc (.cells #[.int .i64 (z : Nat), .int .i64 (on : Nat)] 59)).drew
      have HA3 := (HA1.alloc (.cells #[.int .i64 (z : Nat), .int .i64 (on : Nat)] 59)).drew
      have y3 := only_drew (only_alloc y2 (.cells #[.int .i64 (z : Nat), .int .i64 (on : Nat)] 59))
      have y2s := y2.size
      clear HF1 y2 l1 l2 f0 f1 f2 f3 t1 HA1
      obtain ⟨kb, hkb⟩ : ∃ kb, kb = w2.heap.size := ⟨_, rfl⟩
      obtain ⟨cb, hcb⟩ : ∃ cb, cb = wr.heap.size := ⟨_, rfl⟩
      rw [← hkb] at HK4 ⊢
      rw [← hcb] at HF3 ⊢
      have nb1 : w1.heap.size ≤ kb := by omega
      have y1s := y1.size
      have nb2 : b ≠ kb := by omega
      have nb3 : s ≠ kb := by omega
      have nb4 : cb ≠ kb := by omega
      generalize (w2.alloc (.cells #[.int .i64 (z : Nat), .int .i64 (on : Nat)] 59)).drew = w3 at HK4 HF3 HA3 y3 ⊢
      clear hkb hcb hs2 yrs y2s
      have k0 := HK4.c0
      have k1 := HK4.c1
      have k2 := HK4.f0
      have k3 := HK4.f1
      rcases (by omega : bit = 1 ∨ bit = 0) with hbit | hbit
      · have hbb : bi = 1 := by have := HBI.out; omega
        subst hbb
        go_upto_region 7 with (fail)
        have HK5 := HK4.set1 (.int .i64 ((on : Int) + 1))
        have HF5 := HF3.far (p := ⟨kb, 1, none⟩) nb4 (.int .i64 ((on : Int) + 1))
        have HA5 := HA3.far (p := ⟨kb, 1, none⟩) nb3 nb2 (.int .i64 ((on : Int) + 1))
        have y5 := only_setCell y3 (p := ⟨kb, 1, none⟩) (.inr nb1) (.int .i64 ((on : Int) + 1))
        generalize w3.setCell ⟨kb, 1, none⟩ (.int .i64 ((on : Int) + 1)) = w5 at HK5 HF5 HA5 y5 ⊢
        clear k0 k1 k2 k3 HK4 HF3 HA3 y3
        have k0 := HK5.c0
        have k1 := HK5.c1
        have k2 := HK5.f0
        have k3 := HK5.f1
        by_cases hal : 255 ≤ z + on + 1
        · have HU := Lib.hid (show upd (z, on) bit = ((z + 1) / 2, (on + 1 + 1) / 2) by subst hbit; unfold upd halve; simp only [if_pos rfl, ]; first | rw [if_pos (by omega)] | simp; omega)
          obtain ⟨z2, hz2⟩ : ∃ z2, z2 = (z + 1) / 2 := ⟨_, rfl⟩
          obtain ⟨o2, ho2⟩ : ∃ o2, o2 = (on + 1 + 1) / 2 := ⟨_, rfl⟩
          have q1 : ((z : Int) + 1) / 2 = ((z2 : Nat) : Int) := by omega
          have q2 : (((on : Int) + 1) + 1) / 2 = ((o2 : Nat) : Int) := by omega
          have HU2 := Lib.hid (show upd (z, on) bit = (z2, o2) by rw [HU.out, hz2, ho2])
          have Q1 := Lib.hid q1
          have Q2 := Lib.hid q2
          clear hz2 ho2 q1 q2 HU
          go_upto_region 9 with (fail)
          rw [Q1.out, Q2.out]
          clear Q1 Q2
          have HK6 := (HK5.set0 (.int .i64 (z2 : Nat))).set1 (.int .i64 (o2 : Nat))
          have HF6 := (HF5.far (p := ⟨kb, 0, none⟩) nb4 (.int .i64 (z2 : Nat))).far (p := ⟨kb, 1, none⟩) nb4 (.int .i64 (o2 : Nat))
          have HA6 := (HA5.far (p := ⟨kb, 0, none⟩) nb3 nb2 (.int .i64 (z2 : Nat))).far (p := ⟨kb, 1, none⟩) nb3 nb2 (.int .i64 (o2 : Nat))
          have y6 := only_setCell (only_setCell y5 (p := ⟨kb, 0, none⟩) (.inr nb1) (.int .i64 (z2 : Nat))) (p := ⟨kb, 1, none⟩) (.inr nb1) (.int .i64 (o2 : Nat))
          generalize (w5.setCell ⟨kb, 0, none⟩ (.int .i64 (z2 : Nat))).setCell ⟨kb, 1, none⟩ (.int .i64 (o2 : Nat)) = w6 at HK6 HF6 HA6 y6 ⊢
          clear k0 k1 k2 k3 HK5 HF5 HA5 y5
          obtain ⟨w7, hrun, hcm7, hg7⟩ := HA6.drew.cm.store hcx (by unfold maxLen; omega) (z2, o2)
          have hrun' : (Instr.mapUpdate 46 (.map (some b)) (.agg #[.int .i64 (o : Nat), .int .i64 (la' : Nat), .int .i64 (be' : Nat), .int .i64 (bg' : Nat)]) (.agg #[.int .i64 (z2 : Nat), .int .i64 (o2 : Nat)])).run Try.prog w6.drew = .ok () w7 := hrun
          clear hrun
          have HG7 := Lib.hid hg7
          have bl7 : Blk w7 s 48 #[.int .i64 (ord : Nat), .map (some b), .int .i64 (la : Nat), .int .i64 (be : Nat), .int .i64 (bg : Nat)] := Blk.grown HA6.drew.blk hg7 (by simpa using Ne.symm HNE.out)
          have HA7 := Lib.hid (show Pm w7 s b (n + (k + 1)) ord la be bg (fupd f (l.take (k + 1)) bit) from ⟨bl7, by rw [HT.out, HU2.out]; exact hcm7⟩)
          have nb6 : b ≠ cb := HA6.cm.ne HF6
          have HF7 := HF6.drew.grown hg7 (by simpa using Ne.symm nb6)
          have HK7 := Two.grown HK6.drew hg7 (by simpa using Ne.symm nb2)
          have y7 := only_trans (only_drew y6) hg7 (.inl rfl)
          clear hcm7 hg7
          have f0 := HF6.c0
          have g0 := HF7.c0
          have f1 := HF6.c1
          have g1 := HF7.c1
          have f2 := HF6.c2
          have g2 := HF7.c2
          have f3 := HF6.c3
          have g3 := HF7.c3
          have k0 := HK6.c0
          have j0 := HK7.c0
          have k1 := HK6.c1
          have j1 := HK7.c1
          have t1 := HA6.c1
          have u1 := HA7.out.c1
          go_region_held3 (fun w' => w'.cell? ⟨cb, 0, none⟩ = some (.int .i64 (o : Nat)) ∧ w'.cell? ⟨cb, 1, none⟩ = some (.int .i64 (la' : Nat)) ∧ w'.cell? ⟨cb, 2, none⟩ = some (.int .i64 (be' : Nat)) ∧ w'.cell? ⟨cb, 3, none⟩ = some (.int .i64 (bg' : Nat)) ∧ w'.cell? ⟨kb, 0, none⟩ = some (.int .i64 (z2 : Nat)) ∧ w'.cell? ⟨kb, 1, none⟩ = some (.int .i64 (o2 : Nat)) ∧ w'.cell? ⟨s, 1, none⟩ = some (.map (some b))) (go_keep) (fail)
          clear f0 g0 f1 g1 f2 g2 f3 g3 k0 j0 k1 j1 t1 u1 HK6 HF6 HA6 y6 HK7 HF7 bl7 hrun'
          go_wp2
          go_roundw
          case rel => exact ⟨k + 1, by omega, by go_num, HA7.out, y7⟩
          case measure => simp [intOf] <;> omega
        · have HU := Lib.hid (show upd (z, on) bit = (z, on + 1) by subst hbit; unfold upd halve; simp only [if_pos rfl, ]; first | rw [if_neg (by omega)] | simp; omega)
          obtain ⟨z2, hz2⟩ : ∃ z2, z2 = z := ⟨_, rfl⟩
          obtain ⟨o2, ho2⟩ : ∃ o2, o2 = on + 1 := ⟨_, rfl⟩
          have q1 : (z : Int) = ((z2 : Nat) : Int) := by omega
          have q2 : ((on : Int) + 1) = ((o2 : Nat) : Int) := by omega
          have HU2 := Lib.hid (show upd (z, on) bit = (z2, o2) by rw [HU.out, hz2, ho2])
          have Q1 := Lib.hid q1
          have Q2 := Lib.hid q2
          clear hz2 ho2 q1 q2 HU
          go_upto_region 9 with (fail)
          rw [Q1.out, Q2.out] at HK5
          clear k0 k1 k2 k3 Q1 Q2
          have HK6 := HK5
          have HF6 := HF5
          have HA6 := HA5
          have y6 := y5
          clear HK5 HF5 HA5 y5
          generalize w5 = w6 at HK6 HF6 HA6 y6 ⊢
          obtain ⟨w7, hrun, hcm7, hg7⟩ := HA6.drew.cm.store hcx (by unfold maxLen; omega) (z2, o2)
          have hrun' : (Instr.mapUpdate 46 (.map (some b)) (.agg #[.int .i64 (o : Nat), .int .i64 (la' : Nat), .int .i64 (be' : Nat), .int .i64 (bg' : Nat)]) (.agg #[.int .i64 (z2 : Nat), .int .i64 (o2 : Nat)])).run Try.prog w6.drew = .ok () w7 := hrun
          clear hrun
          have HG7 := Lib.hid hg7
          have bl7 : Blk w7 s 48 #[.int .i64 (ord : Nat), .map (some b), .int .i64 (la : Nat), .int .i64 (be : Nat), .int .i64 (bg : Nat)] := Blk.grown HA6.drew.blk hg7 (by simpa using Ne.symm HNE.out)
          have HA7 := Lib.hid (show Pm w7 s b (n + (k + 1)) ord la be bg (fupd f (l.take (k + 1)) bit) from ⟨bl7, by rw [HT.out, HU2.out]; exact hcm7⟩)
          have nb6 : b ≠ cb := HA6.cm.ne HF6
          have HF7 := HF6.drew.grown hg7 (by simpa using Ne.symm nb6)
          have HK7 := Two.grown HK6.drew hg7 (by simpa using Ne.symm nb2)
          have y7 := only_trans (only_drew y6) hg7 (.inl rfl)
          clear hcm7 hg7
          have f0 := HF6.c0
          have g0 := HF7.c0
          have f1 := HF6.c1
          have g1 := HF7.c1
          have f2 := HF6.c2
          have g2 := HF7.c2
          have f3 := HF6.c3
          have g3 := HF7.c3
          have k0 := HK6.c0
          have j0 := HK7.c0
          have k1 := HK6.c1
          have j1 := HK7.c1
          have t1 := HA6.c1
          have u1 := HA7.out.c1
          go_region_held3 (fun w' => w'.cell? ⟨cb, 0, none⟩ = some (.int .i64 (o : Nat)) ∧ w'.cell? ⟨cb, 1, none⟩ = some (.int .i64 (la' : Nat)) ∧ w'.cell? ⟨cb, 2, none⟩ = some (.int .i64 (be' : Nat)) ∧ w'.cell? ⟨cb, 3, none⟩ = some (.int .i64 (bg' : Nat)) ∧ w'.cell? ⟨kb, 0, none⟩ = some (.int .i64 (z2 : Nat)) ∧ w'.cell? ⟨kb, 1, none⟩ = some (.int .i64 (o2 : Nat)) ∧ w'.cell? ⟨s, 1, none⟩ = some (.map (some b))) (go_keep) (fail)
          clear f0 g0 f1 g1 f2 g2 f3 g3 k0 j0 k1 j1 t1 u1 HK6 HF6 HA6 y6 HK7 HF7 bl7 hrun'
          go_wp2
          go_roundw
          case rel => exact ⟨k + 1, by omega, by go_num, HA7.out, y7⟩
          case measure => simp [intOf] <;> omega
      · have hbb : bi = 0 := by have := HBI.out; omega
        subst hbb
        go_upto_region 7 with (fail)
        have HK5 := HK4.set0 (.int .i64 ((z : Int) + 1))
        have HF5 := HF3.far (p := ⟨kb, 0, none⟩) nb4 (.int .i64 ((z : Int) + 1))
        have HA5 := HA3.far (p := ⟨kb, 0, none⟩) nb3 nb2 (.int .i64 ((z : Int) + 1))
        have y5 := only_setCell y3 (p := ⟨kb, 0, none⟩) (.inr nb1) (.int .i64 ((z : Int) + 1))
        generalize w3.setCell ⟨kb, 0, none⟩ (.int .i64 ((z : Int) + 1)) = w5 at HK5 HF5 HA5 y5 ⊢
        clear k0 k1 k2 k3 HK4 HF3 HA3 y3
        have k0 := HK5.c0
        have k1 := HK5.c1
        have k2 := HK5.f0
        have k3 := HK5.f1
        by_cases hal : 255 ≤ z + 1 + on
        · have HU := Lib.hid (show upd (z, on) bit = ((z + 1 + 1) / 2, (on + 1) / 2) by subst hbit; unfold upd halve; simp only [if_pos rfl, Nat.zero_ne_one, if_false]; first | rw [if_pos (by omega)] | simp; omega)
          obtain ⟨z2, hz2⟩ : ∃ z2, z2 = (z + 1 + 1) / 2 := ⟨_, rfl⟩
          obtain ⟨o2, ho2⟩ : ∃ o2, o2 = (on + 1) / 2 := ⟨_, rfl⟩
          have q1 : (((z : Int) + 1) + 1) / 2 = ((z2 : Nat) : Int) := by omega
          have q2 : ((on : Int) + 1) / 2 = ((o2 : Nat) : Int) := by omega
          have HU2 := Lib.hid (show upd (z, on) bit = (z2, o2) by rw [HU.out, hz2, ho2])
          have Q1 := Lib.hid q1
          have Q2 := Lib.hid q2
          clear hz2 ho2 q1 q2 HU
          go_upto_region 9 with (fail)
          rw [Q1.out, Q2.out]
          clear Q1 Q2
          have HK6 := (HK5.set0 (.int .i64 (z2 : Nat))).set1 (.int .i64 (o2 : Nat))
          have HF6 := (HF5.far (p := ⟨kb, 0, none⟩) nb4 (.int .i64 (z2 : Nat))).far (p := ⟨kb, 1, none⟩) nb4 (.int .i64 (o2 : Nat))
          have HA6 := (HA5.far (p := ⟨kb, 0, none⟩) nb3 nb2 (.int .i64 (z2 : Nat))).far (p := ⟨kb, 1, none⟩) nb3 nb2 (.int .i64 (o2 : Nat))
          have y6 := only_setCell (only_setCell y5 (p := ⟨kb, 0, none⟩) (.inr nb1) (.int .i64 (z2 : Nat))) (p := ⟨kb, 1, none⟩) (.inr nb1) (.int .i64 (o2 : Nat))
          generalize (w5.setCell ⟨kb, 0, none⟩ (.int .i64 (z2 : Nat))).setCell ⟨kb, 1, none⟩ (.int .i64 (o2 : Nat)) = w6 at HK6 HF6 HA6 y6 ⊢
          clear k0 k1 k2 k3 HK5 HF5 HA5 y5
          obtain ⟨w7, hrun, hcm7, hg7⟩ := HA6.drew.cm.store hcx (by unfold maxLen; omega) (z2, o2)
          have hrun' : (Instr.mapUpdate 46 (.map (some b)) (.agg #[.int .i64 (o : Nat), .int .i64 (la' : Nat), .int .i64 (be' : Nat), .int .i64 (bg' : Nat)]) (.agg #[.int .i64 (z2 : Nat), .int .i64 (o2 : Nat)])).run Try.prog w6.drew = .ok () w7 := hrun
          clear hrun
          have HG7 := Lib.hid hg7
          have bl7 : Blk w7 s 48 #[.int .i64 (ord : Nat), .map (some b), .int .i64 (la : Nat), .int .i64 (be : Nat), .int .i64 (bg : Nat)] := Blk.grown HA6.drew.blk hg7 (by simpa using Ne.symm HNE.out)
          have HA7 := Lib.hid (show Pm w7 s b (n + (k + 1)) ord la be bg (fupd f (l.take (k + 1)) bit) from ⟨bl7, by rw [HT.out, HU2.out]; exact hcm7⟩)
          have nb6 : b ≠ cb := HA6.cm.ne HF6
          have HF7 := HF6.drew.grown hg7 (by simpa using Ne.symm nb6)
          have HK7 := Two.grown HK6.drew hg7 (by simpa using Ne.symm nb2)
          have y7 := only_trans (only_drew y6) hg7 (.inl rfl)
          clear hcm7 hg7
          have f0 := HF6.c0
          have g0 := HF7.c0
          have f1 := HF6.c1
          have g1 := HF7.c1
          have f2 := HF6.c2
          have g2 := HF7.c2
          have f3 := HF6.c3
          have g3 := HF7.c3
          have k0 := HK6.c0
          have j0 := HK7.c0
          have k1 := HK6.c1
          have j1 := HK7.c1
          have t1 := HA6.c1
          have u1 := HA7.out.c1
          go_region_held3 (fun w' => w'.cell? ⟨cb, 0, none⟩ = some (.int .i64 (o : Nat)) ∧ w'.cell? ⟨cb, 1, none⟩ = some (.int .i64 (la' : Nat)) ∧ w'.cell? ⟨cb, 2, none⟩ = some (.int .i64 (be' : Nat)) ∧ w'.cell? ⟨cb, 3, none⟩ = some (.int .i64 (bg' : Nat)) ∧ w'.cell? ⟨kb, 0, none⟩ = some (.int .i64 (z2 : Nat)) ∧ w'.cell? ⟨kb, 1, none⟩ = some (.int .i64 (o2 : Nat)) ∧ w'.cell? ⟨s, 1, none⟩ = some (.map (some b))) (go_keep) (fail)
          clear f0 g0 f1 g1 f2 g2 f3 g3 k0 j0 k1 j1 t1 u1 HK6 HF6 HA6 y6 HK7 HF7 bl7 hrun'
          go_wp2
          go_roundw
          case rel => exact ⟨k + 1, by omega, by go_num, HA7.out, y7⟩
          case measure => simp [intOf] <;> omega
        · have HU := Lib.hid (show upd (z, on) bit = (z + 1, on) by subst hbit; unfold upd halve; simp only [if_pos rfl, Nat.zero_ne_one, if_false]; first | rw [if_neg (by omega)] | simp; omega)
          obtain ⟨z2, hz2⟩ : ∃ z2, z2 = z + 1 := ⟨_, rfl⟩
          obtain ⟨o2, ho2⟩ : ∃ o2, o2 = on := ⟨_, rfl⟩
          have q1 : ((z : Int) + 1) = ((z2 : Nat) : Int) := by omega
          have q2 : (on : Int) = ((o2 : Nat) : Int) := by omega
          have HU2 := Lib.hid (show upd (z, on) bit = (z2, o2) by rw [HU.out, hz2, ho2])
          have Q1 := Lib.hid q1
          have Q2 := Lib.hid q2
          clear hz2 ho2 q1 q2 HU
          go_upto_region 9 with (fail)
          rw [Q1.out, Q2.out] at HK5
          clear k0 k1 k2 k3 Q1 Q2
          have HK6 := HK5
          have HF6 := HF5
          have HA6 := HA5
          have y6 := y5
          clear HK5 HF5 HA5 y5
          generalize w5 = w6 at HK6 HF6 HA6 y6 ⊢
          obtain ⟨w7, hrun, hcm7, hg7⟩ := HA6.drew.cm.store hcx (by unfold maxLen; omega) (z2, o2)
          have hrun' : (Instr.mapUpdate 46 (.map (some b)) (.agg #[.int .i64 (o : Nat), .int .i64 (la' : Nat), .int .i64 (be' : Nat), .int .i64 (bg' : Nat)]) (.agg #[.int .i64 (z2 : Nat), .int .i64 (o2 : Nat)])).run Try.prog w6.drew = .ok () w7 := hrun
          clear hrun
          have HG7 := Lib.hid hg7
          have bl7 : Blk w7 s 48 #[.int .i64 (ord : Nat), .map (some b), .int .i64 (la : Nat), .int .i64 (be : Nat), .int .i64 (bg : Nat)] := Blk.grown HA6.drew.blk hg7 (by simpa using Ne.symm HNE.out)
          have HA7 := Lib.hid (show Pm w7 s b (n + (k + 1)) ord la be bg (fupd f (l.take (k + 1)) bit) from ⟨bl7, by rw [HT.out, HU2.out]; exact hcm7⟩)
          have nb6 : b ≠ cb := HA6.cm.ne HF6
          have HF7 := HF6.drew.grown hg7 (by simpa using Ne.symm nb6)
          have HK7 := Two.grown HK6.drew hg7 (by simpa using Ne.symm nb2)
          have y7 := only_trans (only_drew y6) hg7 (.inl rfl)
          clear hcm7 hg7
          have f0 := HF6.c0
          have g0 := HF7.c0
          have f1 := HF6.c1
          have g1 := HF7.c1
          have f2 := HF6.c2
          have g2 := HF7.c2
          have f3 := HF6.c3
          have g3 := HF7.c3
          have k0 := HK6.c0
          have j0 := HK7.c0
          have k1 := HK6.c1
          have j1 := HK7.c1
          have t1 := HA6.c1
          have u1 := HA7.out.c1
          go_region_held3 (fun w' => w'.cell? ⟨cb, 0, none⟩ = some (.int .i64 (o : Nat)) ∧ w'.cell? ⟨cb, 1, none⟩ = some (.int .i64 (la' : Nat)) ∧ w'.cell? ⟨cb, 2, none⟩ = some (.int .i64 (be' : Nat)) ∧ w'.cell? ⟨cb, 3, none⟩ = some (.int .i64 (bg' : Nat)) ∧ w'.cell? ⟨kb, 0, none⟩ = some (.int .i64 (z2 : Nat)) ∧ w'.cell? ⟨kb, 1, none⟩ = some (.int .i64 (o2 : Nat)) ∧ w'.cell? ⟨s, 1, none⟩ = some (.map (some b))) (go_keep) (fail)
          clear f0 g0 f1 g1 f2 g2 f3 g3 k0 j0 k1 j1 t1 u1 HK6 HF6 HA6 y6 HK7 HF7 bl7 hrun'
          go_wp2
          go_roundw
          case rel => exact ⟨k + 1, by omega, by go_num, HA7.out, y7⟩
          case measure => simp [intOf] <;> omega
    · obtain rfl : k = m := by omega
      have HT := Lib.hid (show l.take k = l by rw [← hL, List.take_length])
      have HB1 := Lib.hid ((But2.of_below y1 s b).trans (But2.of_grown YR.out s))
      have p0 := HPR.out.c0
      have p1 := HPR.out.c1
      have p2 := HPR.out.c2
      have p3 := HPR.out.c3
      have p4 := HPR.out.c4
      have p5 := Blk.frozen HPR.out.blk 4
      have q0 : 0 ≤ bi := hbi1
      obtain ⟨b2, hb2⟩ : ∃ b2, b2 = 2 * bg + bit := ⟨_, rfl⟩
      have HB2 := Lib.hid (show 2 * (bg : Int) + bi = ((b2 : Nat) : Int) by have := HBI.out; omega)
      have hb3 : b2 < 512 := by omega
      go_upto_region 12 with (fail)
      rw [HB2.out]
      have HA9 := Blk.set_ HPR.out.blk 4 (.int .i64 (b2 : Nat))
      have HM9 := HPR.out.cm.setCell (a := ⟨s, 4, none⟩) HNE.out (.int .i64 (b2 : Nat))
      have HB9 := Lib.hid (HB1.out.set_ 4 (.int .i64 (b2 : Nat)))
      simp only [List.setIfInBounds_toArray, List.set_cons_succ, List.set_cons_zero] at HA9
      rw [HT.out] at HM9
      generalize wr.setCell ⟨s, 4, none⟩ (.int .i64 (b2 : Nat)) = w9 at HA9 HM9 HB9 ⊢
      clear p0 p1 p2 p3 p4 p5 HB1 HPR HB2
      have p2 : w9.cell? ⟨s, 2, none⟩ = some (.int .i64 (la : Nat)) := by simpa using Blk.cell HA9 2
      have p3 : w9.cell? ⟨s, 3, none⟩ = some (.int .i64 (be : Nat)) := by simpa using Blk.cell HA9 3
      have p4 : w9.cell? ⟨s, 4, none⟩ = some (.int .i64 (b2 : Nat)) := by simpa using Blk.cell HA9 4
      rcases HNEW.out with ⟨n1, n2, n3, n4⟩ | ⟨n1, n2, n3, n4⟩
      · have HN2 := Lib.hid n2
        have HN3 := Lib.hid n3
        have HN4 := Lib.hid n4
        have n1' : ¬ 256 ≤ b2 := by omega
        have HB3 := Lib.hid hb2
        clear n1 n2 n3 n4 hb2
        go_wp2
        go_end0
        refine ⟨rfl, ⟨?_, HM9⟩, HB9.out⟩
        rw [HN2.out, HN3.out, HN4.out, ← HB3.out]
        exact HA9
      · have HN2 := Lib.hid n2
        have HN3 := Lib.hid n3
        have HN4 := Lib.hid n4
        have n1' : 256 ≤ b2 := by omega
        have HB3 := Lib.hid hb2
        have f2 := Blk.frozen HA9 2
        have f3 := Blk.frozen HA9 3
        have f4 := Blk.frozen HA9 4
        clear n1 n2 n3 n4 hb2
        go_upto_region 13 with (fail)
        go_region
        go_wp2
        go_end0
        have e32 : (b2 : Int) % 32 = ((LA : Nat) : Int) := by rw [HN2.out, ← HB3.out]; omega
        rw [e32]
        have A1 := Blk.set_ (Blk.set_ (Blk.set_ HA9 2 (.int .i64 (LA : Nat))) 3 (.int .i64 (la : Nat))) 4 (.int .i64 1)
        simp only [List.setIfInBounds_toArray, List.set_cons_succ, List.set_cons_zero] at A1
        have M1 := ((HM9.setCell (a := ⟨s, 2, none⟩) HNE.out (.int .i64 (LA : Nat))).setCell (a := ⟨s, 3, none⟩) HNE.out (.int .i64 (la : Nat))).setCell (a := ⟨s, 4, none⟩) HNE.out (.int .i64 1)
        refine ⟨rfl, ⟨?_, M1.drew⟩, (((HB9.out.set_ 2 (.int .i64 (LA : Nat))).set_ 3 (.int .i64 (la : Nat))).set_ 4 (.int .i64 1)).drew⟩
        rw [HN3.out, HN4.out]
        exact A1
end PB
end Go.Proofs.Ytmkkbedbgkhbpaa
