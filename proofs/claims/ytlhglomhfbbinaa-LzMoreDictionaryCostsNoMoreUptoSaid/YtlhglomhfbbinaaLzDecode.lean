/-
  lz.Decode: the tokens of a code.
-/
import Derived.Test.YtlhglomhfbbinaaLzNext
import Derived.Test.YtlhglomhfbbinaaLzExpand
namespace Go.Proofs.Ytlhglomhfbbinaa
open Go.RowKit
attribute [local go_sem ↓] Go.wp_at_zero Go.wp_at_succ
set_option linter.unusedVariables false
set_option linter.unusedSimpArgs false
namespace PB
/-- The tokens from a position on that stand for cnt bytes: a code, the position of the fault, the tokens, the position behind them. -/
inductive Dec (l : List Nat) : Nat → Nat → Nat → Nat → List Tok → Nat → Prop
  | nil (p : Nat) : Dec l p 0 0 0 [] p
  | bad (p cnt c : Nat) : 0 < cnt → NBad l p cnt c → Dec l p cnt c p [] 0
  | cons (p cnt : Nat) (t : Tok) (e c i : Nat) (ts : List Tok) (en : Nat) : 0 < cnt → NOk l p cnt t e → Dec l e (cnt - tlen t) c i ts en → Dec l p cnt c i (t :: ts) en
theorem NOk.facts {l : List Nat} (h01 : Is01 l) {p mis : Nat} {t : Tok} {e : Nat} (h : NOk l p mis t e) (hm : 1 ≤ mis) : e ≤ l.length ∧ 1 ≤ tlen t ∧ tlen t ≤ mis ∧ max t.n 1 = ((tlen t : Nat) : Int) ∧ t.lit < 256 := by
  rcases h with ⟨h1, h2, h3, rfl, rfl⟩ | ⟨h1, h2, d, e1, n, hg, hd, hg2, hn, rfl⟩
  · refine ⟨by omega, Nat.le_refl _, hm, rfl, ?_⟩
    have a := num_lt ((h01.drop (p + 1)).take 8)
    have b : 2 ^ ((l.drop (p + 1)).take 8).length ≤ 2 ^ 8 := Nat.pow_le_pow_right (by decide) (by rw [List.length_take]; omega)
    show num _ < 256
    omega
  · have hd1 := gat_pos h01 hg
    have e : tlen ⟨(d : Nat), ((n + 2 : Nat) : Int), 0⟩ = n + 2 := by unfold tlen; dsimp only; rw [if_neg (by omega)]; omega
    rw [e]
    refine ⟨(gat_end hg2).1, by omega, hn, ?_, (by decide : (0 : Nat) < 256)⟩
    show max ((n + 2 : Nat) : Int) 1 = _
    omega
theorem dec_ex {l : List Nat} (h01 : Is01 l) : ∀ cnt p, p ≤ l.length → ∃ c i ts en, Dec l p cnt c i ts en := by
  intro cnt
  induction cnt using Nat.strongRecOn with
  | _ cnt ih =>
    intro p hp
    rcases Nat.eq_zero_or_pos cnt with rfl | hpos
    · exact ⟨_, _, _, _, .nil p⟩
    · rcases next_ex h01 p cnt hp with ⟨c, hc⟩ | ⟨t, e, ht⟩
      · exact ⟨_, _, _, _, .bad p cnt c hpos hc⟩
      · obtain ⟨f1, f2, f3, f4, _⟩ := ht.facts h01 hpos
        obtain ⟨c, i, ts, en, hD⟩ := ih (cnt - tlen t) (by omega) e f1
        exact ⟨_, _, _, _, .cons p cnt t e c i ts en hpos ht hD⟩
theorem nbad_code {l : List Nat} {p mis c : Nat} (h : NBad l p mis c) : c = 15 ∨ c = 16 := by
  have key : ∀ {f cd}, GAt l f 0 0 cd → cd ≠ 0 → cd = 15 ∨ cd = 16 := fun h hc => by
    rcases h with ⟨_, _, _, h⟩ | ⟨_, _, _, _, h⟩ | ⟨_, _, _, _, h⟩
    · exact .inr h
    · exact .inl h
    · exact absurd h hc
  rcases h with ⟨_, h⟩ | ⟨_, _, _, h⟩ | ⟨_, _, ⟨cd, h1, h2, h3⟩ | ⟨d, e, _, _, h⟩ | ⟨d, e, cd, _, _, h1, h2, h3⟩ | ⟨d, e, n, e2, _, _, _, _, h⟩⟩
  · exact .inl h
  · exact .inl h
  · rw [h3]; exact key h1 h2
  · exact .inr h
  · rw [h3]; exact key h1 h2
  · exact .inr h
/-- A fault of lz.next: whatever stands beside it. -/
theorem next_bad {A : Option Addr} {n c : Nat} {l : List Nat} {p mis cd : Nat} {w : World} (h : Rd w A n c (bcells (pack l))) (h01 : Is01 l) (hl : l.length ≤ 131072) (hmis : mis ≤ 1024) (hp : p ≤ l.length) (hN : NBad l p mis cd) :
    Calls Try.prog 47 #[.agg #[.slice A n c, .int .i64 l.length], .int .i64 (p : Nat), .int .i64 (mis : Nat)] w fun e w' => ∃ b : Int, e = .returned (.tuple #[.agg #[.int .i64 0, .int .i64 0, .int .u8 0], .int .i64 b, .int .i64 (cd : Nat)]) ∧ Below w.heap.size w w' := by
  rcases hN with ⟨h1, rfl⟩ | ⟨h1, h2, h3, rfl⟩ | ⟨h1, h2, ⟨c1, g1, g2, rfl⟩ | ⟨d, e, g1, g2, rfl⟩ | ⟨d, e, c1, g1, g2, g3, g4, rfl⟩ | ⟨d, e, m, e2, g1, g2, g3, g4, rfl⟩⟩
  · exact (next_none hp h1 h h01 hl hmis).mono fun e w' ⟨h1, h2⟩ => ⟨_, h1, h2⟩
  · exact (next_cut h1 h2 h3 h h01 hl hmis).mono fun e w' ⟨h1, h2⟩ => ⟨_, h1, h2⟩
  · exact (next_nog h1 h2 g1 g2 h h01 hl hmis).mono fun e w' ⟨h1, h2⟩ => ⟨_, h1, h2⟩
  · exact (next_far h1 h2 g1 g2 h h01 hl hmis).mono fun e w' ⟨h1, h2⟩ => ⟨_, h1, h2⟩
  · exact (next_nog2 h1 h2 g1 g2 g3 g4 h h01 hl hmis).mono fun e w' ⟨h1, h2⟩ => ⟨_, h1, h2⟩
  · exact (next_long h1 h2 g1 g2 g3 g4 h h01 hl hmis).mono fun e w' ⟨h1, h2⟩ => ⟨_, h1, h2⟩
theorem next_ok {A : Option Addr} {n c : Nat} {l : List Nat} {p mis e9 : Nat} {t : Tok} {w : World} (h : Rd w A n c (bcells (pack l))) (h01 : Is01 l) (hl : l.length ≤ 131072) (hmis : mis ≤ 1024) (hN : NOk l p mis t e9) :
    Calls Try.prog 47 #[.agg #[.slice A n c, .int .i64 l.length], .int .i64 (p : Nat), .int .i64 (mis : Nat)] w fun e w' => e = .returned (.tuple #[.agg #[.int .i64 t.d, .int .i64 t.n, .int .u8 (t.lit : Nat)], .int .i64 (e9 : Nat), .int .i64 0]) ∧ Below w.heap.size w w' := by
  rcases hN with ⟨h1, h2, h3, rfl, rfl⟩ | ⟨h1, h2, d, e1, m, hg, hd, hg2, hn, rfl⟩
  · have a := num_lt ((h01.drop (p + 1)).take 8)
    have b : 2 ^ ((l.drop (p + 1)).take 8).length ≤ 2 ^ 8 := Nat.pow_le_pow_right (by decide) (by rw [List.length_take]; omega)
    exact next_lit h1 h2 h3 _ rfl (by omega) h h01 hl hmis
  · exact next_match h1 h2 hg hd hg2 hn h h01 hl hmis
/-- What lz.Decode hands back. -/
def DecOut (c i : Nat) (ts : List Tok) (en : Nat) (w : World) (e : Ending) (w' : World) : Prop :=
  ∃ A' m c', e = .returned (.tuple #[.slice A' m c', .int .i64 ((if c = 0 then en else 0 : Nat) : Int), .agg #[.int .i64 (c : Nat), .int .i64 ((if c = 0 then 0 else i : Nat) : Int)]]) ∧ w'.ownsRow w.heap.size 37 3 (.slice A' m c') m (tcells (if c = 0 then ts else [])) ∧ Below w.heap.size w w'
set_option maxRecDepth 100000 in
set_option maxHeartbeats 1600000 in
theorem lzdec_form {A : Option Addr} {n c : Nat} {d : List Nat} {cnt count : Int} {w : World} (h : Rd w A n c (bcells d)) (hno : ¬ Ok d cnt) :
    Calls Try.prog 27 #[.agg #[.slice A n c, .int .i64 cnt], .int .i64 count] w fun e w' => e = .returned (.tuple #[.slice none 0 0, .int .i64 0, .agg #[.int .i64 6, .int .i64 (-1)]]) ∧ Below w.heap.size w w' := by
  have F0 := Two.new1 w (.cells #[.slice A n c, .int .i64 cnt] 43) 25 (.int .i64 0) (.int .i64 0)
  have y0 : Below w.heap.size w ((w.alloc (.cells #[.slice A n c, .int .i64 cnt] 43)).alloc (.cells #[.int .i64 0, .int .i64 0] 25)) := ((Below.refl _ _).alloc (Nat.le_refl _) _).alloc (by simp) _
  have R0 := (h.alloc (.cells #[.slice A n c, .int .i64 cnt] 43)).alloc (.cells #[.int .i64 0, .int .i64 0] 25)
  have HN := Lib.hid hno
  clear hno
  go_enter Try.func27, Try.ntmps27
  go_wp2_with fail
  refine (valid_any A n c d cnt _ _ R0 (Nat.le_refl _) false ⟨(fun h => by cases h), fun h => absurd h HN.out⟩).mono ?_
  rintro e w1 ⟨rfl, y1⟩
  have F1 := F0.on y1
  have Y1 := y0.trans (y1.mono y0.size)
  go_wp2_with fail
  refine (lzfault_any _ _ _).mono ?_
  rintro e w2 ⟨rfl, y2⟩
  have F2 := F1.on y2
  have Y2 := Y1.trans (y2.mono Y1.size)
  obtain ⟨f0, f1, f2, f3, f4⟩ := F2.facts
  go_wp2
  have r0 := ((F2.set0 (.int .i64 6)).set1 (.int .i64 (-1))).c0
  have r1 := ((F2.set0 (.int .i64 6)).set1 (.int .i64 (-1))).c1
  exact bodyPost_ret (v := .tuple #[.slice none 0 0, .int .i64 0, .agg #[.int .i64 6, .int .i64 (-1)]]) (by simp [results, Try.results27, go_sem, r0, r1]) rfl ⟨rfl, (Y2.setCell (by simp) _).setCell (by simp) _⟩
set_option maxRecDepth 100000 in
set_option maxHeartbeats 1600000 in
theorem lzdec_range {A : Option Addr} {n c : Nat} {l : List Nat} {count : Int} {w : World} (h : Rd w A n c (bcells (pack l))) (h01 : Is01 l) (hl : l.length ≤ 131072) (hr : count < 0 ∨ 1024 < count) :
    Calls Try.prog 27 #[.agg #[.slice A n c, .int .i64 l.length], .int .i64 count] w fun e w' => e = .returned (.tuple #[.slice none 0 0, .int .i64 0, .agg #[.int .i64 4, .int .i64 (-2)]]) ∧ Below w.heap.size w w' := by
  have F0 := Two.new1 w (.cells #[.slice A n c, .int .i64 l.length] 43) 25 (.int .i64 0) (.int .i64 0)
  have y0 : Below w.heap.size w ((w.alloc (.cells #[.slice A n c, .int .i64 l.length] 43)).alloc (.cells #[.int .i64 0, .int .i64 0] 25)) := ((Below.refl _ _).alloc (Nat.le_refl _) _).alloc (by simp) _
  have R0 := (h.alloc (.cells #[.slice A n c, .int .i64 l.length] 43)).alloc (.cells #[.int .i64 0, .int .i64 0] 25)
  have H01 := Lib.hid h01
  clear h01
  by_cases h0 : count < 0
  all_goals
    go_enter Try.func27, Try.ntmps27
    go_wp2_with fail
    refine (valid_list A n c l _ _ R0 (Nat.le_refl _) H01.out hl).mono ?_
    rintro e w1 ⟨rfl, y1⟩
    have F1 := F0.on y1
    have Y1 := y0.trans (y1.mono y0.size)
    go_wp2_with fail
    refine (lzfault_any _ _ _).mono ?_
    rintro e w2 ⟨rfl, y2⟩
    have F2 := F1.on y2
    have Y2 := Y1.trans (y2.mono Y1.size)
    obtain ⟨f0, f1, f2, f3, f4⟩ := F2.facts
    go_wp2
    have r0 := ((F2.set0 (.int .i64 4)).set1 (.int .i64 (-2))).c0
    have r1 := ((F2.set0 (.int .i64 4)).set1 (.int .i64 (-2))).c1
    exact bodyPost_ret (v := .tuple #[.slice none 0 0, .int .i64 0, .agg #[.int .i64 4, .int .i64 (-2)]]) (by simp [results, Try.results27, go_sem, r0, r1]) rfl ⟨rfl, (Y2.setCell (by simp) _).setCell (by simp) _⟩
set_option maxRecDepth 100000 in
set_option maxHeartbeats 1600000 in
theorem lzdec_ok {A : Option Addr} {n c : Nat} {l : List Nat} {count cd ix en : Nat} {TS : List Tok} {w : World} (h : Rd w A n c (bcells (pack l))) (h01 : Is01 l) (hl : l.length ≤ 131072) (hcount : count ≤ 1024) (hD : Dec l 0 count cd ix TS en) :
    Calls Try.prog 27 #[.agg #[.slice A n c, .int .i64 l.length], .int .i64 (count : Nat)] w (DecOut cd ix TS en w) := by
  obtain ⟨i1, ti, tz0, tz1, tz2⟩ := info_parts tok_info
  have B0 := (Two.new w 43 (.slice A n c) (.int .i64 l.length)).alloc (.cells #[.int .i64 0, .int .i64 0] 25)
  have F0 := Two.new1 w (.cells #[.slice A n c, .int .i64 l.length] 43) 25 (.int .i64 0) (.int .i64 0)
  have y0 : Below w.heap.size w ((w.alloc (.cells #[.slice A n c, .int .i64 l.length] 43)).alloc (.cells #[.int .i64 0, .int .i64 0] 25)) := ((Below.refl _ _).alloc (Nat.le_refl _) _).alloc (by simp) _
  have R0 := (h.alloc (.cells #[.slice A n c, .int .i64 l.length] 43)).alloc (.cells #[.int .i64 0, .int .i64 0] 25)
  have H01 := Lib.hid h01
  have HD := Lib.hid hD
  have HH := Lib.hid h
  clear h01 hD h
  go_enter Try.func27, Try.ntmps27
  go_wp2_with fail
  refine (valid_list A n c l _ _ R0 (Nat.le_refl _) H01.out hl).mono ?_
  rintro e w1 ⟨rfl, y1⟩
  have F1 := F0.on y1
  have B1 := B0.on y1
  have Y1 := y0.trans (y1.mono y0.size)
  have s1 := F1.lt
  clear F0 B0 y0 R0 y1
  go_wp2_with fail
  go_loopw [1, 7, 8] (fun cn o p wr => ∃ cnt pos m : Nat, ∃ A' c' done ts, cnt ≤ 1024 ∧ pos ≤ l.length ∧ m + cnt ≤ 1024 ∧ cn = .int .i64 cnt ∧ p = .int .i64 pos ∧ o = .slice A' m c' ∧ Below w.heap.size w wr ∧ Two wr w.heap.size 43 (.slice A n c) (.int .i64 l.length) ∧ Two wr (w.heap.size + 1) 25 (.int .i64 0) (.int .i64 0) ∧
      wr.ownsRow (w.heap.size + 2) 37 3 (.slice A' m c') m (tcells done) ∧ Dec l pos cnt cd ix ts en ∧ done ++ ts = TS) (fun cn _ _ _ => (intOf cn).toNat)
  case atStart => exact ⟨count, 0, 0, none, 0, [], TS, hcount, Nat.zero_le _, by omega, rfl, rfl, rfl, Y1, B1, F1, World.ownsRow_nil _ _ _ _, HD.out, rfl⟩
  case round =>
    obtain ⟨cnt, pos, m, A', c', done, ts, hc1, hp1, hm1, rfl, rfl, rfl, yr, BR, FR, ho, hDr, hts⟩ := hrel
    have HO := Lib.hid ho
    have HTS := Lib.hid hts
    have RR := HH.out.on yr
    clear Y1 B1 F1 HD ho hts
    have b0 := BR.c0
    have b1 := BR.c1
    cases hDr with
    | nil p =>
      have HTS2 := Lib.hid (show done = TS by rw [← HTS.out, List.append_nil])
      obtain ⟨f0, f1, f2, f3, f4⟩ := FR.facts
      go_wp2
      have r0 := ((FR.set0 (.int .i64 0)).set1 (.int .i64 0)).c0
      have r1 := ((FR.set0 (.int .i64 0)).set1 (.int .i64 0)).c1
      refine bodyPost_ret (v := .tuple #[.slice A' m c', .int .i64 (en : Nat), .agg #[.int .i64 0, .int .i64 0]]) (by simp [results, Try.results27, go_sem, r0, r1]) rfl ⟨A', m, c', rfl, ?_, (yr.setCell (by simp) _).setCell (by simp) _⟩
      rw [if_pos rfl, ← HTS2.out]
      have hne : (Value.slice A' m c').ownBlock ≠ some (w.heap.size + 1) := fun e => by have := (HO.out.lt _ e).1; omega
      exact own_less (own_far_any (own_far_any HO.out (p := ⟨w.heap.size + 1, 0, none⟩) hne _) (p := ⟨w.heap.size + 1, 1, none⟩) hne _) (by omega)
    | bad p cn c9 hpos hbad =>
      have HB := Lib.hid hbad
      have hcd : cd ≠ 0 := by rcases nbad_code hbad with h | h <;> omega
      have hnq : (((cd : Nat) : Int) != 0) = true := by rw [bne_iff_ne]; omega
      clear hbad
      go_wp2_with fail
      refine (next_bad RR H01.out hl hc1 hp1 HB.out).mono ?_
      rintro e w2 ⟨bb, rfl, y2⟩
      have F2 := (FR.on y2).alloc (.cells #[.int .i64 0, .int .i64 0, .int .u8 0] 37)
      have Y2 := yr.trans (y2.mono yr.size)
      have Y2a := Y2.alloc Y2.size (.cells #[.int .i64 0, .int .i64 0, .int .u8 0] 37)
      go_wp2_with fail
      refine (lzfault_any _ _ _).mono ?_
      rintro e w3 ⟨rfl, y3⟩
      have F3 := F2.on y3
      have Y3 := Y2a.trans (y3.mono Y2a.size)
      obtain ⟨f0, f1, f2, f3, f4⟩ := F3.facts
      go_wp2
      have r0 := ((F3.set0 (.int .i64 (cd : Nat))).set1 (.int .i64 (ix : Nat))).c0
      have r1 := ((F3.set0 (.int .i64 (cd : Nat))).set1 (.int .i64 (ix : Nat))).c1
      exact bodyPost_ret (v := .tuple #[.slice none 0 0, .int .i64 0, .agg #[.int .i64 (cd : Nat), .int .i64 (ix : Nat)]]) (by simp [results, Try.results27, go_sem, r0, r1]) rfl ⟨none, 0, 0, by rw [if_neg hcd, if_neg hcd]; rfl, by rw [if_neg hcd]; exact World.ownsRow_nil _ _ _ _, (Y3.setCell (by simp) _).setCell (by simp) _⟩
    | cons p cn t e9 c9 i9 ts' en9 hpos hok hrest =>
      obtain ⟨f1, f2, f3, f4, _⟩ := hok.facts H01.out hpos
      have HK := Lib.hid hok
      have HR := Lib.hid hrest
      obtain ⟨td, tn, tl, ht⟩ : ∃ td tn tl, t = (⟨td, tn, tl⟩ : Tok) := ⟨_, _, _, rfl⟩
      subst ht
      dsimp only at f4
      obtain ⟨tz, htz⟩ : ∃ tz, tz = tlen ⟨td, tn, tl⟩ := ⟨_, rfl⟩
      rw [← htz] at f2 f3 f4 HR
      clear hok hrest htz
      go_wp2_with fail
      refine (next_ok RR H01.out hl hc1 HK.out).mono ?_
      rintro e w2 ⟨rfl, y2⟩
      dsimp only
      have F2 := (FR.on y2).alloc (.cells #[.int .i64 td, .int .i64 tn, .int .u8 (tl : Nat)] 37)
      have B2 := (BR.on y2).alloc (.cells #[.int .i64 td, .int .i64 tn, .int .u8 (tl : Nat)] 37)
      have T2 := Three.new w2 37 (.int .i64 td) (.int .i64 tn) (.int .u8 (tl : Nat))
      have Y2 := yr.trans (y2.mono yr.size)
      have Y2a := Y2.alloc Y2.size (.cells #[.int .i64 td, .int .i64 tn, .int .u8 (tl : Nat)] 37)
      have HO2 := Lib.hid ((own_on HO.out y2).alloc (.cells #[.int .i64 td, .int .i64 tn, .int .u8 (tl : Nat)] 37))
      have s2 := F2.lt
      have hrow : ∀ g, (Value.slice A' m c').ownBlock = some g → g < w2.heap.size := fun g hg => Nat.lt_of_lt_of_le (HO.out.lt g hg).2 y2.size
      clear y2 Y2 yr BR FR b0 b1 HO RR
      go_upto_region 11 with (fail)
      generalize (w2.alloc (.cells #[.int .i64 td, .int .i64 tn, .int .u8 (tl : Nat)] 37)) = w3 at F2 B2 T2 Y2a HO2 s2 ⊢
      obtain ⟨gt, hgt⟩ : ∃ gt, gt = w2.heap.size := ⟨_, rfl⟩
      rw [← hgt] at T2 hrow ⊢
      clear hgt
      have t0 := T2.c0
      have t1 := T2.c1
      have t2 := T2.c2
      go_wp2_with (at_builtin; refine wpList_tok1 _ rfl _ _ 23 rfl (w.heap.size + 2) 37 i1 _ 24 Try.underlying23 ti tz0 tz1 tz2 rfl _ _ _ rfl HO2.out _ _ _ (tcells_one [⟨td, tn, tl⟩]) rfl ?g1 ?g2 s2 ?_)
      case g1 => unfold maxLen; omega
      case g2 => omega
      intro A5 c5 w5 ho5 hg5
      have nF : some (w.heap.size + 1) ≠ (Value.slice A' m c').ownBlock := fun e => by have := (HO2.out.lt _ e.symm).1; omega
      have nB : some w.heap.size ≠ (Value.slice A' m c').ownBlock := fun e => by have := (HO2.out.lt _ e.symm).1; omega
      have nT : some gt ≠ (Value.slice A' m c').ownBlock := fun e => by have := hrow _ e.symm; omega
      have F5 := F2.grown hg5 nF
      have B5 := B2.grown hg5 nB
      have T5 := T2.grown hg5 nT
      have Y5 := below_grown Y2a HO2.out hg5 (by omega) Y2a.size
      have HO5 := Lib.hid (show w5.ownsRow (w.heap.size + 2) 37 3 (.slice A5 (m + 1) c5) (m + 1) (tcells (done ++ [⟨td, tn, tl⟩])) by rw [tcells_append]; simpa [tcells, tcell] using ho5)
      have t1 := T5.c1
      clear ho5 hg5 nF nB nT hrow F2 B2 T2 Y2a HO2 t2 ti tz0 tz1 tz2
      go_wp2_with fail
      go_roundw
      case rel => exact ⟨cnt - tz, e9, m + 1, A5, c5, _, ts', by omega, f1, by omega, congrArg (Value.int .i64) (by omega), rfl, rfl, Y5, B5, F5, HO5.out, HR.out, by rw [← HTS.out, List.append_assoc]; rfl⟩
      case measure => simp [intOf] <;> omega
end PB
end Go.Proofs.Ytlhglomhfbbinaa
