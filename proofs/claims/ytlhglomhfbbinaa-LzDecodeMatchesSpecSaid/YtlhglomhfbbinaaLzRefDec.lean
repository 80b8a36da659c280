/-
  The reference's TokensAt: the tokens of a list of bits.
-/
import Derived.Test.YtlhglomhfbbinaaLzDecode
import Derived.Test.YtlhglomhfbbinaaBitsRef3
namespace Go.Proofs.Ytlhglomhfbbinaa
open Go.RowKit
attribute [local go_sem ↓] Go.wp_at_zero Go.wp_at_succ
set_option linter.unusedVariables false
set_option linter.unusedSimpArgs false
namespace PB
set_option maxRecDepth 100000 in
set_option maxHeartbeats 6400000 in
theorem tokensat_any {A : Option Addr} {c : Nat} {l : List Nat} {N count cd ix en : Nat} {TS : List Tok} {w : World} (hN : N = l.length) (h : Rd w A N c (ncells l)) (h01 : Is01 l) (hl : l.length ≤ 131072) (hcount : count ≤ 1024) (hD : Dec l 0 count cd ix TS en) :
    Calls Try.prog 31 #[.slice A N c, .int .i64 (count : Nat)] w (DecOut cd ix TS en w) := by
  obtain ⟨i0, hi, hz0, hz1, hz2⟩ := info_parts int_info
  obtain ⟨i1, ti, tz0, tz1, tz2⟩ := info_parts tok_info
  have hcap := Reads.cap h
  have hcm := Reads.capMax h
  unfold maxLen at hcm
  have F0 := Two.new w 25 (.int .i64 0) (.int .i64 0)
  have y0 : Below w.heap.size w (w.alloc (.cells #[.int .i64 0, .int .i64 0] 25)) := (Below.refl _ _).alloc (Nat.le_refl _) _
  have H01 := Lib.hid h01
  have HD := Lib.hid hD
  have HH := Lib.hid h
  have hNb : N ≤ 131072 := by omega
  have HN := Lib.hid hN
  have hn1 : N ≤ l.length := by omega
  have hn2 : l.length ≤ N := by omega
  clear h01 hD h hN
  go_enter Try.func31, Try.ntmps31
  go_wp2_with fail
  go_loopw [1, 7, 8] (fun cn o p wr => ∃ cnt pos m : Nat, ∃ A' c' done ts, cnt ≤ 1024 ∧ pos ≤ N ∧ m + cnt ≤ 1024 ∧ cn = .int .i64 cnt ∧ p = .int .i64 pos ∧ o = .slice A' m c' ∧ Below w.heap.size w wr ∧ Two wr w.heap.size 25 (.int .i64 0) (.int .i64 0) ∧
      wr.ownsRow (w.heap.size + 1) 37 3 (.slice A' m c') m (tcells done) ∧ Dec l pos cnt cd ix ts en ∧ done ++ ts = TS) (fun cn _ _ _ => (intOf cn).toNat)
  case atStart => exact ⟨count, 0, 0, none, 0, [], TS, hcount, Nat.zero_le _, by omega, rfl, rfl, rfl, y0, F0, World.ownsRow_nil _ _ _ _, HD.out, rfl⟩
  case round =>
    obtain ⟨cnt, pos, m, A', c', done, ts, hc1, hp1, hm1, rfl, rfl, rfl, yr, FR, ho, hDr, hts⟩ := hrel
    have HO := Lib.hid ho
    have HTS := Lib.hid hts
    have RR := HH.out.on yr
    have FRlt := FR.lt
    clear y0 F0 HD ho hts
    cases hDr with
    | nil p =>
      have HTS2 := Lib.hid (show done = TS by rw [← HTS.out, List.append_nil])
      obtain ⟨f0, f1, f2, f3, f4⟩ := FR.facts
      go_wp2
      have r0 := ((FR.set0 (.int .i64 0)).set1 (.int .i64 0)).c0
      have r1 := ((FR.set0 (.int .i64 0)).set1 (.int .i64 0)).c1
      refine bodyPost_ret (v := .tuple #[.slice A' m c', .int .i64 (en : Nat), .agg #[.int .i64 0, .int .i64 0]]) (by simp [results, Try.results31, go_sem, r0, r1]) rfl ⟨A', m, c', rfl, ?_, (yr.setCell (Nat.le_refl _) _).setCell (Nat.le_refl _) _⟩
      rw [if_pos rfl, ← HTS2.out]
      have hne : (Value.slice A' m c').ownBlock ≠ some w.heap.size := fun e => by have := (HO.out.lt _ e).1; omega
      exact own_less (own_far_any (own_far_any HO.out (p := ⟨w.heap.size, 0, none⟩) hne _) (p := ⟨w.heap.size, 1, none⟩) hne _) (by omega)
    | bad p cn c9 hpos hbad =>
      rcases hbad with ⟨h1, rfl⟩ | ⟨h1, h2, h3, rfl⟩ | ⟨h1, h2, ⟨c1, g1, g2, rfl⟩ | ⟨d, e, g1, g2, rfl⟩ | ⟨d, e, c1, g1, g2, g3, g4, rfl⟩ | ⟨d, e, m5, e2, g1, g2, g3, g4, rfl⟩⟩
      · obtain rfl : ix = N := by omega
        go_wp2_with fail
        refine (refat_any _ _ _).mono ?_
        rintro e w3 ⟨rfl, y3⟩
        have F3 := FR.on y3
        have Y3 := yr.trans (y3.mono yr.size)
        obtain ⟨f0, f1, f2, f3, f4⟩ := F3.facts
        go_wp2
        have r0 := ((F3.set0 (.int .i64 15)).set1 (.int .i64 (ix : Nat))).c0
        have r1 := ((F3.set0 (.int .i64 15)).set1 (.int .i64 (ix : Nat))).c1
        exact bodyPost_ret (v := .tuple #[.slice none 0 0, .int .i64 0, .agg #[.int .i64 15, .int .i64 (ix : Nat)]]) (by simp [results, Try.results31, go_sem, r0, r1]) rfl ⟨none, 0, 0, rfl, World.ownsRow_nil _ _ _ _, (Y3.setCell (Nat.le_refl _) _).setCell (Nat.le_refl _) _⟩
      · obtain ⟨b, off, rfl, hb, hc⟩ := RR.2.2.2 (by omega)
        have hcell := hc ix _ (ncells_get l ix (by omega))
        rw [h2] at hcell
        have p1 : (0 : Int) ≤ (ix : Int) := by omega
        have p2 : (ix : Int) < (N : Int) := by omega
        clear hc
        have e9 : decide (((N : Nat) : Int) < ((ix : Nat) : Int) + 9) = true := by simp; omega
        clear h2
        go_wp2_with fail
        refine (refat_any _ _ _).mono ?_
        rintro e w3 ⟨rfl, y3⟩
        have F3 := FR.on y3
        have Y3 := yr.trans (y3.mono yr.size)
        obtain ⟨f0, f1, f2, f3, f4⟩ := F3.facts
        go_wp2
        have r0 := ((F3.set0 (.int .i64 15)).set1 (.int .i64 (ix : Nat))).c0
        have r1 := ((F3.set0 (.int .i64 15)).set1 (.int .i64 (ix : Nat))).c1
        exact bodyPost_ret (v := .tuple #[.slice none 0 0, .int .i64 0, .agg #[.int .i64 15, .int .i64 (ix : Nat)]]) (by simp [results, Try.results31, go_sem, r0, r1]) rfl ⟨none, 0, 0, rfl, World.ownsRow_nil _ _ _ _, (Y3.setCell (Nat.le_refl _) _).setCell (Nat.le_refl _) _⟩
      · obtain ⟨b, off, rfl, hb, hc⟩ := RR.2.2.2 (by omega)
        have hcell := hc ix _ (ncells_get l ix (by omega))
        rw [h2] at hcell
        have p1 : (0 : Int) ≤ (ix : Int) := by omega
        have p2 : (ix : Int) < (N : Int) := by omega
        clear hc
        clear h2
        have HG1 := Lib.hid g1
        have HCD := Lib.hid g2
        have hq1 : (((cd : Nat) : Int) == 0) = false := by rw [beq_eq_false_iff_ne]; omega
        have hq2 : (((cd : Nat) : Int) != 0) = true := by rw [bne_iff_ne]; omega
        clear g1
        go_wp2_with fail
        refine (gammaat_any RR H01.out (by omega) (by omega) (by omega) HG1.out).mono ?_
        rintro e w9 ⟨rfl, rfl⟩
        go_wp2_with fail
        refine (refat_any _ _ _).mono ?_
        rintro e w3 ⟨rfl, y3⟩
        have F3 := FR.on y3
        have Y3 := yr.trans (y3.mono yr.size)
        obtain ⟨f0, f1, f2, f3, f4⟩ := F3.facts
        go_wp2
        have r0 := ((F3.set0 (.int .i64 (cd : Nat))).set1 (.int .i64 (ix : Nat))).c0
        have r1 := ((F3.set0 (.int .i64 (cd : Nat))).set1 (.int .i64 (ix : Nat))).c1
        exact bodyPost_ret (v := .tuple #[.slice none 0 0, .int .i64 0, .agg #[.int .i64 (cd : Nat), .int .i64 (ix : Nat)]]) (by simp [results, Try.results31, go_sem, r0, r1]) rfl ⟨none, 0, 0, by rw [if_neg HCD.out, if_neg HCD.out]; rfl, by rw [if_neg HCD.out]; exact World.ownsRow_nil _ _ _ _, (Y3.setCell (Nat.le_refl _) _).setCell (Nat.le_refl _) _⟩
      · obtain ⟨b, off, rfl, hb, hc⟩ := RR.2.2.2 (by omega)
        have hcell := hc ix _ (ncells_get l ix (by omega))
        rw [h2] at hcell
        have p1 : (0 : Int) ≤ (ix : Int) := by omega
        have p2 : (ix : Int) < (N : Int) := by omega
        clear hc
        clear h2
        have HG1 := Lib.hid g1
        clear g1
        go_wp2_with fail
        refine (gammaat_any RR H01.out (by omega) (by omega) (by omega) HG1.out).mono ?_
        rintro e w9 ⟨rfl, rfl⟩
        go_wp2_with fail
        refine (refat_any _ _ _).mono ?_
        rintro e w3 ⟨rfl, y3⟩
        have F3 := FR.on y3
        have Y3 := yr.trans (y3.mono yr.size)
        obtain ⟨f0, f1, f2, f3, f4⟩ := F3.facts
        go_wp2
        have r0 := ((F3.set0 (.int .i64 16)).set1 (.int .i64 (ix : Nat))).c0
        have r1 := ((F3.set0 (.int .i64 16)).set1 (.int .i64 (ix : Nat))).c1
        exact bodyPost_ret (v := .tuple #[.slice none 0 0, .int .i64 0, .agg #[.int .i64 16, .int .i64 (ix : Nat)]]) (by simp [results, Try.results31, go_sem, r0, r1]) rfl ⟨none, 0, 0, rfl, World.ownsRow_nil _ _ _ _, (Y3.setCell (Nat.le_refl _) _).setCell (Nat.le_refl _) _⟩
      · obtain ⟨b, off, rfl, hb, hc⟩ := RR.2.2.2 (by omega)
        have hcell := hc ix _ (ncells_get l ix (by omega))
        rw [h2] at hcell
        have p1 : (0 : Int) ≤ (ix : Int) := by omega
        have p2 : (ix : Int) < (N : Int) := by omega
        clear hc
        clear h2
        have HG1 := Lib.hid g1
        have HG3 := Lib.hid g3
        have HCD := Lib.hid g4
        have hge := (gat_end g1).1
        have hq1 : (((cd : Nat) : Int) == 0) = false := by rw [beq_eq_false_iff_ne]; omega
        have hq2 : (((cd : Nat) : Int) != 0) = true := by rw [bne_iff_ne]; omega
        clear g1 g3
        go_wp2_with fail
        refine (gammaat_any RR H01.out (by omega) (by omega) (by omega) HG1.out).mono ?_
        rintro e w9 ⟨rfl, rfl⟩
        go_wp2_with fail
        refine (gammaat_any RR H01.out (by omega) hge rfl HG3.out).mono ?_
        rintro e w9 ⟨rfl, rfl⟩
        go_wp2_with fail
        refine (refat_any _ _ _).mono ?_
        rintro e w3 ⟨rfl, y3⟩
        have F3 := FR.on y3
        have Y3 := yr.trans (y3.mono yr.size)
        obtain ⟨f0, f1, f2, f3, f4⟩ := F3.facts
        go_wp2
        have r0 := ((F3.set0 (.int .i64 (cd : Nat))).set1 (.int .i64 (ix : Nat))).c0
        have r1 := ((F3.set0 (.int .i64 (cd : Nat))).set1 (.int .i64 (ix : Nat))).c1
        exact bodyPost_ret (v := .tuple #[.slice none 0 0, .int .i64 0, .agg #[.int .i64 (cd : Nat), .int .i64 (ix : Nat)]]) (by simp [results, Try.results31, go_sem, r0, r1]) rfl ⟨none, 0, 0, by rw [if_neg HCD.out, if_neg HCD.out]; rfl, by rw [if_neg HCD.out]; exact World.ownsRow_nil _ _ _ _, (Y3.setCell (Nat.le_refl _) _).setCell (Nat.le_refl _) _⟩
      · obtain ⟨b, off, rfl, hb, hc⟩ := RR.2.2.2 (by omega)
        have hcell := hc ix _ (ncells_get l ix (by omega))
        rw [h2] at hcell
        have p1 : (0 : Int) ≤ (ix : Int) := by omega
        have p2 : (ix : Int) < (N : Int) := by omega
        clear hc
        clear h2
        have HG1 := Lib.hid g1
        have HG3 := Lib.hid g3
        have hge := (gat_end g1).1
        have hv5 := gat_val H01.out g3
        clear g1 g3
        go_wp2_with fail
        refine (gammaat_any RR H01.out (by omega) (by omega) (by omega) HG1.out).mono ?_
        rintro e w9 ⟨rfl, rfl⟩
        go_wp2_with fail
        refine (gammaat_any RR H01.out (by omega) hge rfl HG3.out).mono ?_
        rintro e w9 ⟨rfl, rfl⟩
        go_wp2_with fail
        refine (refat_any _ _ _).mono ?_
        rintro e w3 ⟨rfl, y3⟩
        have F3 := FR.on y3
        have Y3 := yr.trans (y3.mono yr.size)
        obtain ⟨f0, f1, f2, f3, f4⟩ := F3.facts
        go_wp2
        have r0 := ((F3.set0 (.int .i64 16)).set1 (.int .i64 (ix : Nat))).c0
        have r1 := ((F3.set0 (.int .i64 16)).set1 (.int .i64 (ix : Nat))).c1
        exact bodyPost_ret (v := .tuple #[.slice none 0 0, .int .i64 0, .agg #[.int .i64 16, .int .i64 (ix : Nat)]]) (by simp [results, Try.results31, go_sem, r0, r1]) rfl ⟨none, 0, 0, rfl, World.ownsRow_nil _ _ _ _, (Y3.setCell (Nat.le_refl _) _).setCell (Nat.le_refl _) _⟩
    | cons p cn t e9 c9 i9 ts' en9 hpos hok hrest =>
      obtain ⟨f1, f2, f3, f4, f5⟩ := hok.facts H01.out hpos
      rcases hok with ⟨h1, h2, h3, rfl, rfl⟩ | ⟨h1, h2, d, e1, m5, g1, g2, g3, g4, rfl⟩
      · obtain ⟨b, off, rfl, hb, hc⟩ := RR.2.2.2 (by omega)
        have hcell := hc pos _ (ncells_get l pos (by omega))
        rw [h2] at hcell
        have p1 : (0 : Int) ≤ (pos : Int) := by omega
        have p2 : (pos : Int) < (N : Int) := by omega
        clear hc
        clear h2
        obtain ⟨v, hv⟩ : ∃ v, v = num ((l.drop (pos + 1)).take 8) := ⟨_, rfl⟩
        rw [← hv] at hrest f5
        have hv256 : v < 256 := f5
        have HR := Lib.hid hrest
        have HV := Lib.hid hv
        obtain ⟨As, hsl, RS⟩ := Rd.cut (P := Try.prog) 48 3 i0 Try.underlying48 hi hz1 (show Rd wr (some ⟨b, off, none⟩) l.length c (ncells l) by rw [← HN.out]; exact RR) (pos + 1) (pos + 9) (by omega) (by omega)
        have e8 : pos + 9 - (pos + 1) = 8 := by omega
        rw [e8] at hsl RS
        rw [← HN.out] at hsl
        have hsl2 : ∀ W, (Instr.slice 48 (.slice (some ⟨b, off, none⟩) N c) (some (.int .i64 ((pos : Int) + 1))) (some (.int .i64 ((pos : Int) + 9))) none).run Try.prog W = .ok (.slice As 8 (c - (pos + 1))) W := fun W => by
          have := hsl W
          rwa [show (((pos + 1 : Nat) : Int)) = (pos : Int) + 1 by omega, show (((pos + 9 : Nat) : Int)) = (pos : Int) + 9 by omega] at this
        have u1 : IntKind.u8.wrap ((v : Nat) : Int) = ((v : Nat) : Int) := by rw [IntKind.wrap_u8]; omega
        have tl1 : tlen ⟨0, 0, v⟩ = 1 := rfl
        clear hrest hv hsl e8 f1 f2 f3 f4 f5 tl1 hz0 hz1 hz2 hi
        go_wp2_with fail
        refine (numref_any RS ((H01.out.drop _).take _) (by rw [List.length_take]; omega)).mono ?_
        rintro e w9 ⟨rfl, rfl⟩
        rw [← HV.out]
        go_wp2_with (at_builtin; refine wpList_tok1 _ rfl _ _ 23 rfl (w.heap.size + 1) 37 i1 _ 24 Try.underlying23 ti tz0 tz1 tz2 rfl _ _ _ rfl HO.out _ _ _ (tcells_one [⟨0, 0, v⟩]) rfl ?g1 ?g2 FRlt ?_)
        case g1 => unfold maxLen; omega
        case g2 => omega
        intro A5 c5 w5 ho5 hg5
        have nF : some w.heap.size ≠ (Value.slice A' m c').ownBlock := fun e => by have := (HO.out.lt _ e.symm).1; omega
        have F5 := FR.grown hg5 nF
        have Y5 := below_grown yr HO.out hg5 (by omega) yr.size
        have HO5 := Lib.hid (show w5.ownsRow (w.heap.size + 1) 37 3 (.slice A5 (m + 1) c5) (m + 1) (tcells (done ++ [⟨0, 0, v⟩])) by rw [tcells_append]; simpa [tcells, tcell] using ho5)
        clear ho5 hg5 nF
        go_wp2_with fail
        go_roundw
        case rel => exact ⟨cnt - 1, pos + 9, m + 1, A5, c5, _, ts', by omega, by omega, by omega, congrArg (Value.int .i64) (by omega), congrArg (Value.int .i64) (by omega), rfl, Y5, F5, HO5.out, HR.out, by rw [← HTS.out, List.append_assoc, HV.out]; rfl⟩
        case measure => simp [intOf] <;> omega
      · obtain ⟨b, off, rfl, hb, hc⟩ := RR.2.2.2 (by omega)
        have hcell := hc pos _ (ncells_get l pos (by omega))
        rw [h2] at hcell
        have p1 : (0 : Int) ≤ (pos : Int) := by omega
        have p2 : (pos : Int) < (N : Int) := by omega
        clear hc
        clear h2
        have HG1 := Lib.hid g1
        have HG3 := Lib.hid g3
        have HR := Lib.hid hrest
        have hge := (gat_end g1).1
        have hge2 := (gat_end g3).1
        have hv5 := gat_val H01.out g3
        have htl : tlen ⟨(d : Nat), ((m5 + 2 : Nat) : Int), 0⟩ = m5 + 2 := by
          have hd1 := gat_pos H01.out g1
          unfold tlen; dsimp only; rw [if_neg (by omega)]; omega
        have HTL := Lib.hid htl
        clear g1 g3 hrest f1 f2 f3 f4 f5 htl hz0 hz1 hz2 hi
        go_wp2_with fail
        refine (gammaat_any RR H01.out (by omega) (by omega) (by omega) HG1.out).mono ?_
        rintro e w9 ⟨rfl, rfl⟩
        go_wp2_with fail
        refine (gammaat_any RR H01.out (by omega) hge rfl HG3.out).mono ?_
        rintro e w9 ⟨rfl, rfl⟩
        go_wp2_with (at_builtin; refine wpList_tok1 _ rfl _ _ 23 rfl (w.heap.size + 1) 37 i1 _ 24 Try.underlying23 ti tz0 tz1 tz2 rfl _ _ _ rfl HO.out _ _ _ (tcells_one [⟨(d : Nat), ((m5 : Int) + 2), 0⟩]) rfl ?g1 ?g2 FRlt ?_)
        case g1 => unfold maxLen; omega
        case g2 => omega
        intro A5 c5 w5 ho5 hg5
        have nF : some w.heap.size ≠ (Value.slice A' m c').ownBlock := fun e => by have := (HO.out.lt _ e.symm).1; omega
        have F5 := FR.grown hg5 nF
        have Y5 := below_grown yr HO.out hg5 (by omega) yr.size
        have HO5 := Lib.hid (show w5.ownsRow (w.heap.size + 1) 37 3 (.slice A5 (m + 1) c5) (m + 1) (tcells (done ++ [⟨(d : Nat), ((m5 + 2 : Nat) : Int), 0⟩])) by rw [tcells_append]; simpa [tcells, tcell] using ho5)
        clear ho5 hg5 nF
        go_wp2_with fail
        go_roundw
        case rel => exact ⟨cnt - (m5 + 2), e9, m + 1, A5, c5, _, ts', by omega, by omega, by omega, congrArg (Value.int .i64) (by omega), rfl, rfl, Y5, F5, HO5.out, by have := HR.out; rwa [HTL.out] at this, by rw [← HTS.out, List.append_assoc]; rfl⟩
        case measure => simp [intOf] <;> omega
end PB
end Go.Proofs.Ytlhglomhfbbinaa
