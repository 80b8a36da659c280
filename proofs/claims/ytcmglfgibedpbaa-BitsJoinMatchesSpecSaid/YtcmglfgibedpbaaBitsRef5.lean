/-
  The reference's functions on bits: JoinFault and Joined.
-/
import Derived.Test.YtcmglfgibedpbaaRows
import Derived.Test.YtcmglfgibedpbaaBitsItems
namespace Go.Proofs.Ytcmglfgibedpbaa
open Go.RowKit
set_option linter.unusedVariables false
set_option linter.unusedSimpArgs false
namespace PB
/-- An element of a slice of bit strings: its cells as the walk spells them. -/
theorem RdB.at {w : World} {A : Option Addr} {n c : Nat} {xs : List BItem} (h : RdB w A n c xs) (k : Nat) (hk : k < xs.length) :
    ∃ b off, A = some ⟨b, off, none⟩ ∧ b < w.heap.size ∧ w.cell? ⟨b, off + k * 2, none⟩ = some (.slice xs[k].A xs[k].n xs[k].c) ∧ w.cell? ⟨b, off + k * 2 + 1, none⟩ = some (.int .i64 xs[k].cnt) ∧ Rd w xs[k].A xs[k].n xs[k].c (bcells xs[k].d) := by
  have h0 := h.1
  obtain ⟨b, off, e, hlt, hc⟩ := h.2.2.2 (by omega)
  obtain ⟨q1, q2, q3⟩ := hc k xs[k] (List.getElem?_eq_getElem hk)
  exact ⟨b, off, e, hlt, q1, q2, q3⟩
set_option maxHeartbeats 800000 in
theorem joinfault_any {A : Option Addr} {n c : Nat} {xs : List BItem} {code idx : Int} {w : World} (h : RdB w A n c xs) (hw : ∀ x ∈ xs, x.wf) (hJ : JOut xs code idx) :
    Calls Try.prog 34 #[.slice A n c] w fun e w' => e = .returned (.agg #[.int .i64 code, .int .i64 idx]) ∧ Below w.heap.size w w' := by
  have hn := h.1
  have hcap := h.2.1
  have hcm := h.2.2.1
  unfold maxLen at hcm
  obtain rfl := hn
  have F0 := Two.new w 26 (.int .i64 0) (.int .i64 0)
  have y0 : Below w.heap.size w (w.alloc (.cells #[.int .i64 0, .int .i64 0] 26)) := (Below.refl _ _).alloc (Nat.le_refl _) _
  have HW := Lib.hid hw
  clear hw
  by_cases hlong : 256 < xs.length
  · obtain ⟨rfl, rfl⟩ : code = 2 ∧ idx = -1 := by
      rcases hJ with ⟨_, h1, h2⟩ | ⟨h1, _⟩ | ⟨h1, _⟩ | ⟨h1, _⟩
      · exact ⟨h1, h2⟩
      all_goals omega
    clear hJ
    go_enter Try.func34, Try.ntmps34
    go_wp2_with fail
    refine (refat_any _ _ _).mono ?_
    rintro e w1 ⟨rfl, y1⟩
    have F1 := F0.on y1
    have Y1 := y0.trans (y1.mono y0.size)
    obtain ⟨f0, f1, f2, f3, f4⟩ := F1.facts
    go_wp2
    have hB := (F1.set0 (.int .i64 2)).set1 (.int .i64 (-1))
    have r0 := hB.c0
    have r1 := hB.c1
    exact bodyPost_ret (v := .agg #[.int .i64 2, .int .i64 (-1)]) (by simp [results, Try.results34, go_sem, r0, r1]) rfl ⟨rfl, (Y1.setCell (by simp) _).setCell (by simp) _⟩
  have hJ2 : ∃ q, q ≤ xs.length ∧ AllOk xs q ∧ ((∃ h : q < xs.length, ¬ xs[q].ok ∧ code = 6 ∧ idx = (q : Nat)) ∨ (q = xs.length ∧ ((131072 < (joined xs).length ∧ code = 14 ∧ idx = -1) ∨ ((joined xs).length ≤ 131072 ∧ code = 0 ∧ idx = 0)))) := by
    rcases hJ with ⟨h0, _⟩ | ⟨_, q, h0, h1, h2, h3, h4⟩ | ⟨_, h1, h2, h3, h4⟩ | ⟨_, h1, h2, h3, h4⟩
    · omega
    · exact ⟨q, by omega, h1, .inl ⟨h0, h2, h3, h4⟩⟩
    · exact ⟨_, Nat.le_refl _, h1, .inr ⟨rfl, .inl ⟨h2, h3, h4⟩⟩⟩
    · exact ⟨_, Nat.le_refl _, h1, .inr ⟨rfl, .inr ⟨h2, h3, h4⟩⟩⟩
  obtain ⟨q, hq, hall, hend⟩ := hJ2
  have HJL := Lib.hid (joined_take_le xs q hall)
  have HA := Lib.hid hall
  have HE := Lib.hid hend
  clear hJ hall hend
  have hlen : xs.length ≤ 256 := by omega
  go_enter Try.func34, Try.ntmps34
  go_wp2_with fail
  go_loopw [3, 4] (fun t i wr => ∃ k : Nat, k ≤ q ∧ i = .int .i64 k ∧ t = .int .i64 ((joined (xs.take k)).length : Nat) ∧ Below w.heap.size w wr ∧ Two wr w.heap.size 26 (.int .i64 0) (.int .i64 0)) (fun _ i _ => xs.length - (intOf i).toNat)
  case atStart => exact ⟨0, Nat.zero_le _, rfl, rfl, y0, F0⟩
  case round =>
    obtain ⟨k, hk, rfl, rfl, yr, FR⟩ := hrel
    clear y0 F0
    have hT := HJL.out k hk
    obtain ⟨T, hTT⟩ : ∃ T, T = (joined (xs.take k)).length := ⟨_, rfl⟩
    rw [← hTT] at hT ⊢
    have HT := Lib.hid hTT
    have hT2 : T ≤ 40000000 := by omega
    clear hTT hT
    by_cases hlt : k < xs.length
    · obtain ⟨b, off, rfl, hb, q1, q2, R⟩ := (h.on yr).at k hlt
      obtain ⟨x, hx⟩ : ∃ x, x = xs[k] := ⟨_, rfl⟩
      rw [← hx] at q1 q2 R
      have hxw : x.wf := by rw [hx]; exact HW.out _ (List.getElem_mem hlt)
      have HX := Lib.hid hx
      clear hx
      obtain ⟨g1, g2, g3⟩ := hxw
      have G1 := Lib.hid g1
      clear g1
      by_cases hkq : k < q
      · have hok : x.ok := by rw [HX.out]; exact HA.out k hlt hkq
        have hcnt := hok.1
        have hcnt2 := hok.2.1
        have HOK := Lib.hid hok
        clear hok
        go_wp2_with fail
        refine (bitsok_any R G1.out g2 g3 true ⟨fun _ => HOK.out, fun _ => rfl⟩).mono ?_
        rintro e w1 ⟨rfl, y1⟩
        obtain ⟨b', off', he, hb', q1', q2', R'⟩ := ((h.on yr).on y1).at k hlt
        cases he
        rw [← HX.out] at q2'
        have Y1 := yr.trans (y1.mono yr.size)
        have F1 := FR.on y1
        have HS := Lib.hid (show ((joined (xs.take (k + 1))).length : Int) = T + x.cnt by
          rw [joined_take_succ xs k hlt, List.length_append, ← HX.out, HT.out, ← BItem.bits_length x HOK.out]; omega)
        go_wp2
        go_roundw
        case rel => exact ⟨k + 1, by omega, by go_num, congrArg (Value.int .i64) HS.out.symm, Y1, F1⟩
        case measure => simp [intOf]; omega
      · obtain rfl : k = q := by omega
        rcases HE.out with ⟨_, hbad, rfl, rfl⟩ | ⟨h1, _⟩
        · have HB := Lib.hid (show ¬ Ok x.d x.cnt by rw [HX.out]; exact hbad)
          clear hbad
          go_wp2_with fail
          refine (bitsok_any R G1.out g2 g3 false ⟨(fun h => by cases h), fun h => absurd h HB.out⟩).mono ?_
          rintro e w1 ⟨rfl, y1⟩
          have Y1 := yr.trans (y1.mono yr.size)
          have F1 := FR.on y1
          go_wp2_with fail
          refine (refat_any _ _ _).mono ?_
          rintro e w2 ⟨rfl, y2⟩
          have Y2 := Y1.trans (y2.mono Y1.size)
          have F2 := F1.on y2
          obtain ⟨f0, f1, f2, f3, f4⟩ := F2.facts
          go_wp2
          have hB := (F2.set0 (.int .i64 6)).set1 (.int .i64 (k : Nat))
          have r0 := hB.c0
          have r1 := hB.c1
          exact bodyPost_ret (v := .agg #[.int .i64 6, .int .i64 (k : Nat)]) (by simp [results, Try.results34, go_sem, r0, r1]) rfl ⟨rfl, (Y2.setCell (by simp) _).setCell (by simp) _⟩
        · omega
    · obtain rfl : k = xs.length := by omega
      rcases HE.out with ⟨h1, _⟩ | ⟨_, ⟨hs, rfl, rfl⟩ | ⟨hs, rfl, rfl⟩⟩
      · omega
      · have hT3 : 131072 < T := by rw [HT.out, List.take_of_length_le (Nat.le_refl _)]; exact hs
        clear hs
        go_wp2_with fail
        refine (refat_any _ _ _).mono ?_
        rintro e w2 ⟨rfl, y2⟩
        have Y2 := yr.trans (y2.mono yr.size)
        have F2 := FR.on y2
        obtain ⟨f0, f1, f2, f3, f4⟩ := F2.facts
        go_wp2
        have hB := (F2.set0 (.int .i64 14)).set1 (.int .i64 (-1))
        have r0 := hB.c0
        have r1 := hB.c1
        exact bodyPost_ret (v := .agg #[.int .i64 14, .int .i64 (-1)]) (by simp [results, Try.results34, go_sem, r0, r1]) rfl ⟨rfl, (Y2.setCell (by simp) _).setCell (by simp) _⟩
      · have hT3 : T ≤ 131072 := by rw [HT.out, List.take_of_length_le (Nat.le_refl _)]; exact hs
        clear hs
        obtain ⟨f0, f1, f2, f3, f4⟩ := FR.facts
        go_wp2
        have hB := (FR.set0 (.int .i64 0)).set1 (.int .i64 0)
        have r0 := hB.c0
        have r1 := hB.c1
        exact bodyPost_ret (v := .agg #[.int .i64 0, .int .i64 0]) (by simp [results, Try.results34, go_sem, r0, r1]) rfl ⟨rfl, (yr.setCell (by simp) _).setCell (by simp) _⟩
set_option maxHeartbeats 800000 in
/-- Joined: the packed form of all bits. -/
theorem joined_any {A : Option Addr} {n c : Nat} {xs : List BItem} {w : World} (h : RdB w A n c xs) (hw : ∀ x ∈ xs, x.wf) (hall : AllOk xs xs.length) (hlen : xs.length ≤ 256) (hs : (joined xs).length ≤ 131072) :
    Calls Try.prog 35 #[.slice A n c] w fun e w' => ∃ A' n' c', e = .returned (.agg #[.slice A' n' c', .int .i64 (joined xs).length]) ∧ Rd w' A' n' c' (bcells (pack (joined xs))) ∧ Below w.heap.size w w' := by
  obtain ⟨i0, hi, hz0, hz1, hz2⟩ := info_parts int_info
  have hn := h.1
  have hcap := h.2.1
  have hcm := h.2.2.1
  unfold maxLen at hcm
  obtain rfl := hn
  have F0 := Two.new w 24 (.slice none 0 0) (.int .i64 0)
  have y0 : Below w.heap.size w (w.alloc (.cells #[.slice none 0 0, .int .i64 0] 24)) := (Below.refl _ _).alloc (Nat.le_refl _) _
  have HW := Lib.hid hw
  have HJM := Lib.hid (fun k => Nat.le_trans (joined_take_mono xs k) hs)
  have HA := Lib.hid hall
  have HS := Lib.hid hs
  clear hw hall hs
  go_enter Try.func35, Try.ntmps35
  go_wp2_with fail
  go_loopw [3, 4] (fun t i wr => ∃ k m : Nat, k ≤ xs.length ∧ m = (joined (xs.take k)).length ∧ i = .int .i64 k ∧ Below w.heap.size w wr ∧ Two wr w.heap.size 24 (.slice none 0 0) (.int .i64 0) ∧ ∃ A1 c1, t = .slice A1 m c1 ∧ wr.ownsRow w.heap.size 3 1 (.slice A1 m c1) m (ncells (joined (xs.take k)))) (fun _ i _ => xs.length - (intOf i).toNat)
  case atStart => exact ⟨0, 0, Nat.zero_le _, rfl, rfl, y0, F0, none, 0, rfl, by simpa [ncells, joined] using World.ownsRow_nil _ _ _ _⟩
  case round =>
    obtain ⟨k, m, hk, hm, rfl, yr, FR, A1, c1, rfl, ho⟩ := hrel
    clear y0 F0
    have hmb : m ≤ 131072 := by rw [hm]; exact HJM.out k
    have HM := Lib.hid hm
    clear hm
    by_cases hlt : k < xs.length
    · obtain ⟨b, off, rfl, hb, q1, q2, R⟩ := (h.on yr).at k hlt
      obtain ⟨x, hx⟩ : ∃ x, x = xs[k] := ⟨_, rfl⟩
      rw [← hx] at q1 q2 R
      have hxw : x.wf := by rw [hx]; exact HW.out _ (List.getElem_mem hlt)
      have hok : x.ok := by rw [hx]; exact HA.out k hlt hlt
      obtain ⟨X, hX⟩ : ∃ X, X = x.bits := ⟨_, rfl⟩
      have hXl : x.cnt = ((X.length : Nat) : Int) := by rw [hX]; exact (BItem.bits_length x hok).symm
      have hXb : X.length ≤ 131072 := by rw [hX]; exact BItem.le x hok
      have HXD := Lib.hid (show x.d = pack X by rw [hX]; exact BItem.pack x hok hxw)
      have H01X := Lib.hid (show Is01 X by rw [hX]; exact BItem.bits_01 x)
      have HN := Lib.hid (show ncells (joined (xs.take (k + 1))) = ncells (joined (xs.take k)) ++ ncells X by
        rw [joined_take_succ xs k hlt, ← hx, ← hX, ncells_append])
      have HNL := Lib.hid (show m + X.length = (joined (xs.take (k + 1))).length by
        rw [joined_take_succ xs k hlt, ← hx, ← hX, List.length_append, HM.out])
      rw [HXD.out] at R
      rw [hXl] at q2
      clear hx hxw hok hX hXl
      go_wp2_with fail
      refine (bits_any R H01X.out hXb _ rfl).mono ?_
      rintro e w1 ⟨A2, c2, rfl, ho2, y1⟩
      have ho1 := own_on ho y1
      have Y1 := yr.trans (y1.mono yr.size)
      have F1 := FR.on y1
      go_wp2_with (at_builtin; refine wpList_append_any _ rfl _ _ _ rfl w.heap.size 3 i0 _ 8 Try.underlying35 hi hz0 hz1 hz2 rfl _ _ _ rfl ho1 _ _ X.length c2 _ rfl (Rd.own ho2) (ncells_one _) ?c1 ?c2 ?c3 ?_)
      case c1 => unfold maxLen; omega
      case c2 => omega
      case c3 => exact Y1.size
      intro A4 c4 w4 ho4 hg4 hat4
      have Y4 := below_grown Y1 ho1 hg4 (Nat.le_refl _) Y1.size
      have F4 := F1.grown hg4 (own_two_ne ho1 F1 (by decide)).symm
      have HO4 := Lib.hid ho4
      clear ho4
      go_wp2
      go_roundw
      case rel =>
        refine ⟨k + 1, m + X.length, by omega, HNL.out, by go_num, Y4, F4, A4, c4, rfl, ?_⟩
        rw [HN.out]
        exact HO4.out
      case measure => simp [intOf]; omega
    · obtain rfl : k = xs.length := by omega
      have hall2 : joined (xs.take xs.length) = joined xs := by rw [List.take_of_length_le (Nat.le_refl _)]
      rw [hall2] at ho HM
      have HM2 := Lib.hid (show ((m : Nat) : Int) = ((joined xs).length : Nat) by rw [HM.out])
      clear hall2
      go_wp2_with fail
      refine (packed_own _ HM.out (Rd.own ho) (joined_01 xs) (by have := HS.out; omega)).mono ?_
      rintro e w2 ⟨A2, n2, c2, rfl, ho2, y2⟩
      have Y2 := yr.trans (y2.mono yr.size)
      have F2 := FR.on y2
      obtain ⟨f0, f1, f2, f3, f4⟩ := F2.facts
      go_wp2
      have hB := (F2.set0 (.slice A2 n2 c2)).set1 (.int .i64 m)
      have r0 := hB.c0
      have r1 := hB.c1
      refine bodyPost_ret (v := .agg #[.slice A2 n2 c2, .int .i64 m]) (by simp [results, Try.results35, go_sem, r0, r1]) rfl ⟨A2, n2, c2, by rw [HM2.out], ?_, (Y2.setCell (by simp) _).setCell (by simp) _⟩
      have hq := own_two_ne ho2 F2 (by decide)
      exact Rd.own (own_far_any (own_far_any ho2 hq _) hq _)
end PB
end Go.Proofs.Ytcmglfgibedpbaa
