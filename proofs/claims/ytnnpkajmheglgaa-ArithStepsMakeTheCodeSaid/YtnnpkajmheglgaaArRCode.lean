/-
  The reference's Code: digits of all doublings, carries from the right.
-/
import Derived.Test.YtnnpkajmheglgaaArCho
import Derived.Deep.RegionHeld3
import Derived.Deep.Cut
namespace Go.Proofs.Ytnnpkajmheglgaa
open Go.RowKit
attribute [local go_sem ↓] Go.wp_at_zero Go.wp_at_succ
set_option linter.unusedVariables false
set_option linter.unusedSimpArgs false
namespace PB
theorem own_addr {w : World} {base : Nat} {e : TypeId} {A : Option Addr} {n c : Nat} {xs : List Value} (h : w.ownsRow base e 1 (.slice A n c) n xs) (hn : 0 < n) : ∃ g, A = some ⟨g, 0, none⟩ ∧ base ≤ g ∧ g < w.heap.size ∧ n ≤ c ∧ c ≤ maxLen := by
  obtain ⟨h1, h2⟩ := h
  rcases h2 with ⟨h2, h3⟩ | ⟨g, cap, cur, h2, h3, h4, h5, h6, _⟩
  · subst h3; simp at h1; omega
  · injection h2 with e1 e2 e3
    subst e1 e3
    refine ⟨g, rfl, h3, ?_, h5, h6⟩
    rcases Nat.lt_or_ge g w.heap.size with h | h
    · exact h
    · rw [Array.getElem?_eq_none h] at h4; cases h4
theorem erun_take_succ (cs : List Cho) (k : Nat) (h : k < cs.length) (lo hi : Int) : erun (cs.take (k + 1)) lo hi = ((stp (erun (cs.take k) lo hi).1 (erun (cs.take k) lo hi).2.1 cs[k].n cs[k].p).1, (stp (erun (cs.take k) lo hi).1 (erun (cs.take k) lo hi).2.1 cs[k].n cs[k].p).2.1, (erun (cs.take k) lo hi).2.2 ++ (stp (erun (cs.take k) lo hi).1 (erun (cs.take k) lo hi).2.1 cs[k].n cs[k].p).2.2) := by
  rw [List.take_succ_eq_append_getElem h, erun_snoc]
theorem mid_le {ds : List Nat} (h : ∀ d ∈ ds, d ≤ 2) {j : Nat} (hj : j < ds.length) : (mid ds j).getD j 0 ≤ 3 := by
  rw [mid_get hj, getD_lt hj]
  have a := h _ (List.getElem_mem hj)
  have b := res_carry (ds.drop (j + 1)) (fun d hd => h d (List.mem_of_mem_drop hd))
  omega
theorem mid_le2 {ds : List Nat} (h : ∀ d ∈ ds, d ≤ 2) {j i : Nat} (hj : j < ds.length) (hi : i < j) : (mid ds j).getD i 0 ≤ 2 := by
  rw [mid_low hj hi, getD_lt (by omega)]
  exact h _ (List.getElem_mem _)
theorem ncells_set (l : List Nat) (i v : Nat) : ncells (l.set i v) = (ncells l).set i (.int .i64 (v : Nat)) := by simp [ncells, List.map_set]
/-- The loop over the carries, from whatever place. -/
def digsAt (cs : List Cho) (k : Nat) : List Nat := 0 :: (erun (cs.take k) 0 65535).2.2
set_option maxRecDepth 100000 in
set_option maxHeartbeats 1600000 in
theorem refcode_any {A : Option Addr} {n c : Nat} {cs : List Cho} {w : World} (h : RdC w A n c cs) (hall : AllCho cs) (hl : cs.length ≤ 8192) :
    Calls Try.prog 16 #[.slice A n c] w fun e w' => ∃ A' n' c', e = .returned (.slice A' n' c') ∧ (acode cs).length = n' ∧ w'.ownsRow w.heap.size 3 1 (.slice A' n' c') n' (ncells (acode cs)) ∧ Below w.heap.size w w' := by
  obtain ⟨i0, hi0, hz0, hz1, hz2⟩ := info_parts int_info
  have hn := h.len
  have hcap := h.2.1
  have hcm := h.2.2.1
  unfold maxLen at hcm
  obtain rfl := hn
  have HA := Lib.hid hall
  have HTL := Lib.hid (fun k => erun_facts (cs.take k) (hall.take k) 0 65535 wid0)
  have HEND := Lib.hid (mid_end hall)
  have HDL := Lib.hid (show ∀ d ∈ digsOf cs, d ≤ 2 by
    intro d hd
    obtain ⟨_, _, f3⟩ := erun_facts cs hall 0 65535 wid0
    unfold digsOf at hd
    rcases List.mem_cons.1 hd with rfl | hd
    · omega
    · rcases List.mem_append.1 hd with hd | hd
      · exact f3 d hd
      · rw [List.mem_singleton] at hd; rw [hd]; split <;> omega)
  have HCL := Lib.hid (show (acode cs).length = (digsOf cs).length by rw [acode_length]; unfold digsOf; simp)
  have HDN := Lib.hid (show (digsOf cs).length ≤ 114690 by rw [← HCL.out]; exact acode_le hall hl)
  clear hall
  have z0 : Below w.heap.size w (w.alloc (.cells #[.int .i64 0] 3)) := (Below.refl _ _).alloc (Nat.le_refl _) _
  have o0 : (w.alloc (.cells #[.int .i64 0] 3)).ownsRow w.heap.size 3 1 (.slice (some ⟨w.heap.size, 0, none⟩) 1 1) 1 (ncells [0]) :=
    ⟨rfl, .inr ⟨w.heap.size, 1, #[.int .i64 0], rfl, Nat.le_refl _, heap_alloc_new w _, Nat.le_refl _, by decide, rfl, rfl⟩⟩
  go_enter Try.func16, Try.ntmps16
  go_wp2_with fail
  generalize (w.alloc (.cells #[.int .i64 0] 3)) = W at z0 o0 ⊢
  go_loopw [3, 4, 5, 6, 7, 16] (fun lv uv s i _ _ wr => ∃ (k m : Nat) (l u : Int) (A' : Option Addr) (c' : Nat), k ≤ cs.length ∧ i = .int .i64 (k : Nat) ∧ lv = .int .i64 l ∧ uv = .int .i64 u ∧ s = .slice A' m c' ∧ l = (erun (cs.take k) 0 65535).1 ∧ u = (erun (cs.take k) 0 65535).2.1 ∧ m = (digsAt cs k).length ∧
      Below w.heap.size w wr ∧ wr.ownsRow w.heap.size 3 1 (.slice A' m c') m (ncells (digsAt cs k))) (fun _ _ _ i _ _ _ => cs.length - (intOf i).toNat)
  case atStart => exact ⟨0, 1, 0, 65535, _, 1, Nat.zero_le _, rfl, rfl, rfl, rfl, rfl, rfl, rfl, z0, o0⟩
  case round =>
    obtain ⟨k, m, l, u, A', c', hk, rfl, rfl, rfl, rfl, hlo, hhi, hm, yr, ho⟩ := hrel
    have HO := Lib.hid ho
    have HLO := Lib.hid hlo
    have HHI := Lib.hid hhi
    have HM := Lib.hid hm
    have hys := yr.size
    have hmb : m ≤ 200000 := by
      have := (HTL.out k).2.1
      rw [List.length_take] at this
      rw [hm]; unfold digsAt; rw [List.length_cons]; omega
    clear ho hlo hhi hm z0 o0
    by_cases hlt : k < cs.length
    · have hR := h.on yr
      obtain ⟨g, off, rfl, hg, q1, q2⟩ := hR.at k hlt
      obtain ⟨x, hx⟩ : ∃ x, x = cs[k] := ⟨_, rfl⟩
      have hok := HA.out _ (List.getElem_mem hlt)
      have hes := erun_take_succ cs k hlt 0 65535
      rw [← hx] at q1 q2 hok hes
      rw [← HLO.out, ← HHI.out] at hes
      obtain ⟨LO, hLO⟩ : ∃ LO, LO = (stp l u x.n x.p).1 := ⟨_, rfl⟩
      obtain ⟨HI, hHI⟩ : ∃ HI, HI = (stp l u x.n x.p).2.1 := ⟨_, rfl⟩
      obtain ⟨R, hRR⟩ : ∃ R, R = (stp l u x.n x.p).2.2 := ⟨_, rfl⟩
      rw [← hLO, ← hHI, ← hRR] at hes
      have hw : Wid l u := by have := (HTL.out k).1; rwa [← HLO.out, ← HHI.out] at this
      have hR14 : R.length ≤ 14 := by rw [hRR]; exact (stp_facts x.n hw hok.2.1 hok.2.2).2.1
      have HSN := Lib.hid hes
      have HDA := Lib.hid (show digsAt cs (k + 1) = digsAt cs k ++ R by unfold digsAt; rw [hes]; rfl)
      have HXX := Lib.hid (show cs[k]? = some x by rw [hx]; exact List.getElem?_eq_getElem hlt)
      have hbe := hok.n_eq
      have HST := Lib.hid (fun (W : World) => steps_any hw hok.2.1 hok.2.2 hok.n_le LO HI R hLO hHI hRR x.b hbe W)
      obtain ⟨xb, xp⟩ := x
      dsimp only at q1 q2 HST
      have i1 : (0 : Int) ≤ (k : Int) := by omega
      have i2 : (k : Int) < (cs.length : Int) := by omega
      clear hes hw hLO hHI hRR hok hx hbe
      go_wp2_with fail
      go_region_held3 (fun w' => w'.cell? ⟨g, off + k * 2, none⟩ = some (.int .i64 xb) ∧ w'.cell? ⟨g, off + k * 2 + 1, none⟩ = some (.int .i64 xp)) (go_keep) ((go_at_call 30; refine (HST.out _).mono ?_; rintro e w5 ⟨A5, n5, c5, rfl, hn5, o5, y5⟩; have Y5 : Below wr.heap.size wr.drew w5 := y5; have R5 := RdC.on (w := wr.drew) hR.drew Y5; have a1 := (R5.cells HXX.out).2.1; have a2 := (R5.cells HXX.out).2.2))
      have HO1 := Lib.hid (own_on (w := wr.drew) (own_drew HO.out) Y5)
      have Y6 := (belowD yr).trans (Below.mono (w := wr.drew) Y5 yr.size)
      have ys6 := Y6.size
      have R6 := Rd.own o5
      have hn14 : n5 ≤ 14 := by omega
      have HN5 := Lib.hid hn5
      have HBC := Lib.hid (show ncells (digsAt cs (k + 1)) = ncells (digsAt cs k) ++ ncells R by rw [HDA.out, ncells_append])
      clear a1 a2 R5 y5 Y5 o5 q1 q2 hn5 hR
      go_wp2_with (at_builtin; refine wpList_append_any _ rfl _ _ _ rfl w.heap.size 3 i0 _ 8 Try.underlying34 hi0 hz0 hz1 hz2 rfl _ _ _ rfl HO1.out _ _ n5 c5 _ rfl R6 (ncells_one _) ?g1 ?g2 ys6 ?_)
      case g1 => unfold maxLen; omega
      case g2 => omega
      intro A4 c4 w4 o4 g4 a4
      have Y4 := below_grown Y6 HO1.out g4 (Nat.le_refl _) ys6
      rw [← HBC.out] at o4
      have HO4 := Lib.hid o4
      clear o4 a4 g4
      go_wp2_with fail
      go_roundw
      case rel => exact ⟨k + 1, m + n5, LO, HI, A4, c4, by omega, by go_num, rfl, rfl, rfl, by rw [HSN.out], by rw [HSN.out], by rw [HDA.out, List.length_append, ← HM.out, HN5.out], Y4, HO4.out⟩
      case measure => simp [intOf] <;> omega
    · obtain rfl : k = cs.length := by omega
      have e1 := HLO.out
      have e2 := HM.out
      have e3 := HO.out
      rw [List.take_of_length_le (Nat.le_refl _)] at e1
      have e4 : digsOf cs = digsAt cs cs.length ++ [if l < 16384 then 1 else 2] := by unfold digsOf digsAt; rw [e1, List.take_of_length_le (Nat.le_refl _)]; rfl
      have HD4 := Lib.hid e4
      have HM2 := Lib.hid (show m + 1 = (digsOf cs).length by rw [e4, List.length_append, ← e2]; rfl)
      clear e1 e2 e3 e4
      by_cases hlast : l < 16384
      · have k1 : decide (l < 16384) = true := by simpa using hlast
        have HBC := Lib.hid (show ncells (digsOf cs) = ncells (digsAt cs cs.length) ++ [.int .i64 1] by rw [HD4.out, if_pos hlast, ncells_append]; rfl)
        clear hlast
        go_wp2_with (at_builtin; refine wpList_app1 _ rfl _ _ _ rfl w.heap.size 3 i0 _ 8 Try.underlying34 hi0 hz0 hz1 hz2 rfl _ _ _ rfl HO.out (.int .i64 1) rfl rfl ?g1 ?g2 hys ?_)
        case g1 => unfold maxLen; omega
        case g2 => omega
        intro A4 c4 w4 o4 g4
        have Y4 := below_grown yr HO.out g4 (Nat.le_refl _) hys
        rw [← HBC.out] at o4
        obtain ⟨g, rfl, hg1, hg2, hg3, hg4⟩ := own_addr o4 (by omega)
        unfold maxLen at hg4
        have HO4 := Lib.hid o4
        have Y4s := Y4.size
        clear o4 g4
        go_wp2_with fail
        go_loopw [8] (fun i wr => ∃ j : Nat, j ≤ m ∧ i = .int .i64 (j : Nat) ∧ Below w.heap.size w wr ∧ wr.ownsRow w.heap.size 3 1 (.slice (some ⟨g, 0, none⟩) (m + 1) c4) (m + 1) (ncells (mid (digsOf cs) j))) (fun i _ => (intOf i).toNat)
        case atStart => exact ⟨m, Nat.le_refl _, by go_num, Y4, by have e := mid_start (ds := digsOf cs) (by rw [← HM2.out]; omega); rw [← HM2.out, Nat.add_sub_cancel] at e; rw [e]; exact HO4.out⟩
        case round =>
          obtain ⟨j, hj, rfl, Y5, o5⟩ := hrel
          have HO5 := Lib.hid o5
          by_cases hj0 : 0 < j
          · have hjl : j < (digsOf cs).length := by rw [← HM2.out]; omega
            obtain ⟨av, hav⟩ : ∃ av, av = (mid (digsOf cs) j).getD (j - 1) 0 := ⟨_, rfl⟩
            obtain ⟨bv, hbv⟩ : ∃ bv, bv = (mid (digsOf cs) j).getD j 0 := ⟨_, rfl⟩
            have ha2 : av ≤ 2 := by rw [hav]; exact mid_le2 HDL.out hjl (by omega)
            have hb3 : bv ≤ 3 := by rw [hbv]; exact mid_le HDL.out hjl
            have HSTP := Lib.hid (show ncells (mid (digsOf cs) (j - 1)) = ((ncells (mid (digsOf cs) j)).set (j - 1) (.int .i64 ((av : Int) + (bv : Int) / 2))).set j (.int .i64 ((bv : Int) % 2)) by rw [mid_step hj0 hjl, ncells_set, ncells_set, ← hav, ← hbv]; simp)
            have hl1 : (mid (digsOf cs) j).length = m + 1 := by rw [mid_length hjl, HM2.out]
            have ca := o5.cellAt (j - 1) (by omega)
            have cb := o5.cellAt j (by omega)
            rw [ncells_get _ _ (by omega), ← hav] at ca
            rw [ncells_get _ _ (by omega), ← hbv] at cb
            have fa := o5.frozenAt (j - 1)
            have fb := o5.frozenAt j
            have s1 := own_drew (o5.stored (j - 1) (.int .i64 ((av : Int) + (bv : Int) / 2))).1
            have cb2 : (wr.setCell ⟨g, j - 1, none⟩ (.int .i64 ((av : Int) + (bv : Int) / 2))).drew.cell? ⟨g, j, none⟩ = some (.int .i64 (bv : Nat)) := by
              have := s1.cellAt j (by omega)
              rw [List.getElem?_set_ne (by omega), ncells_get _ _ (by omega), ← hbv] at this
              exact this
            have s2 := (s1.stored j (.int .i64 ((bv : Int) % 2))).1
            rw [← HSTP.out] at s2
            have HS2 := Lib.hid s2
            have Y6 := (belowD (Y5.setCell (p := ⟨g, j - 1, none⟩) hg1 (.int .i64 ((av : Int) + (bv : Int) / 2)))).setCell (p := ⟨g, j, none⟩) hg1 (.int .i64 ((bv : Int) % 2))
            have t1 : (((j : Int) - 1)).toNat = j - 1 := by omega
            have t2 : (0 : Int) ≤ (j : Int) - 1 := by omega
            have t3 : (j : Int) - 1 < ((m + 1 : Nat) : Int) := by omega
            have t4 : (j : Int) < ((m + 1 : Nat) : Int) := by omega
            have t5 : IntKind.i64.wrap ((j : Int) - 1) = (j : Int) - 1 := IntWalk.i64_in _ (by omega)
            have t6 : (bv : Int).tdiv 2 = ((bv / 2 : Nat) : Int) := by rw [Int.tdiv_eq_ediv_of_nonneg (by omega)]; omega
            have t7 : IntKind.i64.wrap (((bv / 2 : Nat) : Int)) = ((bv / 2 : Nat) : Int) := IntWalk.i64_in _ (by omega)
            have t8 : IntKind.i64.wrap ((av : Int) + ((bv / 2 : Nat) : Int)) = ((av + bv / 2 : Nat) : Int) := by rw [IntWalk.i64_in _ (by omega)]; omega
            clear o5 s1 s2 hav hbv hl1
            go_wp2_with fail
            go_region
            clear t5 t6 t7 t8
            go_wp2_with fail
            go_roundw
            case rel => exact ⟨j - 1, by omega, by congr 1; omega, Y6, HS2.out⟩
            case measure => simp [intOf] <;> omega
          · obtain rfl : j = 0 := by omega
            have e1 := HO5.out
            rw [HEND.out] at e1
            go_wp2
            go_ret
            exact ⟨_, m + 1, c4, rfl, by rw [HCL.out, HM2.out], e1, Y5⟩
      · have k1 : decide (l < 16384) = false := by simpa using hlast
        have HBC := Lib.hid (show ncells (digsOf cs) = ncells (digsAt cs cs.length) ++ [.int .i64 2] by rw [HD4.out, if_neg hlast, ncells_append]; rfl)
        clear hlast
        go_wp2_with (at_builtin; refine wpList_app1 _ rfl _ _ _ rfl w.heap.size 3 i0 _ 8 Try.underlying34 hi0 hz0 hz1 hz2 rfl _ _ _ rfl HO.out (.int .i64 2) rfl rfl ?g1 ?g2 hys ?_)
        case g1 => unfold maxLen; omega
        case g2 => omega
        intro A4 c4 w4 o4 g4
        have Y4 := below_grown yr HO.out g4 (Nat.le_refl _) hys
        rw [← HBC.out] at o4
        obtain ⟨g, rfl, hg1, hg2, hg3, hg4⟩ := own_addr o4 (by omega)
        unfold maxLen at hg4
        have HO4 := Lib.hid o4
        have Y4s := Y4.size
        clear o4 g4
        go_wp2_with fail
        go_loopw [8] (fun i wr => ∃ j : Nat, j ≤ m ∧ i = .int .i64 (j : Nat) ∧ Below w.heap.size w wr ∧ wr.ownsRow w.heap.size 3 1 (.slice (some ⟨g, 0, none⟩) (m + 1) c4) (m + 1) (ncells (mid (digsOf cs) j))) (fun i _ => (intOf i).toNat)
        case atStart => exact ⟨m, Nat.le_refl _, by go_num, Y4, by have e := mid_start (ds := digsOf cs) (by rw [← HM2.out]; omega); rw [← HM2.out, Nat.add_sub_cancel] at e; rw [e]; exact HO4.out⟩
        case round =>
          obtain ⟨j, hj, rfl, Y5, o5⟩ := hrel
          have HO5 := Lib.hid o5
          by_cases hj0 : 0 < j
          · have hjl : j < (digsOf cs).length := by rw [← HM2.out]; omega
            obtain ⟨av, hav⟩ : ∃ av, av = (mid (digsOf cs) j).getD (j - 1) 0 := ⟨_, rfl⟩
            obtain ⟨bv, hbv⟩ : ∃ bv, bv = (mid (digsOf cs) j).getD j 0 := ⟨_, rfl⟩
            have ha2 : av ≤ 2 := by rw [hav]; exact mid_le2 HDL.out hjl (by omega)
            have hb3 : bv ≤ 3 := by rw [hbv]; exact mid_le HDL.out hjl
            have HSTP := Lib.hid (show ncells (mid (digsOf cs) (j - 1)) = ((ncells (mid (digsOf cs) j)).set (j - 1) (.int .i64 ((av : Int) + (bv : Int) / 2))).set j (.int .i64 ((bv : Int) % 2)) by rw [mid_step hj0 hjl, ncells_set, ncells_set, ← hav, ← hbv]; simp)
            have hl1 : (mid (digsOf cs) j).length = m + 1 := by rw [mid_length hjl, HM2.out]
            have ca := o5.cellAt (j - 1) (by omega)
            have cb := o5.cellAt j (by omega)
            rw [ncells_get _ _ (by omega), ← hav] at ca
            rw [ncells_get _ _ (by omega), ← hbv] at cb
            have fa := o5.frozenAt (j - 1)
            have fb := o5.frozenAt j
            have s1 := own_drew (o5.stored (j - 1) (.int .i64 ((av : Int) + (bv : Int) / 2))).1
            have cb2 : (wr.setCell ⟨g, j - 1, none⟩ (.int .i64 ((av : Int) + (bv : Int) / 2))).drew.cell? ⟨g, j, none⟩ = some (.int .i64 (bv : Nat)) := by
              have := s1.cellAt j (by omega)
              rw [List.getElem?_set_ne (by omega), ncells_get _ _ (by omega), ← hbv] at this
              exact this
            have s2 := (s1.stored j (.int .i64 ((bv : Int) % 2))).1
            rw [← HSTP.out] at s2
            have HS2 := Lib.hid s2
            have Y6 := (belowD (Y5.setCell (p := ⟨g, j - 1, none⟩) hg1 (.int .i64 ((av : Int) + (bv : Int) / 2)))).setCell (p := ⟨g, j, none⟩) hg1 (.int .i64 ((bv : Int) % 2))
            have t1 : (((j : Int) - 1)).toNat = j - 1 := by omega
            have t2 : (0 : Int) ≤ (j : Int) - 1 := by omega
            have t3 : (j : Int) - 1 < ((m + 1 : Nat) : Int) := by omega
            have t4 : (j : Int) < ((m + 1 : Nat) : Int) := by omega
            have t5 : IntKind.i64.wrap ((j : Int) - 1) = (j : Int) - 1 := IntWalk.i64_in _ (by omega)
            have t6 : (bv : Int).tdiv 2 = ((bv / 2 : Nat) : Int) := by rw [Int.tdiv_eq_ediv_of_nonneg (by omega)]; omega
            have t7 : IntKind.i64.wrap (((bv / 2 : Nat) : Int)) = ((bv / 2 : Nat) : Int) := IntWalk.i64_in _ (by omega)
            have t8 : IntKind.i64.wrap ((av : Int) + ((bv / 2 : Nat) : Int)) = ((av + bv / 2 : Nat) : Int) := by rw [IntWalk.i64_in _ (by omega)]; omega
            clear o5 s1 s2 hav hbv hl1
            go_wp2_with fail
            go_region
            clear t5 t6 t7 t8
            go_wp2_with fail
            go_roundw
            case rel => exact ⟨j - 1, by omega, by congr 1; omega, Y6, HS2.out⟩
            case measure => simp [intOf] <;> omega
          · obtain rfl : j = 0 := by omega
            have e1 := HO5.out
            rw [HEND.out] at e1
            go_wp2
            go_ret
            exact ⟨_, m + 1, c4, rfl, by rw [HCL.out, HM2.out], e1, Y5⟩
end PB
end Go.Proofs.Ytnnpkajmheglgaa
