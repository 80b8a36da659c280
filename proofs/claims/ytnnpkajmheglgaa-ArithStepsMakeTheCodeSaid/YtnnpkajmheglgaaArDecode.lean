/-
  The reference's window, Decoded.
-/
import Derived.Test.YtnnpkajmheglgaaArSteps
import Derived.Test.YtnnpkajmheglgaaBitsRef3
import Derived.Deep.Cut
namespace Go.Proofs.Ytnnpkajmheglgaa
open Go.RowKit
attribute [local go_sem ↓] Go.wp_at_zero Go.wp_at_succ
set_option linter.unusedVariables false
set_option linter.unusedSimpArgs false
namespace PB
/-- The beginning of a window of the code. -/
def wpart (l : List Nat) (e j : Nat) : Nat := num ((List.range j).map (wbit l e))
theorem wpart_succ (l : List Nat) (e j : Nat) : wpart l e (j + 1) = 2 * wpart l e j + wbit l e j := by
  unfold wpart
  rw [List.range_succ, List.map_append, List.map_singleton, num_snoc]
theorem wpart_lt {l : List Nat} (h01 : Is01 l) (e j : Nat) : wpart l e j < 2 ^ j := by
  have : Is01 ((List.range j).map (wbit l e)) := Is01.of_mem fun x hx => by
    obtain ⟨i, _, rfl⟩ := List.mem_map.1 hx
    exact wbit_lt h01 _ _
  have h := num_lt this
  rw [List.length_map, List.length_range] at h
  exact h
set_option maxRecDepth 100000 in
set_option maxHeartbeats 1600000 in
theorem window_any {A : Option Addr} {n c : Nat} {l : List Nat} {w : World} (h : Rd w A n c (ncells l)) (h01 : Is01 l) (hl : l.length ≤ 1000000) (e : Nat) (he : e ≤ 1000000) (ei : Int) (hei : ei = (e : Nat)) :
    Calls Try.prog 49 #[.slice A n c, .int .i64 ei] w fun r w' => r = .returned (.int .i64 (wnd l e : Nat)) ∧ w = w' := by
  subst hei
  have hn := h.len
  rw [ncells_length] at hn
  have hcap := Reads.cap h
  have hcm := Reads.capMax h
  unfold maxLen at hcm
  obtain rfl := hn
  have HWL := Lib.hid (fun j => wpart_lt h01 e j)
  have HWS := Lib.hid (fun j => wpart_succ l e j)
  have H01 := Lib.hid h01
  clear h01
  go_enter Try.func49, Try.ntmps49
  go_wp2
  go_loop [5, 6] (fun t i => ∃ j : Nat, j ≤ 24 ∧ i = .int .i64 ((e : Int) - 24 + (j : Int)) ∧ t = .int .i64 (wpart l e j : Nat)) (fun _ i => (e - intOf i).toNat)
  case atStart => exact ⟨0, by omega, by simp, rfl⟩
  case round =>
    obtain ⟨j, hj, rfl, rfl⟩ := hrel
    obtain ⟨v, hv⟩ : ∃ v, v = wpart l e j := ⟨_, rfl⟩
    have hvb : v < 16777216 := by
      have := HWL.out j
      rw [← hv] at this
      have : 2 ^ j ≤ 2 ^ 24 := Nat.pow_le_pow_right (by decide) (by omega)
      omega
    have HV := Lib.hid hv
    rw [← hv]
    clear hv
    by_cases hlt : j < 24
    · have k0 : decide ((e : Int) - 24 + (j : Int) < (e : Int)) = true := by simp; omega
      obtain ⟨x, hx⟩ : ∃ x, x = wbit l e j := ⟨_, rfl⟩
      have hx1 : x < 2 := by rw [hx]; exact wbit_lt H01.out _ _
      have HS := Lib.hid (show wpart l e (j + 1) = 2 * v + x by rw [HWS.out, ← HV.out, ← hx])
      obtain ⟨ii, hii⟩ : ∃ ii : Int, ii = (e : Int) - 24 + (j : Int) := ⟨_, rfl⟩
      have hib : -24 ≤ ii ∧ ii ≤ 1000000 := by omega
      obtain ⟨hib1, hib2⟩ := hib
      rw [← hii] at k0
      rw [← hii]
      have HII := Lib.hid hii
      have hlt2 : ii < (e : Int) := by omega
      by_cases h0 : 0 ≤ ii
      · have k1 : decide ((0 : Int) ≤ ii) = true := by simpa using h0
        obtain ⟨i, hi⟩ : ∃ i : Nat, ii = (i : Nat) := ⟨ii.toNat, by omega⟩
        subst hi
        have hxe : x = l.getD i 0 := by rw [hx]; unfold wbit; rw [if_neg (by omega)]; congr 1; omega
        by_cases h1 : i < l.length
        · have k2 : decide ((i : Int) < (l.length : Int)) = true := by simp; omega
          have k3 : decide (i < l.length) = true := by simpa using h1
          obtain ⟨b, off, rfl, hb, hc⟩ := h.2.2.2 (by omega)
          have hcell := hc i _ (ncells_get l i h1)
          rw [← hxe] at hcell
          clear hc hx hii hxe
          go_wp2
          go_round
          case rel => exact ⟨j + 1, by omega, congrArg (Value.int .i64) (by have := HII.out; omega), congrArg (Value.int .i64) (by rw [HS.out]; omega)⟩
          case measure => simp [intOf] <;> omega
        · have k2 : decide ((i : Int) < (l.length : Int)) = false := by simp; omega
          have k3 : decide (i < l.length) = false := by simpa using h1
          have hx0 : x = 0 := by rw [hxe, getD_ge (by omega)]
          have HX0 := Lib.hid hx0
          clear hx hii hxe hx0
          go_wp2
          go_round
          case rel => exact ⟨j + 1, by omega, congrArg (Value.int .i64) (by have := HII.out; omega), congrArg (Value.int .i64) (by rw [HS.out, HX0.out]; omega)⟩
          case measure => simp [intOf] <;> omega
      · have k1 : decide ((0 : Int) ≤ ii) = false := by simpa using h0
        have hx0 : x = 0 := by rw [hx]; unfold wbit; rw [if_pos (by omega)]
        have HX0 := Lib.hid hx0
        clear hx hii hx0
        go_wp2
        go_round
        case rel => exact ⟨j + 1, by omega, congrArg (Value.int .i64) (by have := HII.out; omega), congrArg (Value.int .i64) (by rw [HS.out, HX0.out]; omega)⟩
        case measure => simp [intOf] <;> omega
    · obtain rfl : j = 24 := by omega
      have k0 : decide ((e : Int) - 24 + ((24 : Nat) : Int) < (e : Int)) = false := by simp
      have HE := Lib.hid (show wnd l e = v by rw [HV.out]; rfl)
      go_wp2
      go_ret
      exact ⟨by rw [HE.out]; rfl, rfl⟩
theorem Rd.elem {w : World} {b off n c : Nat} {xs : List Value} (h : Rd w (some ⟨b, off, none⟩) n c xs) {k : Nat} {u : Value} (hx : xs[k]? = some u) : w.cell? ⟨b, off + k, none⟩ = some u := by
  have hk : k < xs.length := by
    rcases Nat.lt_or_ge k xs.length with h | h
    · exact h
    · rw [List.getElem?_eq_none h] at hx; cases hx
  obtain ⟨b', off', e, _, hc⟩ := h.2.2.2 (by have := h.1; omega)
  injection e with e
  injection e with e1 e2
  subst e1 e2
  exact hc k u hx
theorem icells_len (l : List Int) : (icells l).length = l.length := by simp [icells]
theorem icells_get {l : List Int} {j : Nat} (h : j < l.length) : (icells l)[j]? = some (.int .i64 l[j]) := by
  rw [icells, List.getElem?_map, List.getElem?_eq_getElem h]; rfl
theorem drun_take_succ (l : List Nat) (ps : List Int) (k : Nat) (h : k < ps.length) (d : DS) : drun l (ps.take (k + 1)) d = dstep l (drun l (ps.take k) d) ps[k] := by
  rw [List.take_succ_eq_append_getElem h, drun_snoc]
theorem dbits_take_succ (l : List Nat) (ps : List Int) (k : Nat) (h : k < ps.length) (d : DS) : dbits l (ps.take (k + 1)) d = dbits l (ps.take k) d ++ [pickb (drun l (ps.take k) d) ps[k]] := by
  rw [List.take_succ_eq_append_getElem h, dbits_snoc]
theorem dksAll_take_succ (l : List Nat) (ps : List Int) (k : Nat) (h : k < ps.length) (d : DS) : dksAll l (ps.take (k + 1)) d = dksAll l (ps.take k) d ++ dks (drun l (ps.take k) d) ps[k] := by
  rw [List.take_succ_eq_append_getElem h, dksAll_snoc]
theorem bas_take_succ (ks : List Nat) (j : Nat) (h : j < ks.length) (b : Int) : bas (ks.take (j + 1)) b = (2 * bas (ks.take j) b + 32768 * (ks[j] : Nat)) % 16777216 := by
  rw [List.take_succ_eq_append_getElem h, bas_snoc]
set_option maxRecDepth 100000 in
set_option maxHeartbeats 3200000 in
theorem decoded_any {A : Option Addr} {n c : Nat} {l : List Nat} {A2 : Option Addr} {n2 c2 : Nat} {ps : List Int} {w : World} (h : Rd w A n c (ncells l)) (h2 : Rd w A2 n2 c2 (icells ps)) (h01 : Is01 l) (hl : l.length ≤ 1000000) (hall : AllP ps) (hps : ps.length ≤ 8192) (O : List Nat) (M : Nat) (hO : O = dbits l ps (dinit l)) (hM : M + 16 = (drun l ps (dinit l)).at_) :
    Calls Try.prog 21 #[.slice A n c, .slice A2 n2 c2] w fun e w' => ∃ A' n' c', e = .returned (.tuple #[.slice A' n' c', .int .i64 (M : Nat)]) ∧ O.length = n' ∧ w'.ownsRow w.heap.size 3 1 (.slice A' n' c') n' (ncells O) ∧ Below w.heap.size w w' := by
  obtain ⟨i0, hi0, hz0, hz1, hz2⟩ := info_parts int_info
  have hn := h2.len
  rw [icells_len] at hn
  have hcap := Reads.cap h2
  have hcm := Reads.capMax h2
  unfold maxLen at hcm
  obtain rfl := hn
  have HALL := Lib.hid hall
  have H01 := Lib.hid h01
  have HO := Lib.hid hO
  have HM := Lib.hid hM
  have HOK := Lib.hid (fun k => drun_ok h01 (ps.take k) (hall.take k) _ (dinit_ok h01))
  have HAT := Lib.hid (fun k => drun_at_bound h01 (ps.take k) (hall.take k) _ (dinit_ok h01))
  have HRV := Lib.hid (fun k => ref_value h01 (ps.take k) (hall.take k))
  have HBB := Lib.hid (fun k => bas_bound (dksAll l (ps.take k) (dinit l)) 0 (by decide) (by decide))
  have HWL := Lib.hid (fun e => wnd_lt h01 e)
  clear hall hO hM
  go_enter Try.func21, Try.ntmps21
  go_wp2_with fail
  go_loopw [6, 7, 8, 9, 10, 11, 12, 13, 14, 15] (fun lv uv bv mv s i _ _ _ _ wr => ∃ (k m : Nat) (lo hi ba : Int) (A' : Option Addr) (c' : Nat), k ≤ ps.length ∧ i = .int .i64 (k : Nat) ∧ lv = .int .i64 lo ∧ uv = .int .i64 hi ∧ bv = .int .i64 ba ∧ mv = .int .i64 (m : Nat) ∧ s = .slice A' k c' ∧
      lo = (drun l (ps.take k) (dinit l)).lo ∧ hi = (drun l (ps.take k) (dinit l)).hi ∧ ba = bas (dksAll l (ps.take k) (dinit l)) 0 ∧ m + 16 = (drun l (ps.take k) (dinit l)).at_ ∧ Below w.heap.size w wr ∧ wr.ownsRow w.heap.size 3 1 (.slice A' k c') k (ncells (dbits l (ps.take k) (dinit l)))) (fun _ _ _ _ _ i _ _ _ _ _ => ps.length - (intOf i).toNat)
  case atStart => exact ⟨0, 0, 0, 65535, 0, none, 0, Nat.zero_le _, rfl, rfl, rfl, rfl, rfl, rfl, rfl, rfl, rfl, rfl, Below.refl _ _, World.ownsRow_nil _ _ _ _⟩
  case round =>
    obtain ⟨k, m, lo, hi, ba, A', c', hk, rfl, rfl, rfl, rfl, rfl, rfl, hlo, hhi, hba, hm, yr, ho⟩ := hrel
    have hys := yr.size
    by_cases hlt : k < ps.length
    · obtain ⟨d, hd⟩ : ∃ d, d = drun l (ps.take k) (dinit l) := ⟨_, rfl⟩
      have hdok : DOk d := by rw [hd]; exact HOK.out k
      have hstep : drun l (ps.take (k + 1)) (dinit l) = dstep l d ps[k] := by rw [hd]; exact drun_take_succ l ps k hlt _
      have hbits : dbits l (ps.take (k + 1)) (dinit l) = dbits l (ps.take k) (dinit l) ++ [pickb d ps[k]] := by rw [hd]; exact dbits_take_succ l ps k hlt _
      have hks : dksAll l (ps.take (k + 1)) (dinit l) = dksAll l (ps.take k) (dinit l) ++ dks d ps[k] := by rw [hd]; exact dksAll_take_succ l ps k hlt _
      have hmb : m ≤ 114688 := by
        have := HAT.out k
        rw [List.length_take] at this
        have e16 : (dinit l).at_ = 16 := rfl
        omega
      have hval : ((wnd l (m + 16) : Nat) - ba + 16777216) % 16777216 = d.V := by
        have := HRV.out k
        rw [← hba, ← hm, ← hd] at this
        exact this
      rw [← hd] at hlo hhi hm
      obtain ⟨p, hp⟩ : ∃ p, p = ps[k] := ⟨_, rfl⟩
      have hpr := HALL.out _ (List.getElem_mem hlt)
      rw [← hp] at hstep hbits hks hpr
      obtain ⟨b, off, rfl, hb, hc⟩ := (h2.on yr).2.2.2 (by omega)
      have hcell := hc k _ (icells_get hlt)
      rw [← hp] at hcell
      obtain ⟨hba1, hba2⟩ := HBB.out k
      rw [← hba] at hba1 hba2
      obtain ⟨wn, hwn⟩ : ∃ wn, wn = wnd l (m + 16) := ⟨_, rfl⟩
      have hwb : wn < 16777216 := by rw [hwn]; exact HWL.out _
      rw [← hwn] at hval
      have HWN := Lib.hid (fun (W : World) (hW : Rd W A n c (ncells l)) => window_any hW H01.out hl (m + 16) (by omega) ((m : Int) + 16) (by omega))
      rw [← hwn] at HWN
      obtain ⟨V, hV⟩ : ∃ V, V = d.V := ⟨_, rfl⟩
      rw [← hV] at hval
      obtain ⟨sp, hsp⟩ : ∃ sp, sp = splitOf lo hi p := ⟨_, rfl⟩
      have hWid : Wid lo hi := by rw [hlo, hhi]; exact hdok.1
      have HSP := Lib.hid (fun (W : World) => split_any hWid hpr.1 hpr.2 sp hsp W)
      obtain ⟨bt, hbt⟩ : ∃ bt, bt = pickb d p := ⟨_, rfl⟩
      have hbt1 : bt = if V ≤ sp then 1 else 0 := by rw [hbt, hV, hsp, hlo, hhi]; rfl
      have hbtl : bt ≤ 1 := by rw [hbt1]; split <;> omega
      obtain ⟨LO, hLO⟩ : ∃ LO, LO = (stp lo hi bt p).1 := ⟨_, rfl⟩
      obtain ⟨HI, hHI⟩ : ∃ HI, HI = (stp lo hi bt p).2.1 := ⟨_, rfl⟩
      obtain ⟨R, hR⟩ : ∃ R, R = (stp lo hi bt p).2.2 := ⟨_, rfl⟩
      have HST := Lib.hid (fun (bi : Int) (hbi : bi = (bt : Nat)) (W : World) => steps_any hWid hpr.1 hpr.2 hbtl LO HI R hLO hHI hR bi hbi W)
      have hRl : R.length ≤ 14 := by rw [hR]; exact (stp_facts bt hWid hpr.1 hpr.2).2.1
      have hR2 : ∀ x ∈ R, x ≤ 2 := by rw [hR]; exact (stp_facts bt hWid hpr.1 hpr.2).2.2.1
      have hdks : dks d p = R := by rw [hR, hbt, hlo, hhi]; rfl
      have HS1 := Lib.hid (show LO = (drun l (ps.take (k + 1)) (dinit l)).lo by rw [hstep, hLO, hlo, hhi, hbt]; rfl)
      have HS2 := Lib.hid (show HI = (drun l (ps.take (k + 1)) (dinit l)).hi by rw [hstep, hHI, hlo, hhi, hbt]; rfl)
      have HS3 := Lib.hid (show m + R.length + 16 = (drun l (ps.take (k + 1)) (dinit l)).at_ by rw [hstep]; show _ = d.at_ + (dks d p).length; rw [hdks]; omega)
      have HS4 := Lib.hid (show bas R ba = bas (dksAll l (ps.take (k + 1)) (dinit l)) 0 by rw [hks, hdks, bas_append, ← hba])
      have HBC := Lib.hid (show ncells (dbits l (ps.take (k + 1)) (dinit l)) = ncells (dbits l (ps.take k) (dinit l)) ++ [.int .i64 (bt : Nat)] by rw [hbits, ncells_snoc, hbt])
      have HOR := Lib.hid ho
      have hRd := h.on yr
      have HR2 := Lib.hid hR2
      have HBT := Lib.hid hbt1
      have HVAL := Lib.hid hval
      have i1 : (0 : Int) ≤ (k : Int) := by omega
      have i2 : (k : Int) < (ps.length : Int) := by omega
      have q1 : (m : Int) + 16 ≤ 1000000 := by omega
      have HH2 := Lib.hid h2
      have HPX := Lib.hid (show (icells ps)[k]? = some (.int .i64 p) by rw [icells_get hlt, ← hp])
      clear hc hd hdok hstep hbits hks hlo hhi hba hm hp hwn hV hsp hWid hbt hbt1 hLO hHI hR hR2 hdks ho hval
      go_wp2_with fail
      refine (HWN.out _ hRd).mono ?_
      rintro e w9 ⟨rfl, rfl⟩
      go_upto_region 8 with (fail)
      rw [HVAL.out]
      generalize (wn : Int) - ba + 16777216 = t28
      obtain ⟨dk, hdk, hbd⟩ : ∃ dk : Bool, decide (V ≤ sp) = dk ∧ bt = dk.toNat := by
        have := HBT.out
        by_cases hv : V ≤ sp
        · rw [if_pos hv] at this; exact ⟨true, by simpa using hv, this⟩
        · rw [if_neg hv] at this; exact ⟨false, by simpa using hv, this⟩
      go_wp2_with fail
      refine (HSP.out _).mono ?_
      rintro e w9 ⟨rfl, rfl⟩
      cases dk
      · have hbd' : bt = 0 := hbd
        subst hbd'
        have HBC2 := Lib.hid (show ncells (dbits l (ps.take (k + 1)) (dinit l)) = ncells (dbits l (ps.take k) (dinit l)) ++ [.int .i64 0] from HBC.out)
        clear HBT hbtl HVAL HBC hbd
        go_wp2_with (at_builtin; refine wpList_app1 _ rfl _ _ _ rfl w.heap.size 3 i0 _ 8 Try.underlying34 hi0 hz0 hz1 hz2 rfl _ _ _ rfl HOR.out (.int .i64 0) rfl rfl ?g1 ?g2 hys ?_)
        case g1 => unfold maxLen; omega
        case g2 => omega
        intro A5 c5 w5 ho5 hg5
        have Y5 := below_grown yr HOR.out hg5 (Nat.le_refl _) hys
        rw [← HBC2.out] at ho5
        have HO5 := Lib.hid ho5
        clear ho5 hg5 hcell
        have hcell := Rd.elem (HH2.out.on Y5) HPX.out
        go_wp2_with fail
        refine (HST.out _ rfl _).mono ?_
        rintro e w6 ⟨A6, n6, c6, rfl, hn6, o6, y6⟩
        have Y6 := Y5.trans (y6.mono Y5.size)
        have HO6 := Lib.hid (own_on HO5.out y6)
        have R6 := Rd.own o6
        have HN6 := Lib.hid hn6
        have hn14 : n6 ≤ 14 := by omega
        clear hcell o6 hn6 y6
        go_wp2_with fail
        go_loop [8, 15] (fun bv jv => ∃ (j : Nat) (x : Int), j ≤ n6 ∧ jv = .int .i64 (j : Nat) ∧ bv = .int .i64 x ∧ 0 ≤ x ∧ x < 16777216 ∧ x = bas (R.take j) ba) (fun _ jv => n6 - (intOf jv).toNat)
        case atStart => exact ⟨0, ba, Nat.zero_le _, rfl, rfl, hba1, hba2, rfl⟩
        case round =>
          obtain ⟨j, x, hj, rfl, rfl, hx1, hx2, hx⟩ := hrel
          have HX := Lib.hid hx
          clear hx
          by_cases hjl : j < n6
          · have hjR : j < R.length := by have := HN6.out; omega
            obtain ⟨v, hv⟩ : ∃ v, v = R.getD j 0 := ⟨_, rfl⟩
            have hv2 : v ≤ 2 := by rw [hv, getD_lt hjR]; exact HR2.out _ (List.getElem_mem _)
            obtain ⟨b6, off6, e6, hb6, hc6⟩ := R6.2.2.2 (by omega)
            have hc7 := hc6 j _ (ncells_get R j hjR)
            rw [← hv] at hc7
            subst e6
            have HS := Lib.hid (show bas (R.take (j + 1)) ba = (2 * x + 32768 * (v : Int)) % 16777216 by rw [bas_take_succ R j hjR, ← HX.out, hv, getD_lt hjR])
            have j1 : (0 : Int) ≤ (j : Int) := by omega
            have j2 : (j : Int) < (n6 : Int) := by omega
            have j3 : 0 ≤ 2 * x + 32768 * (v : Int) := by omega
            clear hc6 hv
            go_wp2
            go_round
            case rel => exact ⟨j + 1, (2 * x + 32768 * (v : Int)) % 16777216, by omega, by go_num, rfl, by omega, by omega, HS.out.symm⟩
            case measure => simp [intOf] <;> omega
          · obtain rfl : j = n6 := by omega
            have hxe : x = bas R ba := by rw [HX.out, List.take_of_length_le (by have := HN6.out; omega)]
            have HXE := Lib.hid hxe
            clear hxe
            go_wp2_with fail
            go_roundw
            case rel => exact ⟨k + 1, m + j, LO, HI, x, A5, c5, by omega, by go_num, rfl, rfl, rfl, by go_num, rfl, HS1.out, HS2.out, by rw [HXE.out, HS4.out], by have := HS3.out; have := HN6.out; omega, Y6, HO6.out⟩
            case measure => simp [intOf] <;> omega
      · have hbd' : bt = 1 := hbd
        subst hbd'
        have HBC2 := Lib.hid (show ncells (dbits l (ps.take (k + 1)) (dinit l)) = ncells (dbits l (ps.take k) (dinit l)) ++ [.int .i64 1] from HBC.out)
        clear HBT hbtl HVAL HBC hbd
        go_wp2_with (at_builtin; refine wpList_app1 _ rfl _ _ _ rfl w.heap.size 3 i0 _ 8 Try.underlying34 hi0 hz0 hz1 hz2 rfl _ _ _ rfl HOR.out (.int .i64 1) rfl rfl ?g1 ?g2 hys ?_)
        case g1 => unfold maxLen; omega
        case g2 => omega
        intro A5 c5 w5 ho5 hg5
        have Y5 := below_grown yr HOR.out hg5 (Nat.le_refl _) hys
        rw [← HBC2.out] at ho5
        have HO5 := Lib.hid ho5
        clear ho5 hg5 hcell
        have hcell := Rd.elem (HH2.out.on Y5) HPX.out
        go_wp2_with fail
        refine (HST.out _ rfl _).mono ?_
        rintro e w6 ⟨A6, n6, c6, rfl, hn6, o6, y6⟩
        have Y6 := Y5.trans (y6.mono Y5.size)
        have HO6 := Lib.hid (own_on HO5.out y6)
        have R6 := Rd.own o6
        have HN6 := Lib.hid hn6
        have hn14 : n6 ≤ 14 := by omega
        clear hcell o6 hn6 y6
        go_wp2_with fail
        go_loop [8, 15] (fun bv jv => ∃ (j : Nat) (x : Int), j ≤ n6 ∧ jv = .int .i64 (j : Nat) ∧ bv = .int .i64 x ∧ 0 ≤ x ∧ x < 16777216 ∧ x = bas (R.take j) ba) (fun _ jv => n6 - (intOf jv).toNat)
        case atStart => exact ⟨0, ba, Nat.zero_le _, rfl, rfl, hba1, hba2, rfl⟩
        case round =>
          obtain ⟨j, x, hj, rfl, rfl, hx1, hx2, hx⟩ := hrel
          have HX := Lib.hid hx
          clear hx
          by_cases hjl : j < n6
          · have hjR : j < R.length := by have := HN6.out; omega
            obtain ⟨v, hv⟩ : ∃ v, v = R.getD j 0 := ⟨_, rfl⟩
            have hv2 : v ≤ 2 := by rw [hv, getD_lt hjR]; exact HR2.out _ (List.getElem_mem _)
            obtain ⟨b6, off6, e6, hb6, hc6⟩ := R6.2.2.2 (by omega)
            have hc7 := hc6 j _ (ncells_get R j hjR)
            rw [← hv] at hc7
            subst e6
            have HS := Lib.hid (show bas (R.take (j + 1)) ba = (2 * x + 32768 * (v : Int)) % 16777216 by rw [bas_take_succ R j hjR, ← HX.out, hv, getD_lt hjR])
            have j1 : (0 : Int) ≤ (j : Int) := by omega
            have j2 : (j : Int) < (n6 : Int) := by omega
            have j3 : 0 ≤ 2 * x + 32768 * (v : Int) := by omega
            clear hc6 hv
            go_wp2
            go_round
            case rel => exact ⟨j + 1, (2 * x + 32768 * (v : Int)) % 16777216, by omega, by go_num, rfl, by omega, by omega, HS.out.symm⟩
            case measure => simp [intOf] <;> omega
          · obtain rfl : j = n6 := by omega
            have hxe : x = bas R ba := by rw [HX.out, List.take_of_length_le (by have := HN6.out; omega)]
            have HXE := Lib.hid hxe
            clear hxe
            go_wp2_with fail
            go_roundw
            case rel => exact ⟨k + 1, m + j, LO, HI, x, A5, c5, by omega, by go_num, rfl, rfl, rfl, by go_num, rfl, HS1.out, HS2.out, by rw [HXE.out, HS4.out], by have := HS3.out; have := HN6.out; omega, Y6, HO6.out⟩
            case measure => simp [intOf] <;> omega
    · obtain rfl : k = ps.length := by omega
      have e1 : ps.take ps.length = ps := List.take_length
      rw [e1] at hm ho
      have HA := Lib.hid (show O = dbits l ps (dinit l) from HO.out)
      have HB := Lib.hid (show m = M by have := HM.out; omega)
      have HOR := Lib.hid ho
      clear hlo hhi hba hm ho e1
      go_wp2
      go_ret2
      refine ⟨A', ps.length, c', ?_, ?_, ?_, yr⟩
      · rw [HB.out]; rfl
      · rw [HA.out, dbits_length]
      · rw [HA.out]; exact HOR.out
end PB
end Go.Proofs.Ytnnpkajmheglgaa
