/-
  The reference's Steps: the range after a bit, what its doublings subtract. Sent: the bits that doublings send.
-/
import Derived.Test.YtnnpkajmheglgaaArRef
import Derived.Test.YtnnpkajmheglgaaKit
import Derived.Deep.Cut
namespace Go.Proofs.Ytnnpkajmheglgaa
open Go.RowKit
attribute [local go_sem ↓] Go.wp_at_zero Go.wp_at_succ
set_option linter.unusedVariables false
set_option linter.unusedSimpArgs false
namespace PB
theorem ncells_snoc (l : List Nat) (x : Nat) : ncells (l ++ [x]) = ncells l ++ [.int .i64 (x : Nat)] := by rw [ncells_append]; rfl
set_option maxRecDepth 100000 in
set_option maxHeartbeats 1600000 in
theorem steps_any {lo hi p : Int} {b : Nat} (h : Wid lo hi) (h1 : 1 ≤ p) (h2 : p ≤ 4095) (hb : b ≤ 1) (LO HI : Int) (R : List Nat) (hLO : LO = (stp lo hi b p).1) (hHI : HI = (stp lo hi b p).2.1) (hR : R = (stp lo hi b p).2.2) (bi : Int) (hbi : bi = (b : Nat)) (w : World) :
    Calls Try.prog 30 #[.int .i64 lo, .int .i64 hi, .int .i64 bi, .int .i64 p] w fun e w' => ∃ A n c, e = .returned (.tuple #[.int .i64 LO, .int .i64 HI, .slice A n c]) ∧ R.length = n ∧ w'.ownsRow w.heap.size 3 1 (.slice A n c) n (ncells R) ∧ Below w.heap.size w w' := by
  obtain ⟨i0, hi0, hz0, hz1, hz2⟩ := info_parts int_info
  have hr0 := part_rng b h h1 h2
  obtain ⟨st1, st2, st3, st4⟩ := stp_facts b h h1 h2
  obtain ⟨l2, hl2⟩ : ∃ l2, l2 = (partOf lo hi b p).1 := ⟨_, rfl⟩
  obtain ⟨u2, hu2⟩ : ∃ u2, u2 = (partOf lo hi b p).2 := ⟨_, rfl⟩
  have hD0 : dbl 20 l2 u2 = (LO, HI, R) := by rw [hl2, hu2, hLO, hHI, hR]; rfl
  have HD0 := Lib.hid hD0
  have HR0 := Lib.hid (show Rng l2 u2 by rw [hl2, hu2]; exact hr0)
  have HF0 := Lib.hid (show 65536 < (u2 - l2 + 1) * (2 : Int) ^ 20 by
    obtain ⟨r1, r2, r3⟩ := hr0
    have e : (2 : Int) ^ 20 = 1048576 := by decide
    rw [e, hl2, hu2]; omega)
  obtain ⟨sp, hsp⟩ : ∃ sp, sp = splitOf lo hi p := ⟨_, rfl⟩
  have HSP := Lib.hid (fun (W : World) => split_any h h1 h2 sp hsp W)
  have hs1 := split_in h h1 h2
  rw [← hsp] at hs1
  obtain ⟨hs1a, hs1b⟩ := hs1
  obtain ⟨hw1, hw2, hw3, hw4, hw5⟩ := h
  have hP : if b = 1 then l2 = lo ∧ u2 = sp else l2 = sp + 1 ∧ u2 = hi := by
    rw [hl2, hu2]; unfold partOf; rw [← hsp]; split <;> exact ⟨rfl, rfl⟩
  clear hw5 hl2 hu2 hD0 hR hLO hHI st1 st2 st3 st4 hr0 hsp h1 h2
  rcases (by omega : b = 1 ∨ b = 0) with rfl | rfl
  · obtain ⟨rfl, rfl⟩ := hP
    subst hbi
    have k1 : (((1 : Nat) : Int) == 1) = true := rfl
    go_enter Try.func30, Try.ntmps30
    go_wp2_with fail
    refine (HSP.out _).mono ?_
    rintro e w9 ⟨rfl, rfl⟩
    go_wp2_with fail
    go_loopw [0, 1, 11, 12] (fun lv uv s _ wr => ∃ (l u : Int) (f m : Nat) (rest out : List Nat) (A' : Option Addr) (c' : Nat), Rng l u ∧ dbl f l u = (LO, HI, rest) ∧ 65536 < (u - l + 1) * (2 : Int) ^ f ∧ out ++ rest = R ∧ m = out.length ∧ m + f = 20 ∧
        lv = .int .i64 l ∧ uv = .int .i64 u ∧ s = .slice A' m c' ∧ Below w.heap.size w wr ∧ wr.ownsRow w.heap.size 3 1 (.slice A' m c') m (ncells out)) (fun lv uv _ _ _ => (65536 - (intOf uv - intOf lv)).toNat)
    case atStart => exact ⟨_, _, 20, 0, R, [], none, 0, HR0.out, HD0.out, HF0.out, rfl, rfl, rfl, rfl, rfl, rfl, Below.refl _ _, World.ownsRow_nil _ _ _ _⟩
    case round =>
      obtain ⟨l, u, f, m, rest, out, A', c', hrg, hd, hf, hs, hm, hmf, rfl, rfl, rfl, yr, ho⟩ := hrel
      have HD := Lib.hid hd
      have HF := Lib.hid hf
      have HS1 := Lib.hid hs
      have HRG := Lib.hid hrg
      have HO := Lib.hid ho
      have HM := Lib.hid hm
      have HMF := Lib.hid hmf
      have hys := yr.size
      obtain ⟨rg1, rg2, rg3⟩ := hrg
      clear hd hf hs ho hm hmf
      rcases twc_cases HRG.out with ⟨hn, hW⟩ | ⟨k, hk, hk2, hR'⟩
      · have HTW := Lib.hid (fun (W : World) => twice_any (lo := l) (hi := u) (-1) (by rw [hn]) W)
        have e1 := HD.out
        rw [dbl_none hn] at e1
        injection e1 with e1 e2
        injection e2 with e2 e3
        subst e1 e2 e3
        have HB := Lib.hid (show out = R by have := HS1.out; simpa using this)
        clear hn hW
        go_wp2_with fail
        refine (HTW.out _).mono ?_
        rintro e w9 ⟨rfl, rfl⟩
        go_wp2
        go_ret3
        exact ⟨A', m, c', rfl, by rw [← HB.out]; exact HM.out.symm, by rw [← HB.out]; exact HO.out, yr⟩
      · obtain ⟨g, rfl⟩ := fuel_pos HRG.out HF.out
        have hd1 := HD.out
        rw [dbl_some hk] at hd1
        injection hd1 with e1 e2
        injection e2 with e2 e3
        obtain ⟨l', hl'⟩ : ∃ l', l' = 2 * (l - 16384 * (k : Int)) := ⟨_, rfl⟩
        obtain ⟨u', hu'⟩ : ∃ u', u' = 2 * (u - 16384 * (k : Int)) + 1 := ⟨_, rfl⟩
        rw [← hl', ← hu'] at e1 e2 e3 hR'
        obtain ⟨rest', hrest⟩ : ∃ r, r = (dbl g l' u').2.2 := ⟨_, rfl⟩
        have HD2 := Lib.hid (show dbl g l' u' = (LO, HI, rest') by rw [← e1, ← e2, hrest])
        rw [← hrest] at e3
        subst e3
        have HF2 := Lib.hid (show 65536 < (u' - l' + 1) * (2 : Int) ^ g by have := fuel_next (k := k) HF.out; rwa [← hl', ← hu'] at this)
        have HL2 := Lib.hid hR'
        have HTW := Lib.hid (fun (W : World) => twice_any (lo := l) (hi := u) (k : Nat) (by rw [hk]) W)
        have hmm : u' - l' = 2 * (u - l) + 1 := by rw [hl', hu']; omega
        have hm20 : m < 20 := by have := HMF.out; omega
        have HBC := Lib.hid (ncells_snoc out k)
        obtain ⟨n1, n2, n3⟩ := hR'
        have HLL := Lib.hid hl'
        have HUU := Lib.hid hu'
        have kge : decide ((0 : Int) ≤ (k : Int)) = true := by simp
        have klt : decide ((m : Int) < 20) = true := by simp; omega
        have q1 : IntKind.i64.wrap (16384 * (k : Int)) = 16384 * (k : Int) := IntWalk.i64_in _ (by omega)
        have q2 : IntKind.i64.wrap (l - 16384 * (k : Int)) = l - 16384 * (k : Int) := IntWalk.i64_in _ (by omega)
        have q3 : IntKind.i64.wrap (2 * (l - 16384 * (k : Int))) = 2 * (l - 16384 * (k : Int)) := IntWalk.i64_in _ (by omega)
        clear hk e1 e2 hrest
        go_wp2_with fail
        refine (HTW.out _).mono ?_
        rintro e w9 ⟨rfl, rfl⟩
        go_wp2_with fail
        refine (HTW.out _).mono ?_
        rintro e w9 ⟨rfl, rfl⟩
        go_wp2_with (at_builtin; refine wpList_app1 _ rfl _ _ _ rfl w.heap.size 3 i0 _ 8 Try.underlying34 hi0 hz0 hz1 hz2 rfl _ _ _ rfl HO.out (.int .i64 (k : Nat)) rfl rfl ?g1 ?g2 hys ?_)
        case g1 => unfold maxLen; omega
        case g2 => omega
        intro A5 c5 w5 ho5 hg5
        have Y5 := below_grown yr HO.out hg5 (Nat.le_refl _) hys
        rw [← HBC.out] at ho5
        have HO5 := Lib.hid ho5
        clear ho5 hg5
        go_wp2_with fail
        go_roundw
        case rel => exact ⟨l', u', g, m + 1, rest', out ++ [k], A5, c5, HL2.out, HD2.out, HF2.out, by have := HS1.out; rw [List.append_assoc]; exact this, by rw [List.length_append, ← HM.out]; rfl, by have := HMF.out; omega, by rw [HLL.out], by rw [HUU.out], rfl, Y5, HO5.out⟩
        case measure => simp [intOf] <;> omega
  · obtain ⟨rfl, rfl⟩ := hP
    subst hbi
    have k1 : (((0 : Nat) : Int) == 1) = false := rfl
    go_enter Try.func30, Try.ntmps30
    go_wp2_with fail
    refine (HSP.out _).mono ?_
    rintro e w9 ⟨rfl, rfl⟩
    go_wp2_with fail
    go_loopw [0, 1, 11, 12] (fun lv uv s _ wr => ∃ (l u : Int) (f m : Nat) (rest out : List Nat) (A' : Option Addr) (c' : Nat), Rng l u ∧ dbl f l u = (LO, HI, rest) ∧ 65536 < (u - l + 1) * (2 : Int) ^ f ∧ out ++ rest = R ∧ m = out.length ∧ m + f = 20 ∧
        lv = .int .i64 l ∧ uv = .int .i64 u ∧ s = .slice A' m c' ∧ Below w.heap.size w wr ∧ wr.ownsRow w.heap.size 3 1 (.slice A' m c') m (ncells out)) (fun lv uv _ _ _ => (65536 - (intOf uv - intOf lv)).toNat)
    case atStart => exact ⟨_, _, 20, 0, R, [], none, 0, HR0.out, HD0.out, HF0.out, rfl, rfl, rfl, rfl, rfl, rfl, Below.refl _ _, World.ownsRow_nil _ _ _ _⟩
    case round =>
      obtain ⟨l, u, f, m, rest, out, A', c', hrg, hd, hf, hs, hm, hmf, rfl, rfl, rfl, yr, ho⟩ := hrel
      have HD := Lib.hid hd
      have HF := Lib.hid hf
      have HS1 := Lib.hid hs
      have HRG := Lib.hid hrg
      have HO := Lib.hid ho
      have HM := Lib.hid hm
      have HMF := Lib.hid hmf
      have hys := yr.size
      obtain ⟨rg1, rg2, rg3⟩ := hrg
      clear hd hf hs ho hm hmf
      rcases twc_cases HRG.out with ⟨hn, hW⟩ | ⟨k, hk, hk2, hR'⟩
      · have HTW := Lib.hid (fun (W : World) => twice_any (lo := l) (hi := u) (-1) (by rw [hn]) W)
        have e1 := HD.out
        rw [dbl_none hn] at e1
        injection e1 with e1 e2
        injection e2 with e2 e3
        subst e1 e2 e3
        have HB := Lib.hid (show out = R by have := HS1.out; simpa using this)
        clear hn hW
        go_wp2_with fail
        refine (HTW.out _).mono ?_
        rintro e w9 ⟨rfl, rfl⟩
        go_wp2
        go_ret3
        exact ⟨A', m, c', rfl, by rw [← HB.out]; exact HM.out.symm, by rw [← HB.out]; exact HO.out, yr⟩
      · obtain ⟨g, rfl⟩ := fuel_pos HRG.out HF.out
        have hd1 := HD.out
        rw [dbl_some hk] at hd1
        injection hd1 with e1 e2
        injection e2 with e2 e3
        obtain ⟨l', hl'⟩ : ∃ l', l' = 2 * (l - 16384 * (k : Int)) := ⟨_, rfl⟩
        obtain ⟨u', hu'⟩ : ∃ u', u' = 2 * (u - 16384 * (k : Int)) + 1 := ⟨_, rfl⟩
        rw [← hl', ← hu'] at e1 e2 e3 hR'
        obtain ⟨rest', hrest⟩ : ∃ r, r = (dbl g l' u').2.2 := ⟨_, rfl⟩
        have HD2 := Lib.hid (show dbl g l' u' = (LO, HI, rest') by rw [← e1, ← e2, hrest])
        rw [← hrest] at e3
        subst e3
        have HF2 := Lib.hid (show 65536 < (u' - l' + 1) * (2 : Int) ^ g by have := fuel_next (k := k) HF.out; rwa [← hl', ← hu'] at this)
        have HL2 := Lib.hid hR'
        have HTW := Lib.hid (fun (W : World) => twice_any (lo := l) (hi := u) (k : Nat) (by rw [hk]) W)
        have hmm : u' - l' = 2 * (u - l) + 1 := by rw [hl', hu']; omega
        have hm20 : m < 20 := by have := HMF.out; omega
        have HBC := Lib.hid (ncells_snoc out k)
        obtain ⟨n1, n2, n3⟩ := hR'
        have HLL := Lib.hid hl'
        have HUU := Lib.hid hu'
        have kge : decide ((0 : Int) ≤ (k : Int)) = true := by simp
        have klt : decide ((m : Int) < 20) = true := by simp; omega
        have q1 : IntKind.i64.wrap (16384 * (k : Int)) = 16384 * (k : Int) := IntWalk.i64_in _ (by omega)
        have q2 : IntKind.i64.wrap (l - 16384 * (k : Int)) = l - 16384 * (k : Int) := IntWalk.i64_in _ (by omega)
        have q3 : IntKind.i64.wrap (2 * (l - 16384 * (k : Int))) = 2 * (l - 16384 * (k : Int)) := IntWalk.i64_in _ (by omega)
        clear hk e1 e2 hrest
        go_wp2_with fail
        refine (HTW.out _).mono ?_
        rintro e w9 ⟨rfl, rfl⟩
        go_wp2_with fail
        refine (HTW.out _).mono ?_
        rintro e w9 ⟨rfl, rfl⟩
        go_wp2_with (at_builtin; refine wpList_app1 _ rfl _ _ _ rfl w.heap.size 3 i0 _ 8 Try.underlying34 hi0 hz0 hz1 hz2 rfl _ _ _ rfl HO.out (.int .i64 (k : Nat)) rfl rfl ?g1 ?g2 hys ?_)
        case g1 => unfold maxLen; omega
        case g2 => omega
        intro A5 c5 w5 ho5 hg5
        have Y5 := below_grown yr HO.out hg5 (Nat.le_refl _) hys
        rw [← HBC.out] at ho5
        have HO5 := Lib.hid ho5
        clear ho5 hg5
        go_wp2_with fail
        go_roundw
        case rel => exact ⟨l', u', g, m + 1, rest', out ++ [k], A5, c5, HL2.out, HD2.out, HF2.out, by have := HS1.out; rw [List.append_assoc]; exact this, by rw [List.length_append, ← HM.out]; rfl, by have := HMF.out; omega, by rw [HLL.out], by rw [HUU.out], rfl, Y5, HO5.out⟩
        case measure => simp [intOf] <;> omega
theorem ncells_crt (out : List Nat) (b k : Nat) : ncells (out ++ (b :: List.replicate (k + 1) (1 - b))) = ncells (out ++ (b :: List.replicate k (1 - b))) ++ [.int .i64 ((1 - b : Nat) : Int)] := by
  rw [List.replicate_succ', ← List.cons_append, ← List.append_assoc, ncells_snoc]
set_option maxRecDepth 100000 in
set_option maxHeartbeats 1600000 in
theorem sent_any {A : Option Addr} {n c : Nat} {ks : List Nat} {q : Nat} {w : World} (h : Rd w A n c (ncells ks)) (hk : ∀ k ∈ ks, k ≤ 2) (hlen : ks.length ≤ 100000) (hq : q ≤ 1000000) (S : List Nat) (Q : Nat) (hS : S = (sentf ks q).1) (hQ : Q = (sentf ks q).2) (qi : Int) (hqi : qi = (q : Nat)) :
    Calls Try.prog 29 #[.slice A n c, .int .i64 qi] w fun e w' => ∃ A' n' c', e = .returned (.tuple #[.slice A' n' c', .int .i64 (Q : Nat)]) ∧ S.length = n' ∧ w'.ownsRow w.heap.size 3 1 (.slice A' n' c') n' (ncells S) ∧ Below w.heap.size w w' := by
  subst hqi
  obtain ⟨i0, hi0, hz0, hz1, hz2⟩ := info_parts int_info
  have hn := h.len
  rw [ncells_length] at hn
  have hcap := Reads.cap h
  have hcm := Reads.capMax h
  unfold maxLen at hcm
  obtain rfl := hn
  have HK := Lib.hid hk
  have HS := Lib.hid hS
  have HQ := Lib.hid hQ
  clear hk hS hQ
  go_enter Try.func29, Try.ntmps29
  go_wp2_with fail
  go_loopw [1, 6, 7, 8] (fun qv s i _ wr => ∃ (k q' m : Nat) (out : List Nat) (A' : Option Addr) (c' : Nat), k ≤ ks.length ∧ i = .int .i64 (k : Nat) ∧ qv = .int .i64 (q' : Nat) ∧ s = .slice A' m c' ∧ m = out.length ∧ m + q' ≤ k + q ∧
      out ++ (sentf (ks.drop k) q').1 = S ∧ (sentf (ks.drop k) q').2 = Q ∧ Below w.heap.size w wr ∧ wr.ownsRow w.heap.size 3 1 (.slice A' m c') m (ncells out)) (fun _ _ i _ _ => ks.length - (intOf i).toNat)
  case atStart => exact ⟨0, q, 0, [], none, 0, Nat.zero_le _, rfl, rfl, rfl, rfl, by omega, HS.out.symm, HQ.out.symm, Below.refl _ _, World.ownsRow_nil _ _ _ _⟩
  case round =>
    obtain ⟨k, q', m, out, A', c', hk, rfl, rfl, rfl, hm, hmq, hs, hq2, yr, ho⟩ := hrel
    have HO := Lib.hid ho
    have HS1 := Lib.hid hs
    have HQ1 := Lib.hid hq2
    have HM := Lib.hid hm
    have hys := yr.size
    clear ho hs hq2 hm
    by_cases hlt : k < ks.length
    · obtain ⟨g, off, rfl, hg, hc⟩ := (h.on yr).2.2.2 (by omega)
      have hcell := hc k _ (ncells_get ks k hlt)
      obtain ⟨x, hx⟩ : ∃ x, x = ks.getD k 0 := ⟨_, rfl⟩
      rw [← hx] at hcell
      have hx2 : x ≤ 2 := by rw [hx, getD_lt hlt]; exact HK.out _ (List.getElem_mem _)
      have hdr : ks.drop k = x :: ks.drop (k + 1) := by rw [List.drop_eq_getElem_cons hlt, hx, getD_lt hlt]
      have HDR := Lib.hid hdr
      have HX := Lib.hid hx
      clear hdr hc hx
      have i1 : (0 : Int) ≤ (k : Int) := by omega
      have i2 : (k : Int) < (ks.length : Int) := by omega
      by_cases hx1 : x = 1
      · subst hx1
        have k1 : (((1 : Nat) : Int) == 1) = true := rfl
        go_wp2_with fail
        go_roundw
        case rel => exact ⟨k + 1, q' + 1, m, out, A', c', by omega, by go_num, by go_num, rfl, HM.out, by omega, by have := HS1.out; rwa [HDR.out, sentf_one] at this, by have := HQ1.out; rwa [HDR.out, sentf_one] at this, yr, HO.out⟩
        case measure => simp [intOf] <;> omega
      · have k1 : ((x : Int) == 1) = false := by rw [beq_eq_false_iff_ne]; omega
        obtain ⟨b, hb⟩ : ∃ b, b = x / 2 := ⟨_, rfl⟩
        have hb1 : b ≤ 1 := by omega
        have HSN := Lib.hid (show sentf (ks.drop k) q' = (crt b q' ++ (sentf (ks.drop (k + 1)) 0).1, (sentf (ks.drop (k + 1)) 0).2) by rw [HDR.out, sentf_other hx1, ← hb])
        have hdv : (x : Int) / 2 = (b : Int) := by omega
        have HBB := Lib.hid hb
        have HBC := Lib.hid (ncells_snoc out b)
        have hsub : (1 : Int) - (b : Int) = ((1 - b : Nat) : Int) := by omega
        clear hb hx1 hx2
        go_wp2_with (at_builtin; refine wpList_app1 _ rfl _ _ _ rfl w.heap.size 3 i0 _ 8 Try.underlying34 hi0 hz0 hz1 hz2 rfl _ _ _ rfl HO.out (.int .i64 (b : Nat)) rfl rfl ?g1 ?g2 hys ?_)
        case g1 => unfold maxLen; omega
        case g2 => omega
        intro A5 c5 w5 ho5 hg5
        have Y5 := below_grown yr HO.out hg5 (Nat.le_refl _) hys
        rw [← HBC.out] at ho5
        have HO5 := Lib.hid ho5
        clear ho5 hg5 hcell
        have hys5 := Y5.size
        have hg6 := (Y5.trans ((Below.refl _ _))).size
        go_wp2_with fail
        go_loopw [6, 8] (fun s i wr => ∃ (j M : Nat) (A' : Option Addr) (c' : Nat), j ≤ q' ∧ i = .int .i64 (j : Nat) ∧ M = m + 1 + j ∧ s = .slice A' M c' ∧ Below w.heap.size w wr ∧ wr.ownsRow w.heap.size 3 1 (.slice A' M c') M (ncells (out ++ (b :: List.replicate j (1 - b))))) (fun _ i _ => q' - (intOf i).toNat)
        case atStart => exact ⟨0, m + 1, A5, c5, Nat.zero_le _, rfl, rfl, rfl, Y5, HO5.out⟩
        case round =>
          obtain ⟨j, M, A6, c6, hj, rfl, hM, rfl, Y6, ho6⟩ := hrel
          have HO6 := Lib.hid ho6
          have HMM := Lib.hid hM
          have hMb : M ≤ 2000000 := by omega
          have hys6 := Y6.size
          clear ho6
          by_cases hjq : j < q'
          · obtain ⟨g', off', e', hg', hc'⟩ := (h.on Y6).2.2.2 (by omega)
            injection e' with e'
            injection e' with e1 e2
            subst e1 e2
            have hcell := hc' k _ (ncells_get ks k hlt)
            rw [← HX.out] at hcell
            have HBC6 := Lib.hid (ncells_crt out b j)
            clear hc' hM
            go_wp2_with (at_builtin; refine wpList_app1 _ rfl _ _ _ rfl w.heap.size 3 i0 _ 8 Try.underlying34 hi0 hz0 hz1 hz2 rfl _ _ _ rfl HO6.out (.int .i64 ((1 - b : Nat) : Int)) rfl rfl ?g1 ?g2 hys6 ?_)
            case g1 => unfold maxLen; omega
            case g2 => omega
            intro A7 c7 w7 ho7 hg7
            have Y7 := below_grown Y6 HO6.out hg7 (Nat.le_refl _) hys6
            rw [← HBC6.out] at ho7
            have HO7 := Lib.hid ho7
            clear ho7 hg7 hcell
            go_wp2_with fail
            go_roundw
            case rel => exact ⟨j + 1, M + 1, A7, c7, by omega, by go_num, by have := HMM.out; omega, rfl, Y7, HO7.out⟩
            case measure => simp [intOf] <;> omega
          · obtain rfl : j = q' := by omega
            clear hM
            go_wp2_with fail
            go_roundw
            case rel => exact ⟨k + 1, 0, M, out ++ crt b j, A6, c6, by omega, by go_num, rfl, rfl, by have := HMM.out; have := HM.out; simp only [List.length_append, crt, List.length_cons, List.length_replicate]; omega, by have := HMM.out; omega, by have := HS1.out; rw [HSN.out] at this; rw [List.append_assoc]; exact this, by have := HQ1.out; rwa [HSN.out] at this, Y6, HO6.out⟩
            case measure => simp [intOf] <;> omega
    · obtain rfl : k = ks.length := by omega
      have e1 := HS1.out
      have e2 := HQ1.out
      rw [List.drop_length] at e1 e2
      have HA := Lib.hid (show out = S by simpa [sentf] using e1)
      have HB := Lib.hid (show q' = Q from e2)
      clear e1 e2
      go_wp2
      go_ret2
      refine ⟨A', m, c', ?_, ?_, ?_, yr⟩
      · rw [HB.out]; rfl
      · rw [← HA.out]; exact HM.out.symm
      · rw [← HA.out]; exact HO.out
end PB
end Go.Proofs.Ytnnpkajmheglgaa
