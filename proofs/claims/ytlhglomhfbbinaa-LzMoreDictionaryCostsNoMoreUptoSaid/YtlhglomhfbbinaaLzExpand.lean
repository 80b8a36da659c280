/-
  lz.Expand: the bytes for which tokens stand.
-/
import Derived.Test.YtlhglomhfbbinaaLzCost
import Derived.Test.YtlhglomhfbbinaaSlices
namespace Go.Proofs.Ytlhglomhfbbinaa
open Go.RowKit
attribute [local go_sem ↓] Go.wp_at_zero Go.wp_at_succ
set_option linter.unusedVariables false
set_option linter.unusedSimpArgs false
namespace PB
set_option maxHeartbeats 1600000 in
theorem lzexp_bad {A : Option Addr} {n c : Nat} {xs : List Tok} {A2 : Option Addr} {n2 c2 : Nat} {code idx : Int} {w : World} (h : RdT w A n c xs) (hT : TOut xs code idx) (hc : code ≠ 0) :
    Calls Try.prog 16 #[.slice A n c, .slice A2 n2 c2] w fun e w' => e = .returned (.tuple #[.slice none 0 0, .agg #[.int .i64 code, .int .i64 idx]]) ∧ Below w.heap.size w w' := by
  have X0 := Two.new w 25 (.int .i64 0) (.int .i64 0)
  have y0 : Below w.heap.size w (w.alloc (.cells #[.int .i64 0, .int .i64 0] 25)) := (Below.refl _ _).alloc (Nat.le_refl _) _
  have R0 := h.alloc (.cells #[.int .i64 0, .int .i64 0] 25)
  have hnq := run_neq_flt code idx 0 0 (fun e => hc e.1)
  have HT := Lib.hid hT
  clear hT hc h
  go_enter Try.func16, Try.ntmps16
  go_wp2_with fail
  refine (lzcheck_any R0 HT.out).mono ?_
  rintro e w1 ⟨rfl, y1⟩
  have X1 := X0.on y1
  have Y1 := y0.trans (y1.mono y0.size)
  have X2 := X1.alloc (.cells #[.int .i64 code, .int .i64 idx] 25)
  have B2 := Two.new w1 25 (.int .i64 code) (.int .i64 idx)
  have Y2 := Y1.alloc Y1.size (.cells #[.int .i64 code, .int .i64 idx] 25)
  obtain ⟨f0, f1, f2, f3, f4⟩ := X2.facts
  obtain ⟨g0, g1, g2, g3, g4⟩ := B2.facts
  go_upto_region 3 with (fail)
  go_region
  go_wp2
  have r0 := ((X2.set0 (.int .i64 code)).set1 (.int .i64 idx)).c0
  have r1 := ((X2.set0 (.int .i64 code)).set1 (.int .i64 idx)).c1
  exact bodyPost_ret (v := .tuple #[.slice none 0 0, .agg #[.int .i64 code, .int .i64 idx]]) (by simp [results, Try.results16, go_sem, r0, r1]) rfl ⟨rfl, belowD ((Y2.setCell (Nat.le_refl _) _).setCell (Nat.le_refl _) _)⟩
set_option maxHeartbeats 1600000 in
theorem lzexp_dict {A : Option Addr} {n c : Nat} {xs : List Tok} {A2 : Option Addr} {n2 c2 : Nat} {w : World} (h : RdT w A n c xs) (hT : TOut xs 0 0) (hn2 : 512 < n2) :
    Calls Try.prog 16 #[.slice A n c, .slice A2 n2 c2] w fun e w' => e = .returned (.tuple #[.slice none 0 0, .agg #[.int .i64 3, .int .i64 (-2)]]) ∧ Below w.heap.size w w' := by
  have X0 := Two.new w 25 (.int .i64 0) (.int .i64 0)
  have y0 : Below w.heap.size w (w.alloc (.cells #[.int .i64 0, .int .i64 0] 25)) := (Below.refl _ _).alloc (Nat.le_refl _) _
  have R0 := h.alloc (.cells #[.int .i64 0, .int .i64 0] 25)
  have HT := Lib.hid hT
  clear hT h
  go_enter Try.func16, Try.ntmps16
  go_wp2_with fail
  refine (lzcheck_any R0 HT.out).mono ?_
  rintro e w1 ⟨rfl, y1⟩
  have X1 := X0.on y1
  have Y1 := y0.trans (y1.mono y0.size)
  have X2 := X1.alloc (.cells #[.int .i64 0, .int .i64 0] 25)
  have B2 := Two.new w1 25 (.int .i64 0) (.int .i64 0)
  have Y2 := Y1.alloc Y1.size (.cells #[.int .i64 0, .int .i64 0] 25)
  obtain ⟨g0, g1, g2, g3, g4⟩ := B2.facts
  go_wp2_with fail
  refine (lzfault_any _ _ _).mono ?_
  rintro e w2 ⟨rfl, y2⟩
  have X3 := X2.on y2
  have Y3 := Y2.trans (y2.mono Y2.size)
  obtain ⟨f0, f1, f2, f3, f4⟩ := X3.facts
  go_wp2
  have r0 := ((X3.set0 (.int .i64 3)).set1 (.int .i64 (-2))).c0
  have r1 := ((X3.set0 (.int .i64 3)).set1 (.int .i64 (-2))).c1
  exact bodyPost_ret (v := .tuple #[.slice none 0 0, .agg #[.int .i64 3, .int .i64 (-2)]]) (by simp [results, Try.results16, go_sem, r0, r1]) rfl ⟨rfl, (Y3.setCell (Nat.le_refl _) _).setCell (Nat.le_refl _) _⟩
/-- What lz.Expand hands back. -/
def ExpOut (n2 : Nat) (R : Int × Int × List Nat) (w : World) (e : Ending) (w' : World) : Prop :=
  ∃ A' m c', e = .returned (.tuple #[.slice A' m c', .agg #[.int .i64 R.1, .int .i64 R.2.1]]) ∧ Rd w' A' m c' (bcells (if R.1 = 0 then R.2.2.drop n2 else [])) ∧ Below w.heap.size w w'
set_option maxRecDepth 100000 in
set_option maxHeartbeats 3200000 in
theorem lzexp_ok {A : Option Addr} {n c : Nat} {xs : List Tok} {A2 : Option Addr} {n2 c2 : Nat} {dict : List Nat} {w : World} (h : RdT w A n c xs) (h2 : Rd w A2 n2 c2 (bcells dict)) (hl : xs.length ≤ 1024) (hall : AllTok xs xs.length) (hn2 : n2 ≤ 512) :
    Calls Try.prog 16 #[.slice A n c, .slice A2 n2 c2] w (ExpOut n2 (expf n2 xs 0 dict) w) := by
  obtain ⟨i0, hi, hz0, hz1, hz2⟩ := info_parts byte_info
  have hn := h.1
  have hcap := h.2.1
  have hcm := h.2.2.1
  unfold maxLen at hcm
  obtain rfl := hn
  have hd2 := h2.len
  rw [bcells_length] at hd2
  have X0 := Two.new w 25 (.int .i64 0) (.int .i64 0)
  have y0 : Below w.heap.size w (w.alloc (.cells #[.int .i64 0, .int .i64 0] 25)) := (Below.refl _ _).alloc (Nat.le_refl _) _
  have R0 := h.alloc (.cells #[.int .i64 0, .int .i64 0] 25)
  have D0 := h2.alloc (.cells #[.int .i64 0, .int .i64 0] 25)
  obtain ⟨RR, hRR⟩ : ∃ RR, RR = expf n2 xs 0 dict := ⟨_, rfl⟩
  rw [← hRR]
  have HRR := Lib.hid hRR
  have HA := Lib.hid hall
  have HD2 := Lib.hid hd2
  have k512 : decide ((512 : Int) < (n2 : Int)) = false := by simp; omega
  clear hall h2 hRR hd2
  have fin : ∀ (W : World) (cd ix : Int), RR.1 = cd → RR.2.1 = ix → cd ≠ 0 → Below w.heap.size w W → ExpOut n2 RR w (.returned (.tuple #[.slice none 0 0, .agg #[.int .i64 cd, .int .i64 ix]])) ((W.setCell ⟨w.heap.size, 0, none⟩ (.int .i64 cd)).setCell ⟨w.heap.size, 1, none⟩ (.int .i64 ix)) := by
    intro W cd ix h1 h2 h3 hY
    subst h1 h2
    exact ⟨none, 0, 0, rfl, by rw [if_neg h3]; exact Reads.nil _ _ none 0 (Nat.zero_le _), (hY.setCell (Nat.le_refl _) _).setCell (Nat.le_refl _) _⟩
  have HF := Lib.hid fin
  clear fin
  go_enter Try.func16, Try.ntmps16
  go_wp2_with fail
  refine (lzcheck_any R0 (.inr (.inr ⟨hl, HA.out, rfl, rfl⟩))).mono ?_
  rintro e w1 ⟨rfl, y1⟩
  have X2 := (X0.on y1).alloc (.cells #[.int .i64 0, .int .i64 0] 25)
  have Y1 := y0.trans (y1.mono y0.size)
  have Y2 := Y1.alloc Y1.size (.cells #[.int .i64 0, .int .i64 0] 25)
  have B2 := Two.new w1 25 (.int .i64 0) (.int .i64 0)
  have D2 := (D0.on y1).alloc (.cells #[.int .i64 0, .int .i64 0] 25)
  obtain ⟨g0, g1, g2, g3, g4⟩ := B2.facts
  clear y1 X0 y0 R0 Y1 D0
  go_wp2_with fail
  refine (bclone_any D2 (by omega)).mono ?_
  rintro e w2 ⟨A3, c3, rfl, o3, y3⟩
  have X3 := X2.on y3
  have Y3 := Y2.trans (y3.mono Y2.size)
  have HO3 := Lib.hid (own_less o3 Y2.size)
  clear o3 y3 X2 Y2 B2 g0 g1 g2 g3 g4 D2
  go_wp2_with fail
  go_loopw [7, 24] (fun s i wr => ∃ k m : Nat, ∃ A' c' win, k ≤ xs.length ∧ i = .int .i64 k ∧ s = .slice A' m c' ∧ m = win.length ∧ n2 ≤ m ∧ m ≤ n2 + 1024 ∧ Below w.heap.size w wr ∧ Two wr w.heap.size 25 (.int .i64 0) (.int .i64 0) ∧
      wr.ownsRow w.heap.size 5 1 (.slice A' m c') m (bcells win) ∧ RR = expf n2 (xs.drop k) k win) (fun _ i _ => xs.length - (intOf i).toNat)
  case atStart => exact ⟨0, n2, A3, c3, dict, Nat.zero_le _, rfl, rfl, HD2.out.symm, Nat.le_refl _, by omega, Y3, X3, HO3.out, HRR.out⟩
  case round =>
    obtain ⟨k, m, A', c', win, hk, rfl, rfl, hm, hm1, hm2, yr, XR, ho, hR⟩ := hrel
    have HM := Lib.hid hm
    have HO := Lib.hid ho
    have HR := Lib.hid hR
    clear Y3 X3 HO3 HRR hm ho hR
    by_cases hlt : k < xs.length
    · obtain ⟨b, off, rfl, hb, q1, q2, q3⟩ := (h.on yr).at k hlt
      obtain ⟨xd, xn, xl, hx⟩ : ∃ xd xn xl, xs[k] = (⟨xd, xn, xl⟩ : Tok) := ⟨_, _, _, rfl⟩
      rw [hx] at q1 q2 q3
      dsimp only at q1 q2 q3
      have hok : Tok.ok ⟨xd, xn, xl⟩ := by rw [← hx]; exact HA.out k hlt hlt
      have HOK := Lib.hid hok
      have HS := Lib.hid (show RR = if (m : Int) < xd then (4, ((k : Nat) : Int), win) else if 1024 < m - n2 + tlen ⟨xd, xn, xl⟩ then (14, ((k : Nat) : Int), win) else expf n2 (xs.drop (k + 1)) (k + 1) (ext win ⟨xd, xn, xl⟩) by
        rw [HR.out, List.drop_eq_getElem_cons hlt, expf, hx, ← HM.out])
      have hmx := tlen_max _ hok
      have htp := tlen_pos _ hok
      obtain ⟨tl, htl⟩ : ∃ tl, tl = tlen ⟨xd, xn, xl⟩ := ⟨_, rfl⟩
      rw [← htl] at hmx htp HS
      dsimp only at hmx HS
      have HTL := Lib.hid htl
      clear hx hok htl HR
      have ysz := yr.size
      have yv := yr.alloc ysz (.cells #[.int .i64 xd, .int .i64 xn, .int .u8 (xl : Nat)] 37)
      have XV := XR.alloc (.cells #[.int .i64 xd, .int .i64 xn, .int .u8 (xl : Nat)] 37)
      have V0 := Three.new wr 37 (.int .i64 xd) (.int .i64 xn) (.int .u8 (xl : Nat))
      have HOV := Lib.hid (HO.out.alloc (.cells #[.int .i64 xd, .int .i64 xn, .int .u8 (xl : Nat)] 37))
      have v0 := V0.c0
      have v1 := V0.c1
      have v2 := V0.c2
      have HMX := Lib.hid hmx
      clear hmx
      by_cases hdist : (m : Int) < xd
      · have hRR : RR = (4, ((k : Nat) : Int), win) := by rw [HS.out, if_pos hdist]
        have H1 := Lib.hid (show RR.1 = 4 by rw [hRR])
        have H2 := Lib.hid (show RR.2.1 = (k : Nat) by rw [hRR])
        clear hRR HS
        go_wp2_with fail
        refine (lzfault_any _ _ _).mono ?_
        rintro e w4 ⟨rfl, y4⟩
        have X4 := XV.on y4
        have Y4 := yv.trans (y4.mono yv.size)
        obtain ⟨f0, f1, f2, f3, f4⟩ := X4.facts
        go_wp2
        have r0 := ((X4.set0 (.int .i64 4)).set1 (.int .i64 (k : Nat))).c0
        have r1 := ((X4.set0 (.int .i64 4)).set1 (.int .i64 (k : Nat))).c1
        exact bodyPost_ret (v := .tuple #[.slice none 0 0, .agg #[.int .i64 4, .int .i64 (k : Nat)]]) (by simp [results, Try.results16, go_sem, r0, r1]) rfl (HF.out _ 4 (k : Nat) H1.out H2.out (by decide) Y4)
      have hmx2 : max xn 1 = ((tl : Nat) : Int) := HMX.out.symm
      by_cases hbig : 1024 < m - n2 + tl
      · have hRR : RR = (14, ((k : Nat) : Int), win) := by rw [HS.out, if_neg hdist, if_pos hbig]
        have H1 := Lib.hid (show RR.1 = 14 by rw [hRR])
        have H2 := Lib.hid (show RR.2.1 = (k : Nat) by rw [hRR])
        clear hRR HS
        go_wp2_with fail
        refine (lzfault_any _ _ _).mono ?_
        rintro e w4 ⟨rfl, y4⟩
        have X4 := XV.on y4
        have Y4 := yv.trans (y4.mono yv.size)
        obtain ⟨f0, f1, f2, f3, f4⟩ := X4.facts
        go_wp2
        have r0 := ((X4.set0 (.int .i64 14)).set1 (.int .i64 (k : Nat))).c0
        have r1 := ((X4.set0 (.int .i64 14)).set1 (.int .i64 (k : Nat))).c1
        exact bodyPost_ret (v := .tuple #[.slice none 0 0, .agg #[.int .i64 14, .int .i64 (k : Nat)]]) (by simp [results, Try.results16, go_sem, r0, r1]) rfl (HF.out _ 14 (k : Nat) H1.out H2.out (by decide) Y4)
      have HNX := Lib.hid (show RR = expf n2 (xs.drop (k + 1)) (k + 1) (ext win ⟨xd, xn, xl⟩) by rw [HS.out, if_neg hdist, if_neg hbig])
      clear HS
      have HNX2 := HNX
      rcases HOK.out with ⟨h1, h2⟩ | ⟨h0, h1, h2, h3, h4⟩
      · dsimp only at h1 h2
        subst h1 h2
        have hev : ext win ⟨0, 0, xl⟩ = win ++ [xl] := rfl
        obtain rfl : tl = 1 := by rw [HTL.out]; rfl
        rw [hev] at HNX
        have HBC := Lib.hid (show bcells (win ++ [xl]) = bcells win ++ [.int .u8 (xl : Nat)] by rw [bcells_append]; rfl)
        have HLL := Lib.hid (show m + 1 = (win ++ [xl]).length by rw [List.length_append, ← HM.out]; rfl)
        clear hev HNX2
        go_wp2_with fail
        refine (islit_any _ _ _ true (by simp) _).mono ?_
        rintro e w4 ⟨rfl, y4⟩
        have X4 := XV.on y4
        have Y4 := yv.trans (y4.mono yv.size)
        have V4 := V0.on y4
        have c0 := V4.c0
        have c1 := V4.c1
        have c2 := V4.c2
        have HO4 := Lib.hid (own_on HOV.out y4)
        have Y4s := Y4.size
        clear q1 q2 q3 v0 v1 v2 XV yv V0
        go_wp2_with (at_builtin; refine wpList_app1 _ rfl _ _ _ rfl w.heap.size 5 i0 _ 1 Try.underlying22 hi hz0 hz1 hz2 rfl _ _ _ rfl HO4.out (.int .u8 (xl : Nat)) rfl rfl ?g1 ?g2 Y4s ?_)
        case g1 => unfold maxLen; omega
        case g2 => omega
        intro A5 c5 w5 ho5 hg5
        have Y5 := below_grown Y4 HO4.out hg5 (Nat.le_refl _) Y4s
        have hlt4 := X4.lt
        have X5 := X4.grown hg5 (own_two_ne HO4.out X4 (by decide)).symm
        have V5 := V4.grown hg5 (own_three_ne HO4.out V4 (by decide)).symm
        have d1 := V5.c1
        rw [← HBC.out] at ho5
        have HO5 := Lib.hid ho5
        clear ho5 hg5 c0 c1 c2 V4 X4 Y4
        go_wp2_with fail
        go_loopw [7, 60] (fun s i wr => s = .slice A5 (m + 1) c5 ∧ i = .int .i64 0 ∧ wr = w5) (fun _ i _ => 0)
        case atStart => exact ⟨rfl, rfl, rfl⟩
        case round =>
          obtain ⟨rfl, rfl, rfl⟩ := hrel
          go_wp2_with fail
          go_roundw
          case rel => exact ⟨k + 1, m + 1, A5, c5, _, by omega, by go_num, rfl, HLL.out, by omega, by omega, Y5, X5, HO5.out, HNX.out⟩
          case measure => simp [intOf] <;> omega
      · dsimp only at h0 h1 h2 h3 h4
        obtain ⟨d, rfl⟩ := Int.eq_ofNat_of_zero_le (show 0 ≤ xd by omega)
        obtain ⟨n, rfl⟩ := Int.eq_ofNat_of_zero_le (show 0 ≤ xn by omega)
        have hev : ext win ⟨(d : Nat), (n : Nat), xl⟩ = copyN d n win := by unfold ext; dsimp only; rw [if_neg (by omega)]; rfl
        obtain rfl : tl = n := by rw [HTL.out]; unfold tlen; dsimp only; rw [if_neg (by omega)]; rfl
        rw [hev] at HNX
        clear hev HNX2 h0 hmx2
        go_wp2_with fail
        refine (islit_any _ _ _ false (by simp; omega) _).mono ?_
        rintro e w4 ⟨rfl, y4⟩
        have X4 := XV.on y4
        have Y4 := yv.trans (y4.mono yv.size)
        have V4 := V0.on y4
        have c0 := V4.c0
        have c1 := V4.c1
        have c2 := V4.c2
        have HO4 := Lib.hid (own_on HOV.out y4)
        have Y4s := Y4.size
        clear q1 q2 q3 v0 v1 v2 XV yv V0
        obtain ⟨gt, hgt⟩ : ∃ gt, gt = wr.heap.size := ⟨_, rfl⟩
        rw [← hgt] at V4 c0 c1 c2 ⊢
        clear hgt
        go_wp2_with fail
        clear c0 c1 c2
        go_loopw [7, 60] (fun s i wr => ∃ j M : Nat, ∃ A' c', j ≤ tl ∧ i = .int .i64 j ∧ M = m + j ∧ s = .slice A' M c' ∧ Below w.heap.size w wr ∧ Two wr w.heap.size 25 (.int .i64 0) (.int .i64 0) ∧ Three wr gt 37 (.int .i64 (d : Nat)) (.int .i64 (tl : Nat)) (.int .u8 (xl : Nat)) ∧
            wr.ownsRow w.heap.size 5 1 (.slice A' M c') M (bcells (copyN d j win))) (fun _ i _ => tl - (intOf i).toNat)
        case atStart => exact ⟨0, m, A', c', Nat.zero_le _, rfl, rfl, rfl, Y4, X4, V4, HO4.out⟩
        case round =>
          obtain ⟨j, M, A6, c6, hj, rfl, hM, rfl, Y6, X6, V6, ho6⟩ := hrel
          have HO6 := Lib.hid ho6
          have HMM := Lib.hid hM
          have hM1 : m ≤ M := by omega
          have hM2 : M ≤ m + 1024 := by omega
          have Y6s := Y6.size
          clear ho6 hM Y4 X4 V4 HO4 yr
          by_cases hjn : j < tl
          · have hlen : (copyN d j win).length = M := by rw [copyN_length, HMM.out, ← HM.out]
            obtain ⟨b6, o6, rfl, hb6, hc6⟩ := (Rd.own HO6.out).2.2.2 (by omega)
            have hcell := hc6 (M - d) _ (bcells_get (copyN d j win) (M - d) (by omega))
            obtain ⟨v, hv⟩ : ∃ v, v = (copyN d j win).getD (M - d) 0 := ⟨_, rfl⟩
            rw [← hv] at hcell
            have HBC := Lib.hid (show bcells (copyN d (j + 1) win) = bcells (copyN d j win) ++ [.int .u8 (v : Nat)] by rw [copyN_snoc, hlen, ← hv, bcells_append]; rfl)
            clear hc6 hv hlen
            have i1 : (0 : Int) ≤ (M : Int) - (d : Int) := by omega
            have i2 : (M : Int) - (d : Int) < (M : Int) := by omega
            have i3 : ((M : Int) - (d : Int)).toNat = M - d := by omega
            have c0 := V6.c0
            have c1 := V6.c1
            go_wp2_with (at_builtin; refine wpList_app1 _ rfl _ _ _ rfl w.heap.size 5 i0 _ 1 Try.underlying22 hi hz0 hz1 hz2 rfl _ _ _ rfl HO6.out (.int .u8 (v : Nat)) rfl rfl ?g1 ?g2 Y6s ?_)
            case g1 => unfold maxLen; omega
            case g2 => omega
            intro A7 c7 w7 ho7 hg7
            have Y7 := below_grown Y6 HO6.out hg7 (Nat.le_refl _) Y6s
            have X7 := X6.grown hg7 (own_two_ne HO6.out X6 (by decide)).symm
            have V7 := V6.grown hg7 (own_three_ne HO6.out V6 (by decide)).symm
            rw [← HBC.out] at ho7
            have HO7 := Lib.hid ho7
            clear ho7 hg7 c0 c1 V6 X6 Y6 i1 i2 i3
            go_wp2_with fail
            go_roundw
            case rel => exact ⟨j + 1, M + 1, A7, c7, by omega, by go_num, by rw [HMM.out]; omega, rfl, Y7, X7, V7, HO7.out⟩
            case measure => simp [intOf] <;> omega
          · obtain rfl : j = tl := by omega
            have c1 := V6.c1
            go_wp2_with fail
            go_roundw
            case rel => exact ⟨k + 1, M, A6, c6, _, by omega, by go_num, rfl, by rw [copyN_length, HMM.out, ← HM.out], by omega, by have := HMM.out; omega, Y6, X6, HO6.out, HNX.out⟩
            case measure => simp [intOf] <;> omega
    · obtain rfl : k = xs.length := by omega
      have hRR : RR = (0, 0, win) := by rw [HR.out, List.drop_eq_nil_of_le (Nat.le_refl _)]; rfl
      have H1 := Lib.hid (show RR.1 = 0 by rw [hRR])
      have H2 := Lib.hid (show RR.2.1 = 0 by rw [hRR])
      have H3 := Lib.hid (show RR.2.2 = win by rw [hRR])
      obtain ⟨At, hcut, hrt⟩ := Rd.tail (A := A') (n := m) (c := c') 22 5 i0 Try.underlying22 hi hz1 (Reads.cap (Rd.own HO.out)) n2 hm1
      obtain ⟨f0, f1, f2, f3, f4⟩ := XR.facts
      have HRT := Lib.hid hrt
      clear hrt hRR hz0 hz1 hz2 hi
      go_wp2
      have r0 := ((XR.set0 (.int .i64 0)).set1 (.int .i64 0)).c0
      have r1 := ((XR.set0 (.int .i64 0)).set1 (.int .i64 0)).c1
      refine bodyPost_ret (v := .tuple #[.slice At (m - n2) (c' - n2), .agg #[.int .i64 0, .int .i64 0]]) (by simp [results, Try.results16, go_sem, r0, r1]) rfl ⟨At, m - n2, c' - n2, by rw [H1.out, H2.out], ?_, (yr.setCell (Nat.le_refl _) _).setCell (Nat.le_refl _) _⟩
      rw [if_pos H1.out, H3.out]
      have hne := own_two_ne HO.out XR (by decide)
      have hown := own_far_any (own_far_any HO.out (p := ⟨w.heap.size, 0, none⟩) hne (.int .i64 0)) (p := ⟨w.heap.size, 1, none⟩) hne (.int .i64 0)
      have := HRT.out _ _ (Rd.own hown)
      rw [show bcells (win.drop n2) = (bcells win).drop n2 by simp [bcells, List.map_drop]]
      exact this
end PB
end Go.Proofs.Ytlhglomhfbbinaa
