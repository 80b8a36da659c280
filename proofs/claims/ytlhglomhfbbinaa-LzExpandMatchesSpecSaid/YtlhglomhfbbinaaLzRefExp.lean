/-
  The reference's Expanded: the bytes for which tokens stand.
-/
import Derived.Test.YtlhglomhfbbinaaLzExpand
namespace Go.Proofs.Ytlhglomhfbbinaa
open Go.RowKit
attribute [local go_sem ↓] Go.wp_at_zero Go.wp_at_succ
set_option linter.unusedVariables false
set_option linter.unusedSimpArgs false
namespace PB
theorem RdT.cells {w : World} {b off n c k : Nat} {xs : List Tok} {xd xn : Int} {xl : Nat} (h : RdT w (some ⟨b, off, none⟩) n c xs) (hk : xs[k]? = some ⟨xd, xn, xl⟩) :
    b < w.heap.size ∧ w.cell? ⟨b, off + k * 3, none⟩ = some (.int .i64 xd) ∧ w.cell? ⟨b, off + k * 3 + 1, none⟩ = some (.int .i64 xn) ∧ w.cell? ⟨b, off + k * 3 + 2, none⟩ = some (.int .u8 (xl : Nat)) := by
  obtain ⟨h1, h2, h3, h4⟩ := h
  have hl : k < xs.length := by
    rcases Nat.lt_or_ge k xs.length with h | h
    · exact h
    · rw [List.getElem?_eq_none h] at hk; cases hk
  obtain ⟨b', off', e, hlt, hc⟩ := h4 (by omega)
  injection e with e
  injection e with e1 e2
  subst e1 e2
  exact ⟨hlt, hc k _ hk⟩
set_option maxHeartbeats 1600000 in
theorem refexp_bad {A : Option Addr} {n c : Nat} {xs : List Tok} {A2 : Option Addr} {n2 c2 : Nat} {code idx : Int} {w : World} (h : RdT w A n c xs) (hT : TOut xs code idx) (hc : code ≠ 0) :
    Calls Try.prog 17 #[.slice A n c, .slice A2 n2 c2] w fun e w' => e = .returned (.tuple #[.slice none 0 0, .agg #[.int .i64 code, .int .i64 idx]]) ∧ Below w.heap.size w w' := by
  have X0 := Two.new w 25 (.int .i64 0) (.int .i64 0)
  have y0 : Below w.heap.size w (w.alloc (.cells #[.int .i64 0, .int .i64 0] 25)) := (Below.refl _ _).alloc (Nat.le_refl _) _
  have R0 := h.alloc (.cells #[.int .i64 0, .int .i64 0] 25)
  have hq1 : (code == 0) = false := by rw [beq_eq_false_iff_ne]; exact hc
  have hq2 : (code != 0) = true := by rw [bne_iff_ne]; exact hc
  have HT := Lib.hid hT
  clear hT hc h
  go_enter Try.func17, Try.ntmps17
  go_wp2_with fail
  refine (tokensfault_any R0 HT.out).mono ?_
  rintro e w1 ⟨rfl, y1⟩
  have X1 := X0.on y1
  have Y1 := y0.trans (y1.mono y0.size)
  have X2 := X1.alloc (.cells #[.int .i64 code, .int .i64 idx] 25)
  have B2 := Two.new w1 25 (.int .i64 code) (.int .i64 idx)
  have Y2 := Y1.alloc Y1.size (.cells #[.int .i64 code, .int .i64 idx] 25)
  obtain ⟨f0, f1, f2, f3, f4⟩ := X2.facts
  obtain ⟨g0, g1, g2, g3, g4⟩ := B2.facts
  go_upto_region 5 with (fail)
  go_region
  go_wp2
  have r0 := ((X2.set0 (.int .i64 code)).set1 (.int .i64 idx)).c0
  have r1 := ((X2.set0 (.int .i64 code)).set1 (.int .i64 idx)).c1
  exact bodyPost_ret (v := .tuple #[.slice none 0 0, .agg #[.int .i64 code, .int .i64 idx]]) (by simp [results, Try.results17, go_sem, r0, r1]) rfl ⟨rfl, belowD ((Y2.setCell (Nat.le_refl _) _).setCell (Nat.le_refl _) _)⟩
set_option maxHeartbeats 1600000 in
theorem refexp_dict {A : Option Addr} {n c : Nat} {xs : List Tok} {A2 : Option Addr} {n2 c2 : Nat} {w : World} (h : RdT w A n c xs) (hT : TOut xs 0 0) (hn2 : 512 < n2) :
    Calls Try.prog 17 #[.slice A n c, .slice A2 n2 c2] w fun e w' => e = .returned (.tuple #[.slice none 0 0, .agg #[.int .i64 3, .int .i64 (-2)]]) ∧ Below w.heap.size w w' := by
  have X0 := Two.new w 25 (.int .i64 0) (.int .i64 0)
  have y0 : Below w.heap.size w (w.alloc (.cells #[.int .i64 0, .int .i64 0] 25)) := (Below.refl _ _).alloc (Nat.le_refl _) _
  have R0 := h.alloc (.cells #[.int .i64 0, .int .i64 0] 25)
  have HT := Lib.hid hT
  clear hT h
  go_enter Try.func17, Try.ntmps17
  go_wp2_with fail
  refine (tokensfault_any R0 HT.out).mono ?_
  rintro e w1 ⟨rfl, y1⟩
  have X1 := X0.on y1
  have Y1 := y0.trans (y1.mono y0.size)
  have X2 := X1.alloc (.cells #[.int .i64 0, .int .i64 0] 25)
  have B2 := Two.new w1 25 (.int .i64 0) (.int .i64 0)
  have Y2 := Y1.alloc Y1.size (.cells #[.int .i64 0, .int .i64 0] 25)
  obtain ⟨g0, g1, g2, g3, g4⟩ := B2.facts
  have hxw := X1.lt
  go_wp2_with fail
  refine (refat_any _ _ _).mono ?_
  rintro e w2 ⟨rfl, y2⟩
  have X3 := X2.on y2
  have B3 := B2.on y2
  have Y3 := Y2.trans (y2.mono Y2.size)
  have e1 : w.heap.size ≠ w1.heap.size := by omega
  have e2 : ¬ w1.heap.size = w.heap.size := by omega
  have X4 := (X3.far (p := ⟨w1.heap.size, 0, none⟩) e1 (.int .i64 3)).far (p := ⟨w1.heap.size, 1, none⟩) e1 (.int .i64 (-2))
  have B4 := (B3.set0 (.int .i64 3)).set1 (.int .i64 (-2))
  have Y4 := (Y3.setCell (p := ⟨w1.heap.size, 0, none⟩) (by show w.heap.size ≤ w1.heap.size; omega) (.int .i64 3)).setCell (p := ⟨w1.heap.size, 1, none⟩) (by show w.heap.size ≤ w1.heap.size; omega) (.int .i64 (-2))
  clear g0 g1 g2 g3 g4
  obtain ⟨g0, g1, g2, g3, g4⟩ := B3.facts
  go_upto_region 4 with (fail)
  generalize ((w2.setCell ⟨w1.heap.size, 0, none⟩ (.int .i64 3)).setCell ⟨w1.heap.size, 1, none⟩ (.int .i64 (-2))) = w4 at X4 B4 Y4 ⊢
  clear g0 g1 g2 g3 g4
  obtain ⟨g0, g1, g2, g3, g4⟩ := B4.facts
  obtain ⟨f0, f1, f2, f3, f4⟩ := X4.facts
  go_upto_region 5 with (fail)
  go_region
  go_wp2
  have r0 := ((X4.set0 (.int .i64 3)).set1 (.int .i64 (-2))).c0
  have r1 := ((X4.set0 (.int .i64 3)).set1 (.int .i64 (-2))).c1
  exact bodyPost_ret (v := .tuple #[.slice none 0 0, .agg #[.int .i64 3, .int .i64 (-2)]]) (by simp [results, Try.results17, go_sem, r0, r1]) rfl ⟨rfl, belowD ((Y4.setCell (Nat.le_refl _) _).setCell (Nat.le_refl _) _)⟩
set_option maxRecDepth 100000 in
set_option maxHeartbeats 3200000 in
theorem refexp_ok {A : Option Addr} {n c : Nat} {xs : List Tok} {A2 : Option Addr} {n2 c2 : Nat} {dict : List Nat} {w : World} (h : RdT w A n c xs) (h2 : Rd w A2 n2 c2 (bcells dict)) (hl : xs.length ≤ 1024) (hall : AllTok xs xs.length) (hn2 : n2 ≤ 512) :
    Calls Try.prog 17 #[.slice A n c, .slice A2 n2 c2] w (ExpOut n2 (expf n2 xs 0 dict) w) := by
  obtain ⟨i0, hi, hz0, hz1, hz2⟩ := info_parts byte_info
  have hn := h.1
  have hcap := h.2.1
  have hcm := h.2.2.1
  unfold maxLen at hcm
  obtain rfl := hn
  have hd2 := h2.len
  rw [bcells_length] at hd2
  have X0 := Two.new w 25 (.int .i64 0) (.int .i64 0)
  have y0 : Below w.heap.size w (w.alloc (.cells #[.int .i64 0, .int .i64 0] 25)) := (Below.refl _ _).alloc (Nat.le_refl _) _
  have R0 := h.alloc (.cells #[.int .i64 0, .int .i64 0] 25)
  have D0 := h2.alloc (.cells #[.int .i64 0, .int .i64 0] 25)
  obtain ⟨RR, hRR⟩ : ∃ RR, RR = expf n2 xs 0 dict := ⟨_, rfl⟩
  rw [← hRR]
  have HRR := Lib.hid hRR
  have HA := Lib.hid hall
  have HD2 := Lib.hid hd2
  have k512 : decide ((512 : Int) < (n2 : Int)) = false := by simp; omega
  clear hall h2 hRR hd2
  have fin : ∀ (W : World) (cd ix : Int), RR.1 = cd → RR.2.1 = ix → cd ≠ 0 → Below w.heap.size w W → ExpOut n2 RR w (.returned (.tuple #[.slice none 0 0, .agg #[.int .i64 cd, .int .i64 ix]])) ((W.setCell ⟨w.heap.size, 0, none⟩ (.int .i64 cd)).setCell ⟨w.heap.size, 1, none⟩ (.int .i64 ix)) := by
    intro W cd ix h1 h2 h3 hY
    subst h1 h2
    exact ⟨none, 0, 0, rfl, by rw [if_neg h3]; exact Reads.nil _ _ none 0 (Nat.zero_le _), (hY.setCell (Nat.le_refl _) _).setCell (Nat.le_refl _) _⟩
  have HF := Lib.hid fin
  clear fin
  go_enter Try.func17, Try.ntmps17
  go_wp2_with fail
  refine (tokensfault_any R0 (.inr (.inr ⟨hl, HA.out, rfl, rfl⟩))).mono ?_
  rintro e w1 ⟨rfl, y1⟩
  have X2 := (X0.on y1).alloc (.cells #[.int .i64 0, .int .i64 0] 25)
  have Y1 := y0.trans (y1.mono y0.size)
  have Y2 := Y1.alloc Y1.size (.cells #[.int .i64 0, .int .i64 0] 25)
  have B2 := Two.new w1 25 (.int .i64 0) (.int .i64 0)
  have D2 := (D0.on y1).alloc (.cells #[.int .i64 0, .int .i64 0] 25)
  obtain ⟨g0, g1, g2, g3, g4⟩ := B2.facts
  have Y2s := Y2.size
  clear y1 X0 y0 R0 Y1 D0
  go_wp2_with (at_builtin; refine wpList_append_any _ rfl _ _ _ rfl w.heap.size 5 i0 _ 1 Try.underlying22 hi hz0 hz1 hz2 rfl _ _ _ rfl (World.ownsRow_nil _ _ _ _) _ _ n2 c2 _ rfl D2 (bcells_one _) ?g1 ?g2 Y2s ?_)
  case g1 => unfold maxLen; omega
  case g2 => omega
  intro A3 c3 w3 o3 g3' a3
  have X3 := X2.grown g3' (by intro e; cases e)
  have Y3 := Y2.grown g3' Y2s (fun g hg => by cases hg)
  (try simp only [Nat.zero_add, List.nil_append] at o3)
  have HO3 := Lib.hid o3
  have z0 : 0 + n2 = n2 := Nat.zero_add n2
  clear o3 g3' a3 X2 Y2 B2 g0 g1 g2 g3 g4 D2 Y2s
  go_wp2_with fail
  go_loopw [7, 8] (fun s i wr => ∃ k m : Nat, ∃ A' c' win, k ≤ xs.length ∧ i = .int .i64 k ∧ s = .slice A' m c' ∧ m = win.length ∧ n2 ≤ m ∧ m ≤ n2 + 1024 ∧ Below w.heap.size w wr ∧ Two wr w.heap.size 25 (.int .i64 0) (.int .i64 0) ∧
      wr.ownsRow w.heap.size 5 1 (.slice A' m c') m (bcells win) ∧ RR = expf n2 (xs.drop k) k win) (fun _ i _ => xs.length - (intOf i).toNat)
  case atStart => exact ⟨0, n2, A3, c3, dict, Nat.zero_le _, rfl, rfl, HD2.out.symm, Nat.le_refl _, by omega, Y3, X3, by have := HO3.out; (try rw [z0] at this); exact this, HRR.out⟩
  case round =>
    obtain ⟨k, m, A', c', win, hk, rfl, rfl, hm, hm1, hm2, yr, XR, ho, hR⟩ := hrel
    have HM := Lib.hid hm
    have HO := Lib.hid ho
    have HR := Lib.hid hR
    clear Y3 X3 HO3 HRR hm ho hR z0
    by_cases hlt : k < xs.length
    · obtain ⟨b, off, rfl, hb, -⟩ := (h.on yr).at k hlt
      obtain ⟨xd, xn, xl, hx⟩ : ∃ xd xn xl, xs[k] = (⟨xd, xn, xl⟩ : Tok) := ⟨_, _, _, rfl⟩
      have HX := Lib.hid (show xs[k]? = some (⟨xd, xn, xl⟩ : Tok) by rw [← hx]; exact List.getElem?_eq_getElem hlt)
      have hok : Tok.ok ⟨xd, xn, xl⟩ := by rw [← hx]; exact HA.out k hlt hlt
      have HOK := Lib.hid hok
      have HS := Lib.hid (show RR = if (m : Int) < xd then (4, ((k : Nat) : Int), win) else if 1024 < m - n2 + tlen ⟨xd, xn, xl⟩ then (14, ((k : Nat) : Int), win) else expf n2 (xs.drop (k + 1)) (k + 1) (ext win ⟨xd, xn, xl⟩) by
        rw [HR.out, List.drop_eq_getElem_cons hlt, expf, hx, ← HM.out])
      have htp := tlen_pos _ hok
      obtain ⟨tl, htl⟩ : ∃ tl, tl = tlen ⟨xd, xn, xl⟩ := ⟨_, rfl⟩
      rw [← htl] at htp HS
      have HTL := Lib.hid htl
      have HLE := Lib.hid (show ((tl : Nat) : Int) = if xd = 0 then 1 else xn by
        rw [htl]; unfold tlen; dsimp only
        rcases hok with ⟨e1, e2⟩ | ⟨_, e1, _, e3, _⟩
        · dsimp only at e1 e2
          rw [if_pos e1, if_pos e1]; rfl
        · dsimp only at e1 e3
          rw [if_neg (by omega), if_neg (by omega)]; omega)
      clear hx hok htl HR
      have ysz := yr.size
      obtain ⟨-, q1, q2, q3⟩ := (h.on yr).cells HX.out
      have i1 : (0 : Int) ≤ (k : Int) := by omega
      have i2 : (k : Int) < (xs.length : Int) := by omega
      by_cases hdist : (m : Int) < xd
      · have hRR : RR = (4, ((k : Nat) : Int), win) := by rw [HS.out, if_pos hdist]
        have H1 := Lib.hid (show RR.1 = 4 by rw [hRR])
        have H2 := Lib.hid (show RR.2.1 = (k : Nat) by rw [hRR])
        clear hRR HS
        go_wp2_with fail
        refine (refat_any _ _ _).mono ?_
        rintro e w4 ⟨rfl, y4⟩
        have X4 := XR.on y4
        have Y4 := yr.trans (y4.mono yr.size)
        obtain ⟨f0, f1, f2, f3, f4⟩ := X4.facts
        go_wp2
        have r0 := ((X4.set0 (.int .i64 4)).set1 (.int .i64 (k : Nat))).c0
        have r1 := ((X4.set0 (.int .i64 4)).set1 (.int .i64 (k : Nat))).c1
        exact bodyPost_ret (v := .tuple #[.slice none 0 0, .agg #[.int .i64 4, .int .i64 (k : Nat)]]) (by simp [results, Try.results17, go_sem, r0, r1]) rfl (HF.out _ 4 (k : Nat) H1.out H2.out (by decide) Y4)
      go_wp2_with fail
      refine (reflen_any xd xn (xl : Nat) (tl : Nat) HLE.out _).mono ?_
      rintro e w4 ⟨rfl, y4⟩
      have X4 := XR.on y4
      have Y4 := yr.trans (y4.mono yr.size)
      have HO4 := Lib.hid (own_on HO.out y4)
      clear q1 q2 q3 XR yr ysz HO
      obtain ⟨-, q1, q2, q3⟩ := (h.on Y4).cells HX.out
      have Y4s := Y4.size
      by_cases hbig : 1024 < m - n2 + tl
      · have hRR : RR = (14, ((k : Nat) : Int), win) := by rw [HS.out, if_neg (show ¬ (m : Int) < xd by omega), if_pos hbig]
        have H1 := Lib.hid (show RR.1 = 14 by rw [hRR])
        have H2 := Lib.hid (show RR.2.1 = (k : Nat) by rw [hRR])
        clear hRR HS
        go_wp2_with fail
        refine (refat_any _ _ _).mono ?_
        rintro e w5 ⟨rfl, y5⟩
        have X5 := X4.on y5
        have Y5 := Y4.trans (y5.mono Y4.size)
        obtain ⟨f0, f1, f2, f3, f4⟩ := X5.facts
        go_wp2
        have r0 := ((X5.set0 (.int .i64 14)).set1 (.int .i64 (k : Nat))).c0
        have r1 := ((X5.set0 (.int .i64 14)).set1 (.int .i64 (k : Nat))).c1
        exact bodyPost_ret (v := .tuple #[.slice none 0 0, .agg #[.int .i64 14, .int .i64 (k : Nat)]]) (by simp [results, Try.results17, go_sem, r0, r1]) rfl (HF.out _ 14 (k : Nat) H1.out H2.out (by decide) Y5)
      have HNX := Lib.hid (show RR = expf n2 (xs.drop (k + 1)) (k + 1) (ext win ⟨xd, xn, xl⟩) by rw [HS.out, if_neg (show ¬ (m : Int) < xd by omega), if_neg hbig])
      clear HS HLE
      rcases HOK.out with ⟨h1, h2⟩ | ⟨h0, h1, h2, h3, h4⟩
      · dsimp only at h1 h2
        subst h1 h2
        have hev : ext win ⟨0, 0, xl⟩ = win ++ [xl] := rfl
        obtain rfl : tl = 1 := by rw [HTL.out]; rfl
        rw [hev] at HNX
        have HBC := Lib.hid (show bcells (win ++ [xl]) = bcells win ++ [.int .u8 (xl : Nat)] by rw [bcells_append]; rfl)
        have HLL := Lib.hid (show m + 1 = (win ++ [xl]).length by rw [List.length_append, ← HM.out]; rfl)
        clear hev
        go_wp2_with (at_builtin; refine wpList_app1 _ rfl _ _ _ rfl w.heap.size 5 i0 _ 1 Try.underlying22 hi hz0 hz1 hz2 rfl _ _ _ rfl HO4.out (.int .u8 (xl : Nat)) rfl rfl ?g1 ?g2 Y4s ?_)
        case g1 => unfold maxLen; omega
        case g2 => omega
        intro A5 c5 w5 ho5 hg5
        have Y5 := below_grown Y4 HO4.out hg5 (Nat.le_refl _) Y4s
        have X5 := X4.grown hg5 (own_two_ne HO4.out X4 (by decide)).symm
        rw [← HBC.out] at ho5
        have HO5 := Lib.hid ho5
        clear ho5 hg5 q1 q2 q3 X4 Y4
        obtain ⟨-, q1, q2, q3⟩ := (h.on Y5).cells HX.out
        go_wp2_with fail
        go_loopw [7, 9] (fun s i wr => s = .slice A5 (m + 1) c5 ∧ i = .int .i64 0 ∧ wr = w5) (fun _ i _ => 0)
        case atStart => exact ⟨rfl, rfl, rfl⟩
        case round =>
          obtain ⟨rfl, rfl, rfl⟩ := hrel
          go_wp2_with fail
          go_roundw
          case rel => exact ⟨k + 1, m + 1, A5, c5, _, by omega, by go_num, rfl, HLL.out, by omega, by omega, Y5, X5, HO5.out, HNX.out⟩
          case measure => simp [intOf] <;> omega
      · dsimp only at h0 h1 h2 h3 h4
        obtain ⟨d, rfl⟩ := Int.eq_ofNat_of_zero_le (show 0 ≤ xd by omega)
        obtain ⟨n, rfl⟩ := Int.eq_ofNat_of_zero_le (show 0 ≤ xn by omega)
        have hev : ext win ⟨(d : Nat), (n : Nat), xl⟩ = copyN d n win := by unfold ext; dsimp only; rw [if_neg (by omega)]; rfl
        obtain rfl : tl = n := by rw [HTL.out]; unfold tlen; dsimp only; rw [if_neg (by omega)]; rfl
        rw [hev] at HNX
        have hd0 : ((d : Int) == 0) = false := by rw [beq_eq_false_iff_ne]; omega
        clear hev h0
        go_wp2_with fail
        clear q1 q2 q3
        go_loopw [7, 9] (fun s i wr => ∃ j M : Nat, ∃ A' c', j ≤ tl ∧ i = .int .i64 j ∧ M = m + j ∧ s = .slice A' M c' ∧ Below w.heap.size w wr ∧ Two wr w.heap.size 25 (.int .i64 0) (.int .i64 0) ∧
            wr.ownsRow w.heap.size 5 1 (.slice A' M c') M (bcells (copyN d j win))) (fun _ i _ => tl - (intOf i).toNat)
        case atStart => exact ⟨0, m, A', c', Nat.zero_le _, rfl, rfl, rfl, Y4, X4, HO4.out⟩
        case round =>
          obtain ⟨j, M, A6, c6, hj, rfl, hM, rfl, Y6, X6, ho6⟩ := hrel
          have HO6 := Lib.hid ho6
          have HMM := Lib.hid hM
          have hM1 : m ≤ M := by omega
          have hM2 : M ≤ m + 1024 := by omega
          have Y6s := Y6.size
          clear ho6 hM Y4 X4 HO4
          obtain ⟨-, q1, q2, q3⟩ := (h.on Y6).cells HX.out
          by_cases hjn : j < tl
          · have hlen : (copyN d j win).length = M := by rw [copyN_length, HMM.out, ← HM.out]
            obtain ⟨b6, o6, rfl, hb6, hc6⟩ := (Rd.own HO6.out).2.2.2 (by omega)
            have hcell := hc6 (M - d) _ (bcells_get (copyN d j win) (M - d) (by omega))
            obtain ⟨v, hv⟩ : ∃ v, v = (copyN d j win).getD (M - d) 0 := ⟨_, rfl⟩
            rw [← hv] at hcell
            have HBC := Lib.hid (show bcells (copyN d (j + 1) win) = bcells (copyN d j win) ++ [.int .u8 (v : Nat)] by rw [copyN_snoc, hlen, ← hv, bcells_append]; rfl)
            clear hc6 hv hlen
            have j1 : (0 : Int) ≤ (M : Int) - (d : Int) := by omega
            have j2 : (M : Int) - (d : Int) < (M : Int) := by omega
            have j3 : ((M : Int) - (d : Int)).toNat = M - d := by omega
            go_wp2_with (at_builtin; refine wpList_app1 _ rfl _ _ _ rfl w.heap.size 5 i0 _ 1 Try.underlying22 hi hz0 hz1 hz2 rfl _ _ _ rfl HO6.out (.int .u8 (v : Nat)) rfl rfl ?g1 ?g2 Y6s ?_)
            case g1 => unfold maxLen; omega
            case g2 => omega
            intro A7 c7 w7 ho7 hg7
            have Y7 := below_grown Y6 HO6.out hg7 (Nat.le_refl _) Y6s
            have X7 := X6.grown hg7 (own_two_ne HO6.out X6 (by decide)).symm
            rw [← HBC.out] at ho7
            have HO7 := Lib.hid ho7
            clear ho7 hg7 X6 Y6 j1 j2 j3 q1 q2 q3
            go_wp2_with fail
            go_roundw
            case rel => exact ⟨j + 1, M + 1, A7, c7, by omega, by go_num, by rw [HMM.out]; omega, rfl, Y7, X7, HO7.out⟩
            case measure => simp [intOf] <;> omega
          · obtain rfl : j = tl := by omega
            go_wp2_with fail
            go_roundw
            case rel => exact ⟨k + 1, M, A6, c6, _, by omega, by go_num, rfl, by rw [copyN_length, HMM.out, ← HM.out], by omega, by have := HMM.out; omega, Y6, X6, HO6.out, HNX.out⟩
            case measure => simp [intOf] <;> omega
    · obtain rfl : k = xs.length := by omega
      have hRR : RR = (0, 0, win) := by rw [HR.out, List.drop_eq_nil_of_le (Nat.le_refl _)]; rfl
      have H1 := Lib.hid (show RR.1 = 0 by rw [hRR])
      have H2 := Lib.hid (show RR.2.1 = 0 by rw [hRR])
      have H3 := Lib.hid (show RR.2.2 = win by rw [hRR])
      obtain ⟨At, hcut, hrt⟩ := Rd.tail (A := A') (n := m) (c := c') 22 5 i0 Try.underlying22 hi hz1 (Reads.cap (Rd.own HO.out)) n2 hm1
      obtain ⟨f0, f1, f2, f3, f4⟩ := XR.facts
      have HRT := Lib.hid hrt
      clear hrt hRR hz0 hz1 hz2 hi
      go_wp2
      have r0 := ((XR.set0 (.int .i64 0)).set1 (.int .i64 0)).c0
      have r1 := ((XR.set0 (.int .i64 0)).set1 (.int .i64 0)).c1
      refine bodyPost_ret (v := .tuple #[.slice At (m - n2) (c' - n2), .agg #[.int .i64 0, .int .i64 0]]) (by simp [results, Try.results17, go_sem, r0, r1]) rfl ⟨At, m - n2, c' - n2, by rw [H1.out, H2.out], ?_, (yr.setCell (Nat.le_refl _) _).setCell (Nat.le_refl _) _⟩
      rw [if_pos H1.out, H3.out]
      have hne := own_two_ne HO.out XR (by decide)
      have hown := own_far_any (own_far_any HO.out (p := ⟨w.heap.size, 0, none⟩) hne (.int .i64 0)) (p := ⟨w.heap.size, 1, none⟩) hne (.int .i64 0)
      have := HRT.out _ _ (Rd.own hown)
      rw [show bcells (win.drop n2) = (bcells win).drop n2 by simp [bcells, List.map_drop]]
      exact this
end PB
end Go.Proofs.Ytlhglomhfbbinaa
