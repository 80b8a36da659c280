/-
  arith.encode: a bit with a valid state.
-/
import Derived.Test.YtnnpkajmheglgaaArText
import Derived.Test.YtnnpkajmheglgaaRankMem
import Derived.Deep.Cut
namespace Go.Proofs.Ytnnpkajmheglgaa
open Go.RowKit
attribute [local go_sem ↓] Go.wp_at_zero Go.wp_at_succ
set_option linter.unusedVariables false
set_option linter.unusedSimpArgs false
namespace PB
theorem certain_int {b q : Nat} (bi qi : Int) (hbi : bi = (b : Nat)) (hqi : qi = (q : Nat)) (hb : b ≤ 1) (hq : q ≤ 1000000) (w : World) :
    Calls Try.prog 60 #[.int .i64 bi, .int .i64 qi] w fun e w' => e = .returned (.string (bt (crt b q))) ∧ Below w.heap.size w w' := by
  subst hbi hqi
  exact certain_any hb hq w
theorem double_int {lo hi : Int} {k : Nat} (h : Rng lo hi) (ht : twc lo hi = some k) (l2 u2 o2 : Int) (hl : l2 = 2 * (lo - 16384 * k)) (hu : u2 = 2 * (hi - 16384 * k) + 1) (ho : o2 = 16384 * k) (w : World) :
    Calls Try.prog 59 #[.int .i64 lo, .int .i64 hi] w fun e w' => e = .returned (.tuple #[.int .i64 l2, .int .i64 u2, .int .i64 o2, .bool true]) ∧ w = w' := by
  subst hl hu ho
  exact double_some h ht w
theorem fuel_pos {l u : Int} {f : Nat} (h : Rng l u) (hf : 65536 < (u - l + 1) * 2 ^ f) : ∃ g, f = g + 1 := by
  obtain ⟨h1, h2, h3⟩ := h
  cases f with
  | zero => exfalso; rw [Int.pow_zero] at hf; omega
  | succ g => exact ⟨g, rfl⟩
theorem fuel_next {l u : Int} {k f : Nat} (hf : 65536 < (u - l + 1) * 2 ^ (f + 1)) : 65536 < (2 * (u - 16384 * (k : Int)) + 1 - 2 * (l - 16384 * (k : Int)) + 1) * (2 : Int) ^ f := by
  have e : 2 * (u - 16384 * (k : Int)) + 1 - 2 * (l - 16384 * (k : Int)) + 1 = (u - l + 1) * 2 := by omega
  rw [e, Int.mul_assoc, Int.mul_comm 2]
  exact hf
set_option maxRecDepth 100000 in
set_option maxHeartbeats 3200000 in
theorem encode_any {lo hi p : Int} {b q : Nat} (h : Wid lo hi) (h1 : 1 ≤ p) (h2 : p ≤ 4095) (hb : b ≤ 1) (hq : q ≤ 200000) (LO HI : Int) (S : List Nat) (Q : Nat) (hLO : LO = (stp lo hi b p).1) (hHI : HI = (stp lo hi b p).2.1) (hS : S = (sentf (stp lo hi b p).2.2 q).1) (hQ : Q = (sentf (stp lo hi b p).2.2 q).2) (w : World) :
    Calls Try.prog 39 #[.agg #[.int .i64 lo, .int .i64 hi, .int .i64 (q : Nat)], .int .i64 (b : Nat), .int .i64 p] w fun e w' => e = .returned (.tuple #[.agg #[.int .i64 LO, .int .i64 HI, .int .i64 (Q : Nat)], .string (bt S)]) ∧ Below w.heap.size w w' := by
  have hr0 := part_rng b h h1 h2
  obtain ⟨st1, st2, st3, st4⟩ := stp_facts b h h1 h2
  obtain ⟨l2, hl2⟩ : ∃ l2, l2 = (partOf lo hi b p).1 := ⟨_, rfl⟩
  obtain ⟨u2, hu2⟩ : ∃ u2, u2 = (partOf lo hi b p).2 := ⟨_, rfl⟩
  have hD0 : dbl 20 l2 u2 = (LO, HI, (stp lo hi b p).2.2) := by rw [hl2, hu2, hLO, hHI]; rfl
  obtain ⟨R, hR⟩ : ∃ R, R = (stp lo hi b p).2.2 := ⟨_, rfl⟩
  rw [← hR] at hD0 st2 st3 hS hQ
  have HS := Lib.hid hS
  have HQ := Lib.hid hQ
  have HD0 := Lib.hid hD0
  have HR0 := Lib.hid (show Rng l2 u2 by rw [hl2, hu2]; exact hr0)
  have HF0 := Lib.hid (show 65536 < (u2 - l2 + 1) * (2 : Int) ^ 20 by
    obtain ⟨r1, r2, r3⟩ := hr0
    have e : (2 : Int) ^ 20 = 1048576 := by decide
    rw [e, hl2, hu2]; omega)
  have HPA := Lib.hid (fun (W : World) => part_any hb h h1 h2 l2 u2 hl2 hu2 W)
  have HRL := Lib.hid st2
  clear hl2 hu2 hD0 hR hS hQ hLO hHI st1 st2 st3 st4 hr0
  have C0 := (Three.new w 50 (.int .i64 lo) (.int .i64 hi) (.int .i64 (q : Nat))).alloc (.cells #[.int .i64 0, .int .i64 0, .int .i64 0] 50)
  have X0 := Three.new1 w (.cells #[.int .i64 lo, .int .i64 hi, .int .i64 (q : Nat)] 50) 50 (.int .i64 0) (.int .i64 0) (.int .i64 0)
  have y0 : Below w.heap.size w ((w.alloc (.cells #[.int .i64 lo, .int .i64 hi, .int .i64 (q : Nat)] 50)).alloc (.cells #[.int .i64 0, .int .i64 0, .int .i64 0] 50)) := ((Below.refl _ _).alloc (Nat.le_refl _) _).alloc (by simp) _
  have c0 := C0.c0
  have c1 := C0.c1
  have c2 := C0.c2
  have g0 := C0.f0
  have g1 := C0.f1
  have g2 := C0.f2
  go_enter Try.func39, Try.ntmps39
  go_wp2_with fail
  refine (HPA.out _).mono ?_
  rintro e w9 ⟨rfl, rfl⟩
  go_upto_region 2 with (fail)
  have C1 := (Three.new w 50 (.int .i64 l2) (.int .i64 u2) (.int .i64 (q : Nat))).alloc (.cells #[.int .i64 0, .int .i64 0, .int .i64 0] 50)
  have X1 := Three.new1 w (.cells #[.int .i64 l2, .int .i64 u2, .int .i64 (q : Nat)] 50) 50 (.int .i64 0) (.int .i64 0) (.int .i64 0)
  have Y1 : Below w.heap.size w ((w.alloc (.cells #[.int .i64 l2, .int .i64 u2, .int .i64 (q : Nat)] 50)).alloc (.cells #[.int .i64 0, .int .i64 0, .int .i64 0] 50)) := ((Below.refl _ _).alloc (Nat.le_refl _) _).alloc (by simp) _
  generalize ((w.alloc (.cells #[.int .i64 l2, .int .i64 u2, .int .i64 (q : Nat)] 50)).alloc (.cells #[.int .i64 0, .int .i64 0, .int .i64 0] 50)) = wa at C1 X1 Y1 ⊢
  clear C0 X0 y0 c0 c1 c2 g0 g1 g2
  go_wp2_with fail
  go_loopw [8, 9, 10, 11, 12] (fun t _ _ _ _ wr => ∃ (l u : Int) (q' f : Nat) (rest out : List Nat), Rng l u ∧ dbl f l u = (LO, HI, rest) ∧ 65536 < (u - l + 1) * (2 : Int) ^ f ∧ out ++ (sentf rest q').1 = S ∧ (sentf rest q').2 = Q ∧ out.length + q' + rest.length ≤ q + 20 ∧ t = .string (bt out) ∧
      Three wr w.heap.size 50 (.int .i64 l) (.int .i64 u) (.int .i64 (q' : Nat)) ∧ Three wr (w.heap.size + 1) 50 (.int .i64 0) (.int .i64 0) (.int .i64 0) ∧ Below w.heap.size w wr) (fun _ _ _ _ _ wr => (65536 - (intOf ((wr.cell? ⟨w.heap.size, 1, none⟩).getD undef) - intOf ((wr.cell? ⟨w.heap.size, 0, none⟩).getD undef))).toNat)
  case atStart =>
    refine ⟨l2, u2, q, 20, R, [], HR0.out, HD0.out, HF0.out, HS.out.symm, HQ.out.symm, by have := HRL.out; simp; omega, rfl, C1, X1, Y1⟩
  case round =>
    obtain ⟨l, u, q', f, rest, out, hrg, hd, hf, hs, hq2, hlen, rfl, C, X, yr⟩ := hrel
    clear C1 X1 Y1
    have HD := Lib.hid hd
    have HF := Lib.hid hf
    have HS1 := Lib.hid hs
    have HQ1 := Lib.hid hq2
    have HRG := Lib.hid hrg
    obtain ⟨rg1, rg2, rg3⟩ := hrg
    clear hd hf hs hq2
    have c0 := C.c0
    have c1 := C.c1
    have c2 := C.c2
    have g0 := C.f0
    have g1 := C.f1
    have g2 := C.f2
    rcases twc_cases HRG.out with ⟨hn, hW⟩ | ⟨k, hk, hk2, hR'⟩
    · have HN := Lib.hid hn
      have e1 := HD.out
      rw [dbl_none hn] at e1
      injection e1 with e1 e2
      injection e2 with e2 e3
      subst e1 e2 e3
      have HB := Lib.hid (show out = S by have := HS1.out; simpa [sentf] using this)
      have HQ3 := Lib.hid (show q' = Q from HQ1.out)
      clear hn hW
      have x0 := X.f0
      have x1 := X.f1
      have x2 := X.f2
      have a0 := X.c0
      have a1 := X.c1
      have a2 := X.c2
      go_wp2_with fail
      refine (double_none HRG.out HN.out _).mono ?_
      rintro e w9 ⟨rfl, rfl⟩
      have r0 := (((X.set0 (.int .i64 l)).set1 (.int .i64 u)).set2 (.int .i64 (q' : Nat))).c0
      have r1 := (((X.set0 (.int .i64 l)).set1 (.int .i64 u)).set2 (.int .i64 (q' : Nat))).c1
      have r2 := (((X.set0 (.int .i64 l)).set1 (.int .i64 u)).set2 (.int .i64 (q' : Nat))).c2
      have R0 := Lib.hid r0
      have R1 := Lib.hid r1
      have R2 := Lib.hid r2
      clear r0 r1 r2
      go_wp2
      have r0 := R0.out
      have r1 := R1.out
      have r2 := R2.out
      exact bodyPost_ret (v := .tuple #[.agg #[.int .i64 l, .int .i64 u, .int .i64 (q' : Nat)], .string (bt out)]) (by simp [results, Try.results39, go_sem, r0, r1, r2]) rfl ⟨by rw [HB.out, HQ3.out], ((yr.setCell (p := ⟨w.heap.size + 1, 0, none⟩) (by simp) _).setCell (p := ⟨w.heap.size + 1, 1, none⟩) (by simp) _).setCell (p := ⟨w.heap.size + 1, 2, none⟩) (by simp) _⟩
    · obtain ⟨g, rfl⟩ := fuel_pos HRG.out HF.out
      have hd1 := HD.out
      rw [dbl_some hk] at hd1
      injection hd1 with e1 e2
      injection e2 with e2 e3
      obtain ⟨l', hl'⟩ : ∃ l', l' = 2 * (l - 16384 * (k : Int)) := ⟨_, rfl⟩
      obtain ⟨u', hu'⟩ : ∃ u', u' = 2 * (u - 16384 * (k : Int)) + 1 := ⟨_, rfl⟩
      rw [← hl', ← hu'] at e1 e2 e3 hR'
      obtain ⟨rest', hrest⟩ : ∃ r, r = (dbl g l' u').2.2 := ⟨_, rfl⟩
      have HD2 := Lib.hid (show dbl g l' u' = (LO, HI, rest') by rw [← e1, ← e2, hrest])
      rw [← hrest] at e3
      subst e3
      have HF2 := Lib.hid (show 65536 < (u' - l' + 1) * (2 : Int) ^ g by have := fuel_next (k := k) HF.out; rwa [← hl', ← hu'] at this)
      have HL2 := Lib.hid hR'
      have HK := Lib.hid hk
      have HLEN := Lib.hid hlen
      have hqb : q' ≤ 300000 := by omega
      have MC0 := Lib.hid c0
      have MC1 := Lib.hid c1
      have hmm : u' - l' = 2 * (u - l) + 1 := by rw [hl', hu']; omega
      obtain ⟨n1, n2, n3⟩ := hR'
      have HDB := Lib.hid (fun (o2 : Int) (ho : o2 = 16384 * (k : Int)) (W : World) => double_int HRG.out HK.out l' u' o2 hl' hu' ho W)
      clear hk e1 e2 hrest hl' hu' hlen
      go_wp2_with fail
      rcases (by omega : k = 1 ∨ k = 0 ∨ k = 2) with rfl | rfl | rfl
      · refine (HDB.out 16384 (by decide) _).mono ?_
        rintro e w9 ⟨rfl, rfl⟩
        go_upto_region 10 with (fail)
        have C2 : Three (wr.setCell ⟨w.heap.size, 2, none⟩ (.int .i64 ((q' : Int) + 1))) w.heap.size 50 (.int .i64 l) (.int .i64 u) (.int .i64 ((q' + 1 : Nat) : Int)) := by have := C.set2 (.int .i64 ((q' : Int) + 1)); rwa [show (q' : Int) + 1 = ((q' + 1 : Nat) : Int) by omega] at this ⊢
        have X2 := X.far (p := ⟨w.heap.size, 2, none⟩) (by show w.heap.size + 1 ≠ w.heap.size; omega) (.int .i64 ((q' : Int) + 1))
        have Y2 := yr.setCell (p := ⟨w.heap.size, 2, none⟩) (Nat.le_refl _) (.int .i64 ((q' : Int) + 1))
        generalize (wr.setCell ⟨w.heap.size, 2, none⟩ (.int .i64 ((q' : Int) + 1))) = wc at C2 X2 Y2 ⊢
        clear c0 c1 c2 g0 g1 g2 C X yr
        have c0 := C2.c0
        have c1 := C2.c1
        have g0 := C2.f0
        have g1 := C2.f1
        go_wp2_with fail
        have C3 := (C2.set0 (.int .i64 l')).set1 (.int .i64 u')
        have X3 := (X2.far (p := ⟨w.heap.size, 0, none⟩) (by show w.heap.size + 1 ≠ w.heap.size; omega) (.int .i64 l')).far (p := ⟨w.heap.size, 1, none⟩) (by show w.heap.size + 1 ≠ w.heap.size; omega) (.int .i64 u')
        have Y3 := (Y2.setCell (p := ⟨w.heap.size, 0, none⟩) (Nat.le_refl _) (.int .i64 l')).setCell (p := ⟨w.heap.size, 1, none⟩) (Nat.le_refl _) (.int .i64 u')
        have m0 := C3.c0
        have m1 := C3.c1
        go_roundw
        case rel => exact ⟨l', u', q' + 1, g, rest', out, HL2.out, HD2.out, HF2.out, by have := HS1.out; rwa [sentf_one] at this, by have := HQ1.out; rwa [sentf_one] at this, by have := HLEN.out; simp only [List.length_cons] at this; omega, rfl, C3, X3, Y3⟩
        case measure => simp [m0, m1, MC0.out, MC1.out, intOf] <;> omega
      · refine (HDB.out 0 (by decide) _).mono ?_
        rintro e w9 ⟨rfl, rfl⟩
        have hns : ¬ (9223372036854775807 < (bt out).size + (bt (crt 0 q')).size) := by rw [bt_size, bt_size]; have := HLEN.out; simp only [List.length_cons, crt, List.length_replicate] at this ⊢; omega
        go_wp2_with fail
        refine (certain_int (b := 0) (q := q') _ _ rfl rfl (by decide) (by have := HLEN.out; omega) _).mono ?_
        rintro e w5 ⟨rfl, y5⟩
        have C := C.on y5
        have X := X.on y5
        have yr := yr.trans (y5.mono yr.size)
        have c0 := C.c0
        have c1 := C.c1
        have c2 := C.c2
        have g0 := C.f0
        have g1 := C.f1
        have g2 := C.f2
        go_upto_region 10 with (fail)
        have C2 : Three (w5.setCell ⟨w.heap.size, 2, none⟩ (.int .i64 0)) w.heap.size 50 (.int .i64 l) (.int .i64 u) (.int .i64 ((0 : Nat) : Int)) := C.set2 (.int .i64 0)
        have X2 := X.far (p := ⟨w.heap.size, 2, none⟩) (by show w.heap.size + 1 ≠ w.heap.size; omega) (.int .i64 0)
        have Y2 := yr.setCell (p := ⟨w.heap.size, 2, none⟩) (Nat.le_refl _) (.int .i64 0)
        generalize (w5.setCell ⟨w.heap.size, 2, none⟩ (.int .i64 0)) = wc at C2 X2 Y2 ⊢
        clear c0 c1 c2 g0 g1 g2 C X yr
        have c0 := C2.c0
        have c1 := C2.c1
        have g0 := C2.f0
        have g1 := C2.f1
        go_wp2_with fail
        have C3 := (C2.set0 (.int .i64 l')).set1 (.int .i64 u')
        have X3 := (X2.far (p := ⟨w.heap.size, 0, none⟩) (by show w.heap.size + 1 ≠ w.heap.size; omega) (.int .i64 l')).far (p := ⟨w.heap.size, 1, none⟩) (by show w.heap.size + 1 ≠ w.heap.size; omega) (.int .i64 u')
        have Y3 := (Y2.setCell (p := ⟨w.heap.size, 0, none⟩) (Nat.le_refl _) (.int .i64 l')).setCell (p := ⟨w.heap.size, 1, none⟩) (Nat.le_refl _) (.int .i64 u')
        have m0 := C3.c0
        have m1 := C3.c1
        go_roundw
        case rel => exact ⟨l', u', 0, g, rest', (out ++ crt 0 q'), HL2.out, HD2.out, HF2.out, by have := HS1.out; rw [sentf_other (by decide)] at this; rw [List.append_assoc]; exact this, by have := HQ1.out; rwa [sentf_other (by decide)] at this, by have := HLEN.out; simp only [List.length_cons, List.length_append, crt, List.length_replicate] at this ⊢; omega, by rw [bt_append], C3, X3, Y3⟩
        case measure => simp [m0, m1, MC0.out, MC1.out, intOf] <;> omega
      · refine (HDB.out 32768 (by decide) _).mono ?_
        rintro e w9 ⟨rfl, rfl⟩
        have hns : ¬ (9223372036854775807 < (bt out).size + (bt (crt 1 q')).size) := by rw [bt_size, bt_size]; have := HLEN.out; simp only [List.length_cons, crt, List.length_replicate] at this ⊢; omega
        go_wp2_with fail
        refine (certain_int (b := 1) (q := q') _ _ rfl rfl (by decide) (by have := HLEN.out; omega) _).mono ?_
        rintro e w5 ⟨rfl, y5⟩
        have C := C.on y5
        have X := X.on y5
        have yr := yr.trans (y5.mono yr.size)
        have c0 := C.c0
        have c1 := C.c1
        have c2 := C.c2
        have g0 := C.f0
        have g1 := C.f1
        have g2 := C.f2
        go_upto_region 10 with (fail)
        have C2 : Three (w5.setCell ⟨w.heap.size, 2, none⟩ (.int .i64 0)) w.heap.size 50 (.int .i64 l) (.int .i64 u) (.int .i64 ((0 : Nat) : Int)) := C.set2 (.int .i64 0)
        have X2 := X.far (p := ⟨w.heap.size, 2, none⟩) (by show w.heap.size + 1 ≠ w.heap.size; omega) (.int .i64 0)
        have Y2 := yr.setCell (p := ⟨w.heap.size, 2, none⟩) (Nat.le_refl _) (.int .i64 0)
        generalize (w5.setCell ⟨w.heap.size, 2, none⟩ (.int .i64 0)) = wc at C2 X2 Y2 ⊢
        clear c0 c1 c2 g0 g1 g2 C X yr
        have c0 := C2.c0
        have c1 := C2.c1
        have g0 := C2.f0
        have g1 := C2.f1
        go_wp2_with fail
        have C3 := (C2.set0 (.int .i64 l')).set1 (.int .i64 u')
        have X3 := (X2.far (p := ⟨w.heap.size, 0, none⟩) (by show w.heap.size + 1 ≠ w.heap.size; omega) (.int .i64 l')).far (p := ⟨w.heap.size, 1, none⟩) (by show w.heap.size + 1 ≠ w.heap.size; omega) (.int .i64 u')
        have Y3 := (Y2.setCell (p := ⟨w.heap.size, 0, none⟩) (Nat.le_refl _) (.int .i64 l')).setCell (p := ⟨w.heap.size, 1, none⟩) (Nat.le_refl _) (.int .i64 u')
        have m0 := C3.c0
        have m1 := C3.c1
        go_roundw
        case rel => exact ⟨l', u', 0, g, rest', (out ++ crt 1 q'), HL2.out, HD2.out, HF2.out, by have := HS1.out; rw [sentf_other (by decide)] at this; rw [List.append_assoc]; exact this, by have := HQ1.out; rwa [sentf_other (by decide)] at this, by have := HLEN.out; simp only [List.length_cons, List.length_append, crt, List.length_replicate] at this ⊢; omega, by rw [bt_append], C3, X3, Y3⟩
        case measure => simp [m0, m1, MC0.out, MC1.out, intOf] <;> omega
end PB
end Go.Proofs.Ytnnpkajmheglgaa
