/-
  lz.cost; the reference's TokenOk; lz.check and the reference's TokensFault; the comparison of two lists of tokens.
-/
import Derived.Test.YtnahmiglogddaaaLzTok
import Derived.Test.YtnahmiglogddaaaBitsEx
namespace Go.Proofs.Ytnahmiglogddaaa
open Go.RowKit
attribute [local go_sem ↓] Go.wp_at_zero Go.wp_at_succ
set_option linter.unusedVariables false
set_option linter.unusedSimpArgs false
namespace PB
set_option maxHeartbeats 800000 in
/-- lz.cost of a literal. -/
theorem lzcost_lit (lit : Int) (w : World) :
    Calls Try.prog 31 #[.agg #[.int .i64 0, .int .i64 0, .int .u8 lit]] w fun e w' => e = .returned (.int .i64 9) ∧ Below w.heap.size w w' := by
  have X0 := Three.new w 54 (.int .i64 0) (.int .i64 0) (.int .u8 lit)
  have y0 : Below w.heap.size w (w.alloc (.cells #[.int .i64 0, .int .i64 0, .int .u8 lit] 54)) := (Below.refl _ _).alloc (Nat.le_refl _) _
  go_enter Try.func31, Try.ntmps31
  go_wp2_with fail
  refine (islit_any _ _ _ true (by simp) _).mono ?_
  rintro e w1 ⟨rfl, y1⟩
  have Y1 := y0.trans (y1.mono y0.size)
  go_wp2
  go_ret
  exact ⟨rfl, Y1⟩
set_option maxHeartbeats 800000 in
/-- lz.cost of a match. -/
theorem lzcost_match (d n : Nat) (lit di ni r : Int) (hdi : di = (d : Nat)) (hni : ni = (n : Nat)) (h1 : 1 ≤ d) (h2 : d ≤ 1000000) (h3 : 3 ≤ n) (h4 : n ≤ 1000000) (hr : r = (mcost gsz d n : Nat)) (w : World) :
    Calls Try.prog 31 #[.agg #[.int .i64 di, .int .i64 ni, .int .u8 lit]] w fun e w' => e = .returned (.int .i64 r) ∧ Below w.heap.size w w' := by
  subst hdi hni
  have X0 := Three.new w 54 (.int .i64 (d : Nat)) (.int .i64 (n : Nat)) (.int .u8 lit)
  have y0 : Below w.heap.size w (w.alloc (.cells #[.int .i64 (d : Nat), .int .i64 (n : Nat), .int .u8 lit] 54)) := (Below.refl _ _).alloc (Nat.le_refl _) _
  have b1 : gsz d ≤ 200 := by unfold gsz; have := bitLen_le64 d (by omega); omega
  have b2 : gsz (n - 2) ≤ 200 := by unfold gsz; have := bitLen_le64 (n - 2) (by omega); omega
  obtain ⟨G1, hG1⟩ : ∃ G, G = gsz d := ⟨_, rfl⟩
  obtain ⟨G2, hG2⟩ : ∃ G, G = gsz (n - 2) := ⟨_, rfl⟩
  have HR := Lib.hid (show r = 1 + (G1 : Int) + (G2 : Int) by rw [hr, hG1, hG2]; unfold mcost; omega)
  have C1 : ∀ W : World, Calls Try.prog 39 #[.int .i64 (d : Nat)] W fun e w' => e = .returned (.int .i64 (G1 : Nat)) ∧ w' = W := fun W => by rw [hG1]; exact gsize_pos d W h1 (by omega)
  have C2 : ∀ W : World, Calls Try.prog 39 #[.int .i64 ((n : Int) - 2)] W fun e w' => e = .returned (.int .i64 (G2 : Nat)) ∧ w' = W := fun W => by
    rw [hG2, show ((n : Int) - 2) = ((n - 2 : Nat) : Int) by omega]; exact gsize_pos (n - 2) W (by omega) (by omega)
  rw [← hG1] at b1
  rw [← hG2] at b2
  have HC1 := Lib.hid C1
  have HC2 := Lib.hid C2
  clear C1 C2 hG1 hG2 hr
  go_enter Try.func31, Try.ntmps31
  go_wp2_with fail
  refine (islit_any _ _ _ false (by simp; omega) _).mono ?_
  rintro e w1 ⟨rfl, y1⟩
  have X1 := X0.on y1
  have Y1 := y0.trans (y1.mono y0.size)
  have c0 := X1.c0
  have c1 := X1.c1
  go_wp2_with fail
  have u1 : IntKind.i64.wrap ((n : Int) - 2) = (n : Int) - 2 := IntWalk.i64_in _ (by omega)
  have u2 : IntKind.i64.wrap (1 + (G1 : Int)) = 1 + (G1 : Int) := IntWalk.i64_in _ (by omega)
  have u3 : IntKind.i64.wrap (1 + (G1 : Int) + (G2 : Int)) = 1 + (G1 : Int) + (G2 : Int) := IntWalk.i64_in _ (by omega)
  go_quiet ((first | (go_at_call 39; (with_reducible exact Calls.quiet_of_same (HC1.out _))) | (go_at_call 39; (with_reducible exact Calls.quiet_of_same (HC2.out _)))))
  clear u1 u2 u3
  go_wp2
  go_ret
  exact ⟨ret_int (by rw [HR.out]), belowN Y1 _⟩
/-- The cost of a token. -/
def tcost (t : Tok) : Nat := if t.d = 0 then 9 else mcost gsz t.d.toNat t.n.toNat
theorem tcost_le (t : Tok) (h : t.ok) : tcost t ≤ 400 := by
  unfold tcost
  split
  · omega
  · rename_i hd
    rcases h with h | ⟨_, h1, h2, h3, h4⟩
    · exact absurd h.1 hd
    · have a := bitLen_le64 t.d.toNat (by omega)
      have b := bitLen_le64 (t.n.toNat - 2) (by omega)
      unfold mcost gsz
      omega
theorem lzcost_any (t : Tok) (h : t.ok) (r : Int) (hr : r = (tcost t : Nat)) (w : World) :
    Calls Try.prog 31 #[.agg #[.int .i64 t.d, .int .i64 t.n, .int .u8 (t.lit : Nat)]] w fun e w' => e = .returned (.int .i64 r) ∧ Below w.heap.size w w' := by
  rcases h with ⟨h1, h2⟩ | ⟨h0, h1, h2, h3, h4⟩
  · obtain rfl : r = 9 := by rw [hr]; unfold tcost; rw [if_pos h1]; rfl
    rw [h1, h2]
    exact lzcost_lit _ w
  · exact lzcost_match t.d.toNat t.n.toNat _ _ _ r (by omega) (by omega) (by omega) (by omega) (by omega) (by omega) (by rw [hr]; unfold tcost; rw [if_neg (by omega)]) w
/-- The first q tokens are valid. -/
def AllTok (xs : List Tok) (q : Nat) : Prop := ∀ i (h : i < xs.length), i < q → xs[i].ok
/-- What lz.check says. -/
def TOut (xs : List Tok) (code idx : Int) : Prop :=
  (1024 < xs.length ∧ code = 2 ∧ idx = -1) ∨
  (xs.length ≤ 1024 ∧ ∃ q, ∃ h : q < xs.length, AllTok xs q ∧ ¬ xs[q].ok ∧ code = 6 ∧ idx = (q : Nat)) ∨
  (xs.length ≤ 1024 ∧ AllTok xs xs.length ∧ code = 0 ∧ idx = 0)
theorem tstop_ex (xs : List Tok) : ∃ q, q ≤ xs.length ∧ AllTok xs q ∧ ∀ h : q < xs.length, ¬ xs[q].ok := by
  by_cases h : ∃ i, ∃ h : i < xs.length, ¬ xs[i].ok
  · obtain ⟨i0, h0⟩ := h
    induction i0 using Nat.strongRecOn with
    | _ i0 ih =>
      by_cases h1 : ∃ i, i < i0 ∧ ∃ h : i < xs.length, ¬ xs[i].ok
      · obtain ⟨i, hi, hh⟩ := h1
        exact ih i hi hh
      · obtain ⟨h2, h3⟩ := h0
        refine ⟨i0, by omega, fun i hi hlt => ?_, fun _ => h3⟩
        by_cases h4 : xs[i].ok
        · exact h4
        · exact absurd ⟨i, hlt, hi, h4⟩ h1
  · refine ⟨xs.length, Nat.le_refl _, fun i hi _ => ?_, fun h => absurd h (by omega)⟩
    by_cases h4 : xs[i].ok
    · exact h4
    · exact absurd ⟨i, hi, h4⟩ h
theorem tout_ex (xs : List Tok) : ∃ code idx, TOut xs code idx := by
  by_cases h1 : 1024 < xs.length
  · exact ⟨_, _, .inl ⟨h1, rfl, rfl⟩⟩
  obtain ⟨q, hq, ha, hb⟩ := tstop_ex xs
  by_cases h2 : q < xs.length
  · exact ⟨_, _, .inr (.inl ⟨by omega, q, h2, ha, hb h2, rfl, rfl⟩)⟩
  obtain rfl : q = xs.length := by omega
  exact ⟨_, _, .inr (.inr ⟨by omega, ha, rfl, rfl⟩)⟩
theorem TOut.pos {xs : List Tok} {code idx : Int} (h : TOut xs code idx) : 0 ≤ code ∧ code ≤ 6 := by
  rcases h with ⟨_, h, _⟩ | ⟨_, q, _, _, _, h, _⟩ | ⟨_, _, h, _⟩ <;> omega
theorem TOut.zero {xs : List Tok} {code idx : Int} (h : TOut xs code idx) (h0 : code = 0) : xs.length ≤ 1024 ∧ AllTok xs xs.length ∧ idx = 0 := by
  rcases h with ⟨_, h, _⟩ | ⟨_, q, _, _, _, h, _⟩ | ⟨h1, h2, h, h3⟩
  · omega
  · omega
  · exact ⟨h1, h2, h3⟩
set_option maxHeartbeats 1600000 in
/-- lz.check. -/
theorem lzcheck_any {A : Option Addr} {n c : Nat} {xs : List Tok} {code idx : Int} {w : World} (h : RdT w A n c xs) (hT : TOut xs code idx) :
    Calls Try.prog 32 #[.slice A n c] w fun e w' => e = .returned (.agg #[.int .i64 code, .int .i64 idx]) ∧ Below w.heap.size w w' := by
  have hn := h.1
  have hcap := h.2.1
  have hcm := h.2.2.1
  unfold maxLen at hcm
  obtain rfl := hn
  have X0 := Two.new w 25 (.int .i64 0) (.int .i64 0)
  have y0 : Below w.heap.size w (w.alloc (.cells #[.int .i64 0, .int .i64 0] 25)) := (Below.refl _ _).alloc (Nat.le_refl _) _
  have fin : ∀ (W : World) (cd ix : Int), Two W w.heap.size 25 (.int .i64 0) (.int .i64 0) → ((W.setCell ⟨w.heap.size, 0, none⟩ (.int .i64 cd)).setCell ⟨w.heap.size, 1, none⟩ (.int .i64 ix)).cell? ⟨w.heap.size, 0, none⟩ = some (.int .i64 cd) ∧ ((W.setCell ⟨w.heap.size, 0, none⟩ (.int .i64 cd)).setCell ⟨w.heap.size, 1, none⟩ (.int .i64 ix)).cell? ⟨w.heap.size, 1, none⟩ = some (.int .i64 ix) :=
    fun W cd ix hX => ⟨((hX.set0 _).set1 _).c0, ((hX.set0 _).set1 _).c1⟩
  have HF := Lib.hid fin
  clear fin
  by_cases hlong : 1024 < xs.length
  · obtain ⟨rfl, rfl⟩ : code = 2 ∧ idx = -1 := by
      rcases hT with ⟨_, h1, h2⟩ | ⟨h1, _⟩ | ⟨h1, _⟩
      · exact ⟨h1, h2⟩
      all_goals omega
    clear hT
    go_enter Try.func32, Try.ntmps32
    go_wp2_with fail
    refine (lzfault_any _ _ _).mono ?_
    rintro e w1 ⟨rfl, y1⟩
    have X1 := X0.on y1
    have Y1 := y0.trans (y1.mono y0.size)
    obtain ⟨f0, f1, f2, f3, f4⟩ := X1.facts
    go_wp2
    obtain ⟨r0, r1⟩ := HF.out _ 2 (-1) X1
    exact bodyPost_ret (v := .agg #[.int .i64 2, .int .i64 (-1)]) (by simp [results, Try.results32, go_sem, r0, r1]) rfl ⟨rfl, (Y1.setCell (Nat.le_refl _) _).setCell (Nat.le_refl _) _⟩
  have hT2 : ∃ q, q ≤ xs.length ∧ AllTok xs q ∧ ((∃ h : q < xs.length, ¬ xs[q].ok ∧ code = 6 ∧ idx = (q : Nat)) ∨ (q = xs.length ∧ code = 0 ∧ idx = 0)) := by
    rcases hT with ⟨h0, _⟩ | ⟨_, q, h0, h1, h2, h3, h4⟩ | ⟨_, h1, h2, h3⟩
    · omega
    · exact ⟨q, by omega, h1, .inl ⟨h0, h2, h3, h4⟩⟩
    · exact ⟨_, Nat.le_refl _, h1, .inr ⟨rfl, h2, h3⟩⟩
  obtain ⟨q, hq, hall, hend⟩ := hT2
  have HA := Lib.hid hall
  have HE := Lib.hid hend
  clear hT hall hend
  have hlen : xs.length ≤ 1024 := by omega
  have k1024 : decide ((1024 : Int) < ((xs.length : Nat) : Int)) = false := by simp; omega
  go_enter Try.func32, Try.ntmps32
  go_wp2_with fail
  go_loopw [10] (fun i wr => ∃ k : Nat, k ≤ q ∧ i = .int .i64 k ∧ Below w.heap.size w wr ∧ Two wr w.heap.size 25 (.int .i64 0) (.int .i64 0)) (fun i _ => xs.length - (intOf i).toNat)
  case atStart => exact ⟨0, Nat.zero_le _, rfl, y0, X0⟩
  case round =>
    obtain ⟨k, hk, rfl, yr, XR⟩ := hrel
    clear y0 X0
    by_cases hlt : k < xs.length
    · obtain ⟨b, off, rfl, hb, q1, q2, q3⟩ := (h.on yr).at k hlt
      obtain ⟨x, hx⟩ : ∃ x, x = xs[k] := ⟨_, rfl⟩
      rw [← hx] at q1 q2 q3
      have HX := Lib.hid hx
      clear hx
      by_cases hkq : k < q
      · have HOK := Lib.hid (show x.ok by rw [HX.out]; exact HA.out k hlt hkq)
        go_wp2_with fail
        refine (lzvalid_any x.d x.n (x.lit : Nat) true ⟨fun _ => HOK.out, fun _ => rfl⟩ _).mono ?_
        rintro e w1 ⟨rfl, y1⟩
        have Y1 := yr.trans (y1.mono yr.size)
        have X1 := XR.on y1
        go_wp2_with fail
        go_roundw
        case rel => exact ⟨k + 1, by omega, by go_num, Y1, X1⟩
        case measure => simp [intOf]; omega
      · obtain rfl : k = q := by omega
        rcases HE.out with ⟨_, hbad, rfl, rfl⟩ | ⟨h1, _⟩
        · have HB := Lib.hid (show ¬ x.ok by rw [HX.out]; exact hbad)
          clear hbad
          go_wp2_with fail
          refine (lzvalid_any x.d x.n (x.lit : Nat) false ⟨(fun h => by cases h), fun h => absurd h HB.out⟩ _).mono ?_
          rintro e w1 ⟨rfl, y1⟩
          have Y1 := yr.trans (y1.mono yr.size)
          have X1 := XR.on y1
          go_wp2_with fail
          refine (lzfault_any _ _ _).mono ?_
          rintro e w2 ⟨rfl, y2⟩
          have Y2 := Y1.trans (y2.mono Y1.size)
          have X2 := X1.on y2
          obtain ⟨f0, f1, f2, f3, f4⟩ := X2.facts
          go_wp2
          obtain ⟨r0, r1⟩ := HF.out _ 6 (k : Nat) X2
          exact bodyPost_ret (v := .agg #[.int .i64 6, .int .i64 (k : Nat)]) (by simp [results, Try.results32, go_sem, r0, r1]) rfl ⟨rfl, (Y2.setCell (Nat.le_refl _) _).setCell (Nat.le_refl _) _⟩
        · omega
    · obtain rfl : k = xs.length := by omega
      rcases HE.out with ⟨h1, _⟩ | ⟨_, rfl, rfl⟩
      · omega
      · obtain ⟨f0, f1, f2, f3, f4⟩ := XR.facts
        go_wp2
        obtain ⟨r0, r1⟩ := HF.out _ 0 0 XR
        exact bodyPost_ret (v := .agg #[.int .i64 0, .int .i64 0]) (by simp [results, Try.results32, go_sem, r0, r1]) rfl ⟨rfl, (yr.setCell (Nat.le_refl _) _).setCell (Nat.le_refl _) _⟩
end PB
end Go.Proofs.Ytnahmiglogddaaa
