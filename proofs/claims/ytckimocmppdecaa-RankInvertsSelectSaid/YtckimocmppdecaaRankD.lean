/-
  The reference's functions on vectors: VectorOf, SameVector, VectorOk.
-/
import Derived.Test.YtckimocmppdecaaRows
import Derived.Test.YtckimocmppdecaaRankC
namespace Go.Proofs.Ytckimocmppdecaa
open Go.RowKit
attribute [local go_sem ↓] Go.wp_at_zero Go.wp_at_succ
set_option linter.unusedVariables false
set_option linter.unusedSimpArgs false
namespace PB
set_option maxHeartbeats 1600000 in
theorem vectorof_any {A : Option Addr} {n c : Nat} {l : List Nat} {w : World} (h : Rd w A n c (bcells (pack l))) (h01 : Is01 l) (hl : l.length ≤ 131072) (ns : Nat) (hns : ns = l.length / 64 + 1) :
    Calls Try.prog 15 #[.agg #[.slice A n c, .int .i64 (l.length : Nat)]] w fun e w' => ∃ A2 c2, e = .returned (.agg #[.slice A n c, .int .i64 (l.length : Nat), .slice A2 ns c2]) ∧
      Rd w' A2 ns c2 (ncells (sumsL l)) ∧ Below w.heap.size w w' := by
  obtain ⟨i0, hi, hz0, hz1, hz2⟩ := info_parts int_info
  have B0 := (Two.new w 24 (.slice A n c) (.int .i64 (l.length : Nat))).alloc (.cells #[.slice none 0 0, .int .i64 0, .slice none 0 0] 27)
  have V0 := Three.new1 w (.cells #[.slice A n c, .int .i64 (l.length : Nat)] 24) 27 (.slice none 0 0) (.int .i64 0) (.slice none 0 0)
  have y0 : Below w.heap.size w ((w.alloc (.cells #[.slice A n c, .int .i64 (l.length : Nat)] 24)).alloc (.cells #[.slice none 0 0, .int .i64 0, .slice none 0 0] 27)) := ((Below.refl _ _).alloc (Nat.le_refl _) _).alloc (by simp) _
  have R0 := (h.alloc (.cells #[.slice A n c, .int .i64 (l.length : Nat)] 24)).alloc (.cells #[.slice none 0 0, .int .i64 0, .slice none 0 0] 27)
  have H01 := Lib.hid h01
  have HNS := Lib.hid hns
  have hnb : ns ≤ 4000 := by omega
  have HBB := Lib.hid (fun W (hW : Rd W A n c (bcells (pack l))) => bits_any hW H01.out hl (l.length : Nat) rfl)
  have HT1 := Lib.hid (show ncells ((sumsL l).take 1) = [.int .i64 0] by
    rw [sumsL_take_succ l 0 (Nat.zero_le _)]; rfl)
  clear h01 hns
  go_enter Try.func15, Try.ntmps15
  go_wp2_with fail
  refine (HBB.out _ R0).mono ?_
  rintro e w1 ⟨A1, c1, rfl, o1, y1⟩
  have Y1 := y0.trans (y1.mono y0.size)
  have B1 := B0.on y1
  have V1 := V0.on y1
  have Y1s := Y1.size
  have ol := own_less o1 (show w.heap.size ≤ _ by simp; omega)
  have RL := Rd.own ol
  have os := World.ownsRow_lit (base := w.heap.size) (e := 3) (size := 1) w1 #[.int .i64 0] 1 Y1s (by simp [maxLen]) rfl
  have os1 : (w1.alloc (.cells #[.int .i64 0] 3)).ownsRow w.heap.size 3 1 (.slice (some ⟨w1.heap.size, 0, none⟩) 1 1) 1 (ncells ((sumsL l).take 1)) := by
    rw [HT1.out]; simpa using os
  have YL : Below w1.heap.size w1 (w1.alloc (.cells #[.int .i64 0] 3)) := (Below.refl _ _).alloc (Nat.le_refl _) _
  clear os B0 V0 R0 o1 y1
  go_wp2_with fail
  go_loopw [4, 5] (fun s i wr => ∃ j : Nat, 1 ≤ j ∧ j ≤ ns ∧ i = .int .i64 ((64 * j : Nat) : Int) ∧ Below w1.heap.size w1 wr ∧ ∃ A2 c2, s = .slice A2 j c2 ∧ wr.ownsRow w1.heap.size 3 1 (.slice A2 j c2) j (ncells ((sumsL l).take j))) (fun _ i _ => l.length + 64 - (intOf i).toNat)
  case atStart => exact ⟨1, Nat.le_refl _, by have := HNS.out; omega, rfl, YL, _, _, rfl, by
    have := World.ownsRow_lit (base := w1.heap.size) (e := 3) (size := 1) w1 #[.int .i64 0] 1 (Nat.le_refl _) (by simp [maxLen]) rfl
    rw [HT1.out]; simpa using this⟩
  case round =>
    obtain ⟨j, hj1, hj2, rfl, yr, A2, c2, rfl, ho⟩ := hrel
    clear os1 YL
    have ysz := yr.size
    have RLr := RL.on yr
    by_cases hlt : 64 * j ≤ l.length
    · have HS := Lib.hid (show ncells ((sumsL l).take (j + 1)) = ncells ((sumsL l).take j) ++ [.int .i64 ((ones (l.take (64 * j)) : Nat) : Int)] by
        rw [sumsL_take_succ l j (by omega), ncells_append]; rfl)
      obtain ⟨T, hT⟩ : ∃ T, T = ones (l.take (64 * j)) := ⟨_, rfl⟩
      rw [← hT] at HS
      have HON := Lib.hid (fun W (hW : Rd W A1 l.length c1 (ncells l)) (ii : Int) (hii : ii = ((64 * j : Nat) : Int)) => onesb_any hW H01.out hl ii (by omega) (by omega) T (by rw [hT, show ii.toNat = 64 * j by omega]))
      clear hT
      go_wp2_with fail
      refine (HON.out _ RLr _ (by simp)).mono ?_
      rintro e w9 ⟨rfl, rfl⟩
      go_wp2_with (at_builtin; refine wpList_app1 _ rfl _ _ _ rfl w1.heap.size 3 i0 _ 8 Try.underlying25 hi hz0 hz1 hz2 rfl _ _ _ rfl ho (.int .i64 (T : Nat)) rfl rfl ?c1 ?c2 ?c3 ?_)
      case c1 => unfold maxLen; omega
      case c2 => omega
      case c3 => exact ysz
      intro A4 c4 w4 ho4 hg4
      have Y4 := below_grown yr ho hg4 (Nat.le_refl _) ysz
      rw [← HS.out] at ho4
      have HO4 := Lib.hid ho4
      clear ho4
      go_wp2
      go_roundw
      case rel => exact ⟨j + 1, by omega, by have := HNS.out; omega, congrArg (Value.int .i64) (by omega), Y4, A4, c4, rfl, HO4.out⟩
      case measure => simp [intOf]; omega
    · have hjn : j = ns := by have := HNS.out; omega
      subst hjn
      have e : (sumsL l).take j = sumsL l := List.take_of_length_le (by rw [sumsL_length, ← HNS.out]; exact Nat.le_refl _)
      rw [e] at ho
      clear e
      have Br := B1.on yr
      have Vr := V1.on yr
      have Yr := Y1.trans (yr.mono Y1.size)
      have b0 := Br.c0
      have b1 := Br.c1
      have g0 := Vr.c0
      have g1 := Vr.c1
      have g2 := Vr.c2
      have g3 := Vr.f0
      have g4 := Vr.f1
      have g5 := Vr.f2
      go_wp2
      have hV := ((Vr.set0 (.slice A n c)).set1 (.int .i64 (l.length : Nat))).set2 (.slice A2 j c2)
      have r0 := hV.c0
      have r1 := hV.c1
      have r2 := hV.c2
      have ns1 := own_three_ne ho Vr (by decide)
      refine bodyPost_ret (v := .agg #[.slice A n c, .int .i64 (l.length : Nat), .slice A2 j c2]) (by simp [results, Try.results15, go_sem, r0, r1, r2]) rfl ⟨A2, c2, rfl, ?_, ((Yr.setCell (by dsimp only; omega) _).setCell (by dsimp only; omega) _).setCell (by dsimp only; omega) _⟩
      exact Rd.own (own_far_any (own_far_any (own_far_any ho ns1 _) ns1 _) ns1 _)
set_option maxHeartbeats 1600000 in
/-- SameVector of two vectors that read alike. -/
theorem samevec_any {A : Option Addr} {n c : Nat} {l : List Nat} {A1 : Option Addr} {n1 c1 : Nat} {zs : List Int} {A2 : Option Addr} {n2 c2 : Nat} {A3 : Option Addr} {n3 c3 : Nat} {w : World} (h : Rd w A n c (bcells (pack l))) (h1 : Rd w A1 n1 c1 (icells zs)) (h2 : Rd w A2 n2 c2 (bcells (pack l))) (h3 : Rd w A3 n3 c3 (icells zs)) (h01 : Is01 l) (ci ci2 : Int) (hci : ci = (l.length : Nat)) (hci2 : ci2 = (l.length : Nat)) :
    Calls Try.prog 14 #[.agg #[.slice A n c, .int .i64 ci, .slice A1 n1 c1], .agg #[.slice A2 n2 c2, .int .i64 ci2, .slice A3 n3 c3]] w fun e w' => e = .returned (.bool true) ∧ Below w.heap.size w w' := by
  have V0 := (Three.new w 27 (.slice A n c) (.int .i64 ci) (.slice A1 n1 c1)).alloc (.cells #[.slice A2 n2 c2, .int .i64 ci2, .slice A3 n3 c3] 27)
  have U0 := Three.new1 w (.cells #[.slice A n c, .int .i64 ci, .slice A1 n1 c1] 27) 27 (.slice A2 n2 c2) (.int .i64 ci2) (.slice A3 n3 c3)
  have y0 : Below w.heap.size w ((w.alloc (.cells #[.slice A n c, .int .i64 ci, .slice A1 n1 c1] 27)).alloc (.cells #[.slice A2 n2 c2, .int .i64 ci2, .slice A3 n3 c3] 27)) := ((Below.refl _ _).alloc (Nat.le_refl _) _).alloc (by simp) _
  have R0 := (h.alloc (.cells #[.slice A n c, .int .i64 ci, .slice A1 n1 c1] 27)).alloc (.cells #[.slice A2 n2 c2, .int .i64 ci2, .slice A3 n3 c3] 27)
  have R1 := (h1.alloc (.cells #[.slice A n c, .int .i64 ci, .slice A1 n1 c1] 27)).alloc (.cells #[.slice A2 n2 c2, .int .i64 ci2, .slice A3 n3 c3] 27)
  have R2 := (h2.alloc (.cells #[.slice A n c, .int .i64 ci, .slice A1 n1 c1] 27)).alloc (.cells #[.slice A2 n2 c2, .int .i64 ci2, .slice A3 n3 c3] 27)
  have R3 := (h3.alloc (.cells #[.slice A n c, .int .i64 ci, .slice A1 n1 c1] 27)).alloc (.cells #[.slice A2 n2 c2, .int .i64 ci2, .slice A3 n3 c3] 27)
  have H01 := Lib.hid h01
  have HC := Lib.hid hci
  have HC2 := Lib.hid hci2
  clear h01 hci hci2
  go_enter Try.func14, Try.ntmps14
  go_wp2_with fail
  refine (api_same R0 R2 H01.out H01.out true (by simp) _ _ HC.out HC2.out).mono ?_
  rintro e w1 ⟨rfl, y1⟩
  have Y1 := y0.trans (y1.mono y0.size)
  have V1 := V0.on y1
  have U1 := U0.on y1
  have a2 := V1.c2
  have b2 := U1.c2
  go_wp2_with fail
  refine (ints_any (R1.on y1) (R3.on y1) true (by simp)).mono ?_
  rintro e w2 ⟨rfl, y2⟩
  go_wp2
  go_ret
  exact ⟨rfl, Y1.trans (y2.mono Y1.size)⟩
theorem vec_field (x0 x1 x2 : Value) (W : World) : (Instr.field 27 (.agg #[x0, x1, x2]) 1).run Try.prog W = .ok x2 W := by kernel_rfl
set_option maxHeartbeats 1600000 in
theorem vectorok_list {A : Option Addr} {n c : Nat} {l : List Nat} {A2 : Option Addr} {n2 c2 : Nat} {zs : List Int} {w : World} (h : Rd w A n c (bcells (pack l))) (h2 : Rd w A2 n2 c2 (icells zs)) (h01 : Is01 l) (hl : l.length ≤ 131072) (r : Bool) (hr : r = decide (zs = isums l)) :
    Calls Try.prog 11 #[.agg #[.slice A n c, .int .i64 (l.length : Nat), .slice A2 n2 c2]] w fun e w' => e = .returned (.bool r) ∧ Below w.heap.size w w' := by
  obtain ⟨W, hW⟩ : ∃ W, W = w.alloc (.cells #[.slice A n c, .int .i64 (l.length : Nat), .slice A2 n2 c2] 27) := ⟨_, rfl⟩
  have V0 := Three.new w 27 (.slice A n c) (.int .i64 (l.length : Nat)) (.slice A2 n2 c2)
  have y0 : Below w.heap.size w (w.alloc (.cells #[.slice A n c, .int .i64 (l.length : Nat), .slice A2 n2 c2] 27)) := (Below.refl _ _).alloc (Nat.le_refl _) _
  have R0 := h.alloc (.cells #[.slice A n c, .int .i64 (l.length : Nat), .slice A2 n2 c2] 27)
  have S0 := h2.alloc (.cells #[.slice A n c, .int .i64 (l.length : Nat), .slice A2 n2 c2] 27)
  have H01 := Lib.hid h01
  have HOK := Lib.hid (Ok.of_list h01 hl)
  have HRR := Lib.hid hr
  obtain ⟨ns, hns⟩ : ∃ ns, ns = l.length / 64 + 1 := ⟨_, rfl⟩
  have HVO := Lib.hid (fun W (hW : Rd W A n c (bcells (pack l))) => vectorof_any hW H01.out hl ns hns)
  rw [isums_cells] at HVO
  have hfld := fun (x0 x1 x2 : Value) (W : World) => vec_field x0 x1 x2 W
  clear h01 hr hns
  go_enter Try.func11, Try.ntmps11
  go_wp2_with fail
  rw [← hW] at V0 y0 R0 S0
  rw [← hW]
  clear hW
  have b0 := V0.c0
  have b1 := V0.c1
  have b2 := V0.c2
  go_region_held3 (fun w' => w'.cell? ⟨w.heap.size, 0, none⟩ = some (.slice A n c) ∧ w'.cell? ⟨w.heap.size, 1, none⟩ = some (.int .i64 (l.length : Nat)) ∧ w'.cell? ⟨w.heap.size, 2, none⟩ = some (.slice A2 n2 c2)) (go_keep)
    (first
      | (go_at_call 13; refine (bitsok_any (Rd.drew R0) (pack_lt H01.out) (by omega) (by omega) true ⟨fun _ => HOK.out, fun _ => rfl⟩).mono ?_; rintro e w1 ⟨rfl, y1⟩; have V1 := Three.on (w := W.drew) V0 y1; have p0 := V1.c0; have p1 := V1.c1; have p2 := V1.c2)
      | (go_at_call 15; refine (HVO.out _ (Rd.on (w := W.drew) R0 y1)).mono ?_; rintro e w2 ⟨As, cs, rfl, rs, y2⟩; have V2 := V1.on y2; have q0 := V2.c0; have q1 := V2.c1; have q2 := V2.c2)
      | (go_at_call 34; refine (ints_any ((Rd.on (w := W.drew) S0 y1).on y2) rs r HRR.out).mono ?_; rintro e w3 ⟨rfl, y3⟩; have V3 := V2.on y3; have s0 := V3.c0; have s1 := V3.c1; have s2 := V3.c2))
  have Y1 := (belowD y0).trans (y1.mono (belowD y0).size)
  have Y2 := Y1.trans (y2.mono Y1.size)
  have Y3 := Y2.trans (y3.mono Y2.size)
  go_wp2
  go_ret
  exact ⟨rfl, Y3⟩
set_option maxHeartbeats 1600000 in
theorem vectorok_no {A : Option Addr} {n c : Nat} {d : List Nat} {cnt : Int} {v2 : Value} {w : World} (h : Rd w A n c (bcells d)) (hd : ∀ k, d.getD k 0 < 256) (hlo : -9223372036854775808 ≤ cnt) (hhi : cnt ≤ 9223372036854775807) (hno : ¬ Ok d cnt) :
    Calls Try.prog 11 #[.agg #[.slice A n c, .int .i64 cnt, v2]] w fun e w' => e = .returned (.bool false) ∧ Below w.heap.size w w' := by
  obtain ⟨W, hW⟩ : ∃ W, W = w.alloc (.cells #[.slice A n c, .int .i64 cnt, v2] 27) := ⟨_, rfl⟩
  have V0 := Three.new w 27 (.slice A n c) (.int .i64 cnt) v2
  have y0 : Below w.heap.size w (w.alloc (.cells #[.slice A n c, .int .i64 cnt, v2] 27)) := (Below.refl _ _).alloc (Nat.le_refl _) _
  have R0 := h.alloc (.cells #[.slice A n c, .int .i64 cnt, v2] 27)
  have HNO := Lib.hid hno
  have HD := Lib.hid hd
  clear hno hd
  go_enter Try.func11, Try.ntmps11
  go_wp2_with fail
  rw [← hW] at V0 y0 R0
  rw [← hW]
  clear hW
  have b0 := V0.c0
  have b1 := V0.c1
  have b2 := V0.c2
  first | go_region_with ((go_at_call 13; refine (bitsok_any (Rd.drew R0) HD.out hlo hhi false ⟨(fun h => by cases h), fun h => absurd h HNO.out⟩).mono ?_; rintro e w1 ⟨rfl, y1⟩; have V1 := Three.on (w := W.drew) V0 y1; have p0 := V1.c0; have p1 := V1.c1; have p2 := V1.c2)) | fail
  all_goals
    have Y1 := (belowD y0).trans (y1.mono (belowD y0).size)
    go_wp2
    go_ret
    exact ⟨rfl, Y1⟩
end PB
end Go.Proofs.Ytckimocmppdecaa
