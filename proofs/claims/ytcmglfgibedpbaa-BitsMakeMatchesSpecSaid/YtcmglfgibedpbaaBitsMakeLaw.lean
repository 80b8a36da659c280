/-
  Bit strings made of texts, and their validity and texts, are as specified: the walk of the statement BitsMakeMatchesSpec.
-/
import Derived.Test.YtcmglfgibedpbaaRows
import Derived.Test.YtcmglfgibedpbaaBitsApi
import Derived.Test.YtcmglfgibedpbaaBitsRef2
import Derived.Deep.RegionHeld3
import Derived.Deep.DrawnRows
namespace Go.Proofs.Ytcmglfgibedpbaa
open Go.RowKit
attribute [local go_sem ↓] Go.wp_at_zero Go.wp_at_succ
set_option linter.unusedVariables false
set_option linter.unusedSimpArgs false
namespace PB
/-- What bits.Make hands back: a list of bits and a fault. -/
def MOut (s : ByteArray) (X : List Nat) (code idx : Int) : Prop :=
  (131072 < s.size ∧ X = [] ∧ code = 3 ∧ idx = -1) ∨
  (s.size ≤ 131072 ∧ ∃ q : Nat, TOk s q ∧ ((∃ h : q < s.size, s[q].toNat ≠ 48 ∧ s[q].toNat ≠ 49) ∧ X = [] ∧ code = 6 ∧ idx = q ∨ (q = s.size ∧ X = tbits s s.size ∧ code = 0 ∧ idx = 0)))
theorem mout_ex (s : ByteArray) : ∃ X code idx, MOut s X code idx := by
  by_cases hs : 131072 < s.size
  · exact ⟨_, _, _, .inl ⟨hs, rfl, rfl, rfl⟩⟩
  by_cases h : ∃ i, ∃ h : i < s.size, s[i].toNat ≠ 48 ∧ s[i].toNat ≠ 49
  · obtain ⟨q, ⟨hq, hb⟩, hmin⟩ : ∃ q, (∃ h : q < s.size, s[q].toNat ≠ 48 ∧ s[q].toNat ≠ 49) ∧ ∀ i, i < q → ¬ ∃ h : i < s.size, s[i].toNat ≠ 48 ∧ s[i].toNat ≠ 49 := by
      obtain ⟨i0, h0⟩ := h
      induction i0 using Nat.strongRecOn with
      | _ i0 ih =>
        by_cases h1 : ∃ i, i < i0 ∧ ∃ h : i < s.size, s[i].toNat ≠ 48 ∧ s[i].toNat ≠ 49
        · obtain ⟨i, hi, hh⟩ := h1
          exact ih i hi hh
        · exact ⟨i0, h0, fun i hi hh => h1 ⟨i, hi, hh⟩⟩
    refine ⟨_, _, _, .inr ⟨by omega, q, fun i h1 h2 => ?_, .inl ⟨⟨hq, hb⟩, rfl, rfl, rfl⟩⟩⟩
    have := hmin i h2
    by_cases h3 : s[i].toNat = 48
    · exact .inl h3
    · right
      by_cases h4 : s[i].toNat = 49
      · exact h4
      · exact absurd ⟨h1, h3, h4⟩ this
  · refine ⟨_, _, _, .inr ⟨by omega, s.size, fun i h1 h2 => ?_, .inr ⟨rfl, rfl, rfl, rfl⟩⟩⟩
    by_cases h3 : s[i].toNat = 48
    · exact .inl h3
    · right
      by_cases h4 : s[i].toNat = 49
      · exact h4
      · exact absurd ⟨i, h1, h3, h4⟩ h
theorem mout_01 {s : ByteArray} {X : List Nat} {code idx : Int} (h : MOut s X code idx) : Is01 X := by
  rcases h with ⟨_, rfl, _⟩ | ⟨hs, q, ht, ⟨_, rfl, _⟩ | ⟨rfl, rfl, _⟩⟩
  · exact Is01.nil
  · exact Is01.nil
  · exact tbits_01 s _ ht (Nat.le_refl _)
theorem Rd.drewN {w : World} {A : Option Addr} {n c : Nat} {xs : List Value} (h : Rd w A n c xs) (q : Nat) : Rd (w.drewN q) A n c xs := h
theorem Two.drewN {w : World} {s : Nat} {t : TypeId} {v0 v1 : Value} (h : Two w s t v0 v1) (q : Nat) : Two (w.drewN q) s t v0 v1 := h
theorem belowD {B : Nat} {a w : World} (h : Below B a w) : Below B a w.drew := ⟨h.os, h.tape, h.output, h.size, h.block⟩
theorem api_make {s : ByteArray} {X : List Nat} {code idx : Int} (h : MOut s X code idx) (hm : s.size ≤ maxLen) (w : World) :
    Calls Try.prog 11 #[.string s] w fun e w' => ∃ A n c, e = .returned (.tuple #[.agg #[.slice A n c, .int .i64 X.length], .agg #[.int .i64 code, .int .i64 idx]]) ∧ Rd w' A n c (bcells (pack X)) ∧ Below w.heap.size w w' := by
  rcases h with ⟨hs, rfl, rfl, rfl⟩ | ⟨hs, q, ht, ⟨⟨hq, hb⟩, rfl, rfl, rfl⟩ | ⟨rfl, rfl, rfl, rfl⟩⟩
  · refine (make_long s w hs hm).mono ?_
    rintro e w' ⟨rfl, hb⟩
    exact ⟨none, 0, 0, rfl, Rd.none_ _, hb⟩
  · refine (make_upto s q w hs ht (by omega) (fun _ => hb)).mono ?_
    rintro e w' (⟨_, rfl, hb⟩ | ⟨h, _⟩)
    · exact ⟨none, 0, 0, rfl, Rd.none_ _, hb⟩
    · omega
  · refine (make_upto s s.size w hs ht (Nat.le_refl _) (fun h => absurd h (by omega))).mono ?_
    rintro e w' (⟨h, _⟩ | ⟨_, A, n, c, rfl, ho, hb⟩)
    · omega
    · exact ⟨A, n, c, rfl, Rd.own ho, hb⟩
set_option maxHeartbeats 3200000 in
theorem mk_no {A : Option Addr} {n c : Nat} {bs : List Nat} {cnt : Int} {s : ByteArray} {X : List Nat} {code idx : Int} (hM : MOut s X code idx) (hm : s.size ≤ maxLen) (hd : ∀ k, bs.getD k 0 < 256) (hlo : -9223372036854775808 ≤ cnt) (hhi : cnt ≤ 9223372036854775807) (hno : ¬ Ok bs cnt) (w : World) (h : Rd w A n c (bcells bs)) :
    Calls Try.prog 3 #[.string s, .agg #[.slice A n c, .int .i64 cnt]] w fun e w' => e = .returned (.bool true) ∧ Below w.heap.size w w' := by
  obtain ⟨i0, hi, hz0, hz1, hz2⟩ := info_parts int_info
  have HM := Lib.hid hM
  have HD := Lib.hid hd
  have HNO := Lib.hid hno
  have gX := mout_01 hM
  have GX := Lib.hid gX
  have hML := hm
  unfold maxLen at hML
  have HML := Lib.hid hm
  clear hM hd hno gX hm
  have R_0 := (h).alloc (.cells #[.slice A n c, .int .i64 cnt] 24)
  have B_0 := (Two.new w 24 (.slice A n c) (.int .i64 cnt))
  have Z0 := (Below.refl w.heap.size w).alloc (by simp) (.cells #[.slice A n c, .int .i64 cnt] 24)
  have B_0_c0 := B_0.c0
  have B_0_c1 := B_0.c1
  go_enter Try.func3, Try.ntmps3
  go_wp2_with fail
  refine (api_make HM.out HML.out _).mono ?_
  rintro e w1 ⟨Ax, nx, cx, rfl, Rx, y1⟩
  have R_1 := ((R_0.on y1).alloc (.cells #[.slice Ax nx cx, .int .i64 X.length] 24)).alloc (.cells #[.int .i64 code, .int .i64 idx] 26)
  have B_1 := ((B_0.on y1).alloc (.cells #[.slice Ax nx cx, .int .i64 X.length] 24)).alloc (.cells #[.int .i64 code, .int .i64 idx] 26)
  have RX_1 := ((Rx).alloc (.cells #[.slice Ax nx cx, .int .i64 X.length] 24)).alloc (.cells #[.int .i64 code, .int .i64 idx] 26)
  have X_1 := ((Two.new w1 24 (.slice Ax nx cx) (.int .i64 X.length))).alloc (.cells #[.int .i64 code, .int .i64 idx] 26)
  have F_1 := (Two.new1 w1 (.cells #[.slice Ax nx cx, .int .i64 X.length] 24) 26 (.int .i64 code) (.int .i64 idx))
  clear R_0 B_0 B_0_c0 B_0_c1
  have z1 := Z0.trans (y1.mono Z0.size)
  have Z1 := ((z1).alloc (by have := z1.size; omega) (.cells #[.slice Ax nx cx, .int .i64 X.length] 24)).alloc (by have := z1.size; simp; omega) (.cells #[.int .i64 code, .int .i64 idx] 26)
  have B_1_c0 := B_1.c0
  have B_1_c1 := B_1.c1
  have X_1_c0 := X_1.c0
  have X_1_c1 := X_1.c1
  have F_1_c0 := F_1.c0
  have F_1_c1 := F_1.c1
  go_wp2_with fail
  refine (text_form A n c bs cnt _ _ R_1 (Nat.le_refl _) HNO.out).mono ?_
  unfold flt
  rintro e w2 ⟨rfl, y2⟩
  have R_2 := (R_1.on y2).alloc (.cells #[.int .i64 6, .int .i64 (-1)] 26)
  have B_2 := (B_1.on y2).alloc (.cells #[.int .i64 6, .int .i64 (-1)] 26)
  have RX_2 := (RX_1.on y2).alloc (.cells #[.int .i64 6, .int .i64 (-1)] 26)
  have X_2 := (X_1.on y2).alloc (.cells #[.int .i64 6, .int .i64 (-1)] 26)
  have F_2 := (F_1.on y2).alloc (.cells #[.int .i64 6, .int .i64 (-1)] 26)
  have G_2 := (Two.new w2 26 (.int .i64 6) (.int .i64 (-1)))
  clear R_1 B_1 B_1_c0 B_1_c1 RX_1 X_1 X_1_c0 X_1_c1 F_1 F_1_c0 F_1_c1
  have z2 := Z1.trans (y2.mono Z1.size)
  have Z2 := (z2).alloc (by have := z2.size; omega) (.cells #[.int .i64 6, .int .i64 (-1)] 26)
  have B_2_c0 := B_2.c0
  have B_2_c1 := B_2.c1
  have X_2_c0 := X_2.c0
  have X_2_c1 := X_2.c1
  have F_2_c0 := F_2.c0
  have F_2_c1 := F_2.c1
  have G_2_c0 := G_2.c0
  have G_2_c1 := G_2.c1
  go_wp2_with fail
  refine (bitsok_any R_2 HD.out hlo hhi false ⟨(fun h => by cases h), fun h => absurd h HNO.out⟩).mono ?_
  rintro e w3 ⟨rfl, y3⟩
  have R_3 := R_2.on y3
  have B_3 := B_2.on y3
  have RX_3 := RX_2.on y3
  have X_3 := X_2.on y3
  have F_3 := F_2.on y3
  have G_3 := G_2.on y3
  clear R_2 B_2 B_2_c0 B_2_c1 RX_2 X_2 X_2_c0 X_2_c1 F_2 F_2_c0 F_2_c1 G_2 G_2_c0 G_2_c1
  have z3 := Z2.trans (y3.mono Z2.size)
  have Z3 := z3
  have B_3_c0 := B_3.c0
  have B_3_c1 := B_3.c1
  have X_3_c0 := X_3.c0
  have X_3_c1 := X_3.c1
  have F_3_c0 := F_3.c0
  have F_3_c1 := F_3.c1
  have G_3_c0 := G_3.c0
  have G_3_c1 := G_3.c1
  go_wp2_with fail
  refine (strings_true _).mono ?_
  rintro e w4 ⟨rfl, y4⟩
  have R_4 := R_3.on y4
  have B_4 := B_3.on y4
  have RX_4 := RX_3.on y4
  have X_4 := X_3.on y4
  have F_4 := F_3.on y4
  have G_4 := G_3.on y4
  clear R_3 B_3 B_3_c0 B_3_c1 RX_3 X_3 X_3_c0 X_3_c1 F_3 F_3_c0 F_3_c1 G_3 G_3_c0 G_3_c1
  have z4 := Z3.trans (y4.mono Z3.size)
  have Z4 := z4
  have B_4_c0 := B_4.c0
  have B_4_c1 := B_4.c1
  have X_4_c0 := X_4.c0
  have X_4_c1 := X_4.c1
  have F_4_c0 := F_4.c0
  have F_4_c1 := F_4.c1
  have G_4_c0 := G_4.c0
  have G_4_c1 := G_4.c1
  go_wp2_with fail
  refine (valid_no A n c bs cnt _ _ R_4 (Nat.le_refl _) HNO.out).mono ?_
  rintro e w5 ⟨rfl, y5⟩
  have R_5 := R_4.on y5
  have B_5 := B_4.on y5
  have RX_5 := RX_4.on y5
  have X_5 := X_4.on y5
  have F_5 := F_4.on y5
  have G_5 := G_4.on y5
  clear R_4 B_4 B_4_c0 B_4_c1 RX_4 X_4 X_4_c0 X_4_c1 F_4 F_4_c0 F_4_c1 G_4 G_4_c0 G_4_c1
  have z5 := Z4.trans (y5.mono Z4.size)
  have Z5 := z5
  have B_5_c0 := B_5.c0
  have B_5_c1 := B_5.c1
  have X_5_c0 := X_5.c0
  have X_5_c1 := X_5.c1
  have F_5_c0 := F_5.c0
  have F_5_c1 := F_5.c1
  have G_5_c0 := G_5.c0
  have G_5_c1 := G_5.c1
  go_wp2_with fail
  go_region_held3 (fun w' => w'.cell? ⟨w2.heap.size, 0, none⟩ = some (.int .i64 6) ∧ w'.cell? ⟨w2.heap.size, 1, none⟩ = some (.int .i64 (-1))) (go_keep) (first | (go_at_call 16; refine (refat_any _ _ _).mono ?_; rintro e w6 ⟨rfl, y6⟩; have G_6 := Two.on (w := w5.drew) G_5 y6; have F_6 := Two.on (w := w5.drew) F_5 y6; have X_6 := Two.on (w := w5.drew) X_5 y6; have RX_6 := Rd.on (w := w5.drew) RX_5 y6; have G_6_c0 := G_6.c0; have G_6_c1 := G_6.c1; have F_6_c0 := F_6.c0; have F_6_c1 := F_6.c1; have X_6_c0 := X_6.c0; have X_6_c1 := X_6.c1; have Z6 : Below w.heap.size w w6 := (belowD Z5).trans (y6.mono Z5.size)))
  clear G_6_c0 G_6_c1 G_6
  go_wp2_with fail
  · rcases HM.out with ⟨hs, rfl, rfl, rfl⟩ | ⟨hs, _⟩
    · go_region_held3 (fun w' => w'.cell? ⟨w1.heap.size, 0, none⟩ = some (.slice Ax nx cx) ∧ w'.cell? ⟨w1.heap.size, 1, none⟩ = some (.int .i64 0) ∧ w'.cell? ⟨w1.heap.size + 1, 0, none⟩ = some (.int .i64 3) ∧ w'.cell? ⟨w1.heap.size + 1, 1, none⟩ = some (.int .i64 (-1))) (go_keep) (first | (go_at_call 16; refine (refat_any _ _ _).mono ?_; rintro e w7 ⟨rfl, y7⟩; have F_7 := Two.on (w := w6.drew) F_6 y7; have X_7 := Two.on (w := w6.drew) X_6 y7; have RX_7 := Rd.on (w := w6.drew) RX_6 y7; have F_7_c0 := F_7.c0; have F_7_c1 := F_7.c1; have X_7_c0 := X_7.c0; have X_7_c1 := X_7.c1; have Z7 : Below w.heap.size w w7 := (belowD Z6).trans (y7.mono Z6.size)) | (go_at_call 17; refine (api_same (l := []) (l2 := []) RX_7 (Rd.none_ _) Is01.nil Is01.nil true (by decide) _ _ rfl rfl).mono ?_; rintro e w8 ⟨rfl, y8⟩; have F_8 := Two.on (w := w7) F_7 y8; have X_8 := Two.on (w := w7) X_7 y8; have F_8_c0 := F_8.c0; have F_8_c1 := F_8.c1; have X_8_c0 := X_8.c0; have X_8_c1 := X_8.c1; have Z8 : Below w.heap.size w w8 := Z7.trans (y8.mono Z7.size)))
      go_wp2
      go_ret
      exact ⟨rfl, Z8⟩
    · omega
  · rcases HM.out with ⟨hs, _⟩ | ⟨hs, q, hq, hcase⟩
    · omega
    have HQ := Lib.hid hq
    have HC := Lib.hid hcase
    have hqs : q ≤ s.size := by rcases hcase with ⟨⟨h1, _⟩, _⟩ | ⟨h1, _⟩ <;> omega
    clear hq hcase
    go_loopw [12, 13] (fun l i wr => ∃ k : Nat, k ≤ q ∧ i = .int .i64 k ∧ Below w6.heap.size w6 wr ∧ ∃ A1 c1, l = .slice A1 k c1 ∧ wr.ownsRow w6.heap.size 3 1 (.slice A1 k c1) k (ncells (tbits s k))) (fun _ i _ => s.size - (intOf i).toNat)
    case atStart => exact ⟨0, Nat.zero_le _, rfl, Below.refl _ _, none, 0, rfl, by simpa [ncells, tbits] using World.ownsRow_nil _ _ _ _⟩
    case round =>
      obtain ⟨k, hk, rfl, yr, A1, c1, rfl, ho⟩ := hrel
      have X_r := X_6.on yr
      have F_r := F_6.on yr
      have RX_r := RX_6.on yr
      have Zr := Z6.trans (yr.mono Z6.size)
      have X_r_c0 := X_r.c0
      have X_r_c1 := X_r.c1
      have F_r_c0 := F_r.c0
      have F_r_c1 := F_r.c1
      clear X_6 X_6_c0 X_6_c1 F_6 F_6_c0 F_6_c1 RX_6
      by_cases hlt : k < q
      · have hlen : k < s.size := by omega
        have ysz := yr.size
        have HS := Lib.hid (show ncells (tbits s (k + 1)) = ncells (tbits s k) ++ [.int .i64 ((s[k].toNat - 48 : Nat) : Int)] by rw [tbits_succ s k hlen, ncells_append]; rfl)
        rcases HQ.out k hlen hlt with hc | hc
        · rw [hc] at HS
          go_wp2_with (at_builtin; refine wpList_append_lies _ rfl _ _ _ rfl w6.heap.size 3 i0 _ 1 8 Try.underlying35 hi hz0 hz1 hz2 rfl (by omega) (.slice A1 k c1) k (ncells (tbits s k)) rfl (ho.alloc _) ⟨wr.heap.size, 0, none⟩ 1 1 [.int .i64 0] rfl rfl ?c1 ?c2 ?c3 ?c4 ?c5 ?c6 (wr.heap.size + 1) ?c7 ?_)
          case c1 => exact one_new _ _ rfl _ _
          case c2 => intro u hu; simp at hu; subst hu; rfl
          case c3 => decide
          case c4 => unfold maxLen; omega
          case c5 => omega
          case c6 => simp; omega
          case c7 => simp
          intro g cap w14 ho4 hg4 hat hlt4
          go_wp2
          go_roundw
          case rel =>
            refine ⟨k + 1, by omega, by go_num, (yr.alloc ysz _).grown hg4 (by simp; omega) (fun q hq => (ho.lt q hq).1), some ⟨g, 0, none⟩, cap, rfl, ?_⟩
            rw [HS.out]
            exact ho4
          case measure => simp [intOf]; omega
        · rw [hc] at HS
          go_wp2_with (at_builtin; refine wpList_append_lies _ rfl _ _ _ rfl w6.heap.size 3 i0 _ 1 8 Try.underlying35 hi hz0 hz1 hz2 rfl (by omega) (.slice A1 k c1) k (ncells (tbits s k)) rfl (ho.alloc _) ⟨wr.heap.size, 0, none⟩ 1 1 [.int .i64 1] rfl rfl ?c1 ?c2 ?c3 ?c4 ?c5 ?c6 (wr.heap.size + 1) ?c7 ?_)
          case c1 => exact one_new _ _ rfl _ _
          case c2 => intro u hu; simp at hu; subst hu; rfl
          case c3 => decide
          case c4 => unfold maxLen; omega
          case c5 => omega
          case c6 => simp; omega
          case c7 => simp
          intro g cap w14 ho4 hg4 hat hlt4
          go_wp2
          go_roundw
          case rel =>
            refine ⟨k + 1, by omega, by go_num, (yr.alloc ysz _).grown hg4 (by simp; omega) (fun q hq => (ho.lt q hq).1), some ⟨g, 0, none⟩, cap, rfl, ?_⟩
            rw [HS.out]
            exact ho4
          case measure => simp [intOf]; omega
      · obtain rfl : k = q := by omega
        rcases HC.out with ⟨⟨hend, hb⟩, rfl, rfl, rfl⟩ | ⟨hend, hXX, rfl, rfl⟩
        · have hc1 : ((s[k].toNat : Int) != 48) = true := by rw [bne_iff_ne]; omega
          have hc2 : ((s[k].toNat : Int) != 49) = true := by rw [bne_iff_ne]; omega
          clear hb
          go_wp2_with fail
          go_region_held3 (fun w' => w'.cell? ⟨w1.heap.size, 0, none⟩ = some (.slice Ax nx cx) ∧ w'.cell? ⟨w1.heap.size, 1, none⟩ = some (.int .i64 0) ∧ w'.cell? ⟨w1.heap.size + 1, 0, none⟩ = some (.int .i64 6) ∧ w'.cell? ⟨w1.heap.size + 1, 1, none⟩ = some (.int .i64 k)) (go_keep) (first | (go_at_call 16; refine (refat_any _ _ _).mono ?_; rintro e w7 ⟨rfl, y7⟩; have F_7 := Two.on (w := wr.drew) F_r y7; have X_7 := Two.on (w := wr.drew) X_r y7; have RX_7 := Rd.on (w := wr.drew) RX_r y7; have F_7_c0 := F_7.c0; have F_7_c1 := F_7.c1; have X_7_c0 := X_7.c0; have X_7_c1 := X_7.c1; have Z7 : Below w.heap.size w w7 := (belowD Zr).trans (y7.mono Zr.size)) | (go_at_call 17; refine (api_same (l := []) (l2 := []) RX_7 (Rd.none_ _) Is01.nil Is01.nil true (by decide) _ _ rfl rfl).mono ?_; rintro e w8 ⟨rfl, y8⟩; have F_8 := Two.on (w := w7) F_7 y8; have X_8 := Two.on (w := w7) X_7 y8; have F_8_c0 := F_8.c0; have F_8_c1 := F_8.c1; have X_8_c0 := X_8.c0; have X_8_c1 := X_8.c1; have Z8 : Below w.heap.size w w8 := Z7.trans (y8.mono Z7.size)))
          go_wp2
          go_ret
          exact ⟨rfl, Z8⟩
        · have hL := tbits_length s k (by omega)
          have HL := Lib.hid hL
          have HX := Lib.hid (show X = tbits s k by rw [hXX, hend])
          have H01x := Lib.hid (tbits_01 s k HQ.out (by omega))
          have hk6 : (tbits s k).length ≤ 1000000 := by omega
          have HK6 := Lib.hid hk6
          have RL := Rd.own ho
          have hci : (k : Int) = (((tbits s k).length : Nat) : Int) := by rw [hL]
          have HCI := Lib.hid hci
          have htr : true = decide (X = tbits s k) := by rw [HX.out]; simp
          have HTR := Lib.hid htr
          have HEND := Lib.hid hend
          have hge : s.size ≤ k := by omega
          clear hL hXX hk6 hci htr hend
          go_wp2_with fail
          go_region_held3 (fun w' => w'.cell? ⟨w1.heap.size, 0, none⟩ = some (.slice Ax nx cx) ∧ w'.cell? ⟨w1.heap.size, 1, none⟩ = some (.int .i64 (X.length : Nat)) ∧ w'.cell? ⟨w1.heap.size + 1, 0, none⟩ = some (.int .i64 0) ∧ w'.cell? ⟨w1.heap.size + 1, 1, none⟩ = some (.int .i64 0)) (go_keep) (first | (go_at_call 18; refine (packed_any (l := tbits s k) k HL.out.symm (Rd.drew RL) H01x.out HK6.out).mono ?_; rintro e w7 ⟨Ap, np, cp, rfl, RP_7, y7⟩; have F_7 := Two.on (w := wr.drew) F_r y7; have X_7 := Two.on (w := wr.drew) X_r y7; have RX_7 := Rd.on (w := wr.drew) RX_r y7; have F_7_c0 := F_7.c0; have F_7_c1 := F_7.c1; have X_7_c0 := X_7.c0; have X_7_c1 := X_7.c1; have Z7 : Below w.heap.size w w7 := (belowD Zr).trans (y7.mono Zr.size)) | (go_at_call 17; refine (api_same (l := X) (l2 := tbits s k) RX_7 RP_7 GX.out H01x.out true HTR.out _ _ rfl HCI.out).mono ?_; rintro e w8 ⟨rfl, y8⟩; have F_8 := Two.on (w := w7) F_7 y8; have X_8 := Two.on (w := w7) X_7 y8; have F_8_c0 := F_8.c0; have F_8_c1 := F_8.c1; have X_8_c0 := X_8.c0; have X_8_c1 := X_8.c1; have Z8 : Below w.heap.size w w8 := Z7.trans (y8.mono Z7.size)))
          go_wp2
          go_ret
          exact ⟨rfl, Z8⟩
theorem TOk_bstr {l : List Nat} (h : Is01 l) (q : Nat) : TOk (bstr (l.map (48 + ·))) q := by
  intro i h1 h2
  have hl : i < l.length := by simpa [bstr, ByteArray.size] using h1
  have := h i
  rw [getD_lt hl] at this
  have e : ((bstr (l.map (48 + ·)))[i]'h1).toNat = (48 + l[i]) % 256 := by
    show (((l.map (48 + ·)).map UInt8.ofNat).toArray[i]'_).toNat = _
    simp
  rw [e]
  omega
theorem bstr_size (l : List Nat) : (bstr l).size = l.length := by simp [bstr, ByteArray.size]
theorem tbits_bstr {l : List Nat} (h : Is01 l) : tbits (bstr (l.map (48 + ·))) l.length = l := by
  unfold tbits
  apply List.ext_getElem
  · simp [bstr]
  · intro i h1 h2
    have := h i
    rw [getD_lt h2] at this
    simp [bstr]
    omega
theorem mout_bstr {l : List Nat} (h : Is01 l) (hl : l.length ≤ 131072) : MOut (bstr (l.map (48 + ·))) l 0 0 := by
  have hz : (bstr (l.map (48 + ·))).size = l.length := by rw [bstr_size]; simp
  refine .inr ⟨by omega, l.length, TOk_bstr h _, .inr ⟨hz.symm, ?_, rfl, rfl⟩⟩
  rw [hz, tbits_bstr h]
set_option maxHeartbeats 3200000 in
theorem mk_yes {A : Option Addr} {n c : Nat} {l : List Nat} {s : ByteArray} {X : List Nat} {code idx : Int} (hM : MOut s X code idx) (hm : s.size ≤ maxLen) (h01 : Is01 l) (hl : l.length ≤ 131072) (w : World) (h : Rd w A n c (bcells (pack l))) :
    Calls Try.prog 3 #[.string s, .agg #[.slice A n c, .int .i64 (l.length : Nat)]] w fun e w' => e = .returned (.bool true) ∧ Below w.heap.size w w' := by
  obtain ⟨i0, hi, hz0, hz1, hz2⟩ := info_parts int_info
  have HM := Lib.hid hM
  have H01 := Lib.hid h01
  have HLL := Lib.hid hl
  have HOK := Lib.hid (Ok.of_list h01 hl)
  have gX := mout_01 hM
  have GX := Lib.hid gX
  have hML := hm
  unfold maxLen at hML
  have HML := Lib.hid hm
  obtain ⟨T, hT⟩ : ∃ T, T = bstr (l.map (48 + ·)) := ⟨_, rfl⟩
  have HTX := Lib.hid hT
  have hMT : MOut T l 0 0 := by rw [hT]; exact mout_bstr h01 hl
  have HMT := Lib.hid hMT
  have hTm : T.size ≤ maxLen := by rw [hT, bstr_size]; unfold maxLen; simp; omega
  have HTM := Lib.hid hTm
  clear hM h01 hl gX hm hT hMT hTm
  have R_0 := (h).alloc (.cells #[.slice A n c, .int .i64 (l.length : Nat)] 24)
  have B_0 := (Two.new w 24 (.slice A n c) (.int .i64 (l.length : Nat)))
  have Z0 := (Below.refl w.heap.size w).alloc (by simp) (.cells #[.slice A n c, .int .i64 (l.length : Nat)] 24)
  have B_0_c0 := B_0.c0
  have B_0_c1 := B_0.c1
  go_enter Try.func3, Try.ntmps3
  go_wp2_with fail
  refine (api_make HM.out HML.out _).mono ?_
  rintro e w1 ⟨Ax, nx, cx, rfl, Rx, y1⟩
  have R_1 := ((R_0.on y1).alloc (.cells #[.slice Ax nx cx, .int .i64 X.length] 24)).alloc (.cells #[.int .i64 code, .int .i64 idx] 26)
  have B_1 := ((B_0.on y1).alloc (.cells #[.slice Ax nx cx, .int .i64 X.length] 24)).alloc (.cells #[.int .i64 code, .int .i64 idx] 26)
  have RX_1 := ((Rx).alloc (.cells #[.slice Ax nx cx, .int .i64 X.length] 24)).alloc (.cells #[.int .i64 code, .int .i64 idx] 26)
  have X_1 := ((Two.new w1 24 (.slice Ax nx cx) (.int .i64 X.length))).alloc (.cells #[.int .i64 code, .int .i64 idx] 26)
  have F_1 := (Two.new1 w1 (.cells #[.slice Ax nx cx, .int .i64 X.length] 24) 26 (.int .i64 code) (.int .i64 idx))
  clear R_0 B_0 B_0_c0 B_0_c1
  have z1 := Z0.trans (y1.mono Z0.size)
  have Z1 := ((z1).alloc (by have := z1.size; omega) (.cells #[.slice Ax nx cx, .int .i64 X.length] 24)).alloc (by have := z1.size; simp; omega) (.cells #[.int .i64 code, .int .i64 idx] 26)
  have B_1_c0 := B_1.c0
  have B_1_c1 := B_1.c1
  have X_1_c0 := X_1.c0
  have X_1_c1 := X_1.c1
  have F_1_c0 := F_1.c0
  have F_1_c1 := F_1.c1
  go_wp2_with fail
  refine ((text_ok A n c l _ _ R_1 (Nat.le_refl _) H01.out HLL.out)).mono ?_
  unfold flt
  rw [← HTX.out]
  rintro e w2 ⟨rfl, y2⟩
  have R_2 := (R_1.on y2).alloc (.cells #[.int .i64 0, .int .i64 0] 26)
  have B_2 := (B_1.on y2).alloc (.cells #[.int .i64 0, .int .i64 0] 26)
  have RX_2 := (RX_1.on y2).alloc (.cells #[.int .i64 0, .int .i64 0] 26)
  have X_2 := (X_1.on y2).alloc (.cells #[.int .i64 0, .int .i64 0] 26)
  have F_2 := (F_1.on y2).alloc (.cells #[.int .i64 0, .int .i64 0] 26)
  have G_2 := (Two.new w2 26 (.int .i64 0) (.int .i64 0))
  clear R_1 B_1 B_1_c0 B_1_c1 RX_1 X_1 X_1_c0 X_1_c1 F_1 F_1_c0 F_1_c1
  have z2 := Z1.trans (y2.mono Z1.size)
  have Z2 := (z2).alloc (by have := z2.size; omega) (.cells #[.int .i64 0, .int .i64 0] 26)
  have B_2_c0 := B_2.c0
  have B_2_c1 := B_2.c1
  have X_2_c0 := X_2.c0
  have X_2_c1 := X_2.c1
  have F_2_c0 := F_2.c0
  have F_2_c1 := F_2.c1
  have G_2_c0 := G_2.c0
  have G_2_c1 := G_2.c1
  go_wp2_with fail
  refine (bitsok_any R_2 (pack_lt H01.out) (by omega) (by have := HLL.out; omega) true ⟨fun _ => HOK.out, fun _ => rfl⟩).mono ?_
  rintro e w3 ⟨rfl, y3⟩
  have R_3 := R_2.on y3
  have B_3 := B_2.on y3
  have RX_3 := RX_2.on y3
  have X_3 := X_2.on y3
  have F_3 := F_2.on y3
  have G_3 := G_2.on y3
  clear R_2 B_2 B_2_c0 B_2_c1 RX_2 X_2 X_2_c0 X_2_c1 F_2 F_2_c0 F_2_c1 G_2 G_2_c0 G_2_c1
  have z3 := Z2.trans (y3.mono Z2.size)
  have Z3 := z3
  have B_3_c0 := B_3.c0
  have B_3_c1 := B_3.c1
  have X_3_c0 := X_3.c0
  have X_3_c1 := X_3.c1
  have F_3_c0 := F_3.c0
  have F_3_c1 := F_3.c1
  have G_3_c0 := G_3.c0
  have G_3_c1 := G_3.c1
  go_wp2_with fail
  refine (strings_true _).mono ?_
  rintro e w4 ⟨rfl, y4⟩
  have R_4 := R_3.on y4
  have B_4 := B_3.on y4
  have RX_4 := RX_3.on y4
  have X_4 := X_3.on y4
  have F_4 := F_3.on y4
  have G_4 := G_3.on y4
  clear R_3 B_3 B_3_c0 B_3_c1 RX_3 X_3 X_3_c0 X_3_c1 F_3 F_3_c0 F_3_c1 G_3 G_3_c0 G_3_c1
  have z4 := Z3.trans (y4.mono Z3.size)
  have Z4 := z4
  have B_4_c0 := B_4.c0
  have B_4_c1 := B_4.c1
  have X_4_c0 := X_4.c0
  have X_4_c1 := X_4.c1
  have F_4_c0 := F_4.c0
  have F_4_c1 := F_4.c1
  have G_4_c0 := G_4.c0
  have G_4_c1 := G_4.c1
  go_wp2_with fail
  refine (valid_list A n c l _ _ R_4 (Nat.le_refl _) H01.out HLL.out).mono ?_
  rintro e w5 ⟨rfl, y5⟩
  have R_5 := R_4.on y5
  have B_5 := B_4.on y5
  have RX_5 := RX_4.on y5
  have X_5 := X_4.on y5
  have F_5 := F_4.on y5
  have G_5 := G_4.on y5
  clear R_4 B_4 B_4_c0 B_4_c1 RX_4 X_4 X_4_c0 X_4_c1 F_4 F_4_c0 F_4_c1 G_4 G_4_c0 G_4_c1
  have z5 := Z4.trans (y5.mono Z4.size)
  have Z5 := z5
  have B_5_c0 := B_5.c0
  have B_5_c1 := B_5.c1
  have X_5_c0 := X_5.c0
  have X_5_c1 := X_5.c1
  have F_5_c0 := F_5.c0
  have F_5_c1 := F_5.c1
  have G_5_c0 := G_5.c0
  have G_5_c1 := G_5.c1
  go_wp2_with fail
  go_quiet (fail)
  have R_6 := Rd.drewN R_5 nq
  have B_6 := Two.drewN B_5 nq
  have RX_6 := Rd.drewN RX_5 nq
  have X_6 := Two.drewN X_5 nq
  have F_6 := Two.drewN F_5 nq
  have G_6 := Two.drewN G_5 nq
  have Z6 := belowN Z5 nq
  clear R_5 B_5 B_5_c0 B_5_c1 RX_5 X_5 X_5_c0 X_5_c1 F_5 F_5_c0 F_5_c1 G_5 G_5_c0 G_5_c1
  obtain ⟨w6, hw6⟩ : ∃ w6, w6 = w5.drewN nq := ⟨_, rfl⟩
  rw [← hw6] at R_6 B_6 RX_6 X_6 F_6 G_6 Z6
  rw [← hw6]
  clear hw6
  have B_6_c0 := B_6.c0
  have B_6_c1 := B_6.c1
  have X_6_c0 := X_6.c0
  have X_6_c1 := X_6.c1
  have F_6_c0 := F_6.c0
  have F_6_c1 := F_6.c1
  have G_6_c0 := G_6.c0
  have G_6_c1 := G_6.c1
  go_wp2_with fail
  refine (api_make HMT.out HTM.out _).mono ?_
  rintro e w7 ⟨Ay, ny, cy, rfl, Ry, y7⟩
  have R_7 := ((R_6.on y7).alloc (.cells #[.slice Ay ny cy, .int .i64 l.length] 24)).alloc (.cells #[.int .i64 0, .int .i64 0] 26)
  have B_7 := ((B_6.on y7).alloc (.cells #[.slice Ay ny cy, .int .i64 l.length] 24)).alloc (.cells #[.int .i64 0, .int .i64 0] 26)
  have RX_7 := ((RX_6.on y7).alloc (.cells #[.slice Ay ny cy, .int .i64 l.length] 24)).alloc (.cells #[.int .i64 0, .int .i64 0] 26)
  have X_7 := ((X_6.on y7).alloc (.cells #[.slice Ay ny cy, .int .i64 l.length] 24)).alloc (.cells #[.int .i64 0, .int .i64 0] 26)
  have F_7 := ((F_6.on y7).alloc (.cells #[.slice Ay ny cy, .int .i64 l.length] 24)).alloc (.cells #[.int .i64 0, .int .i64 0] 26)
  have G_7 := ((G_6.on y7).alloc (.cells #[.slice Ay ny cy, .int .i64 l.length] 24)).alloc (.cells #[.int .i64 0, .int .i64 0] 26)
  have RY_7 := ((Ry).alloc (.cells #[.slice Ay ny cy, .int .i64 l.length] 24)).alloc (.cells #[.int .i64 0, .int .i64 0] 26)
  have Y_7 := ((Two.new w7 24 (.slice Ay ny cy) (.int .i64 l.length))).alloc (.cells #[.int .i64 0, .int .i64 0] 26)
  have E_7 := (Two.new1 w7 (.cells #[.slice Ay ny cy, .int .i64 l.length] 24) 26 (.int .i64 0) (.int .i64 0))
  clear R_6 B_6 B_6_c0 B_6_c1 RX_6 X_6 X_6_c0 X_6_c1 F_6 F_6_c0 F_6_c1 G_6 G_6_c0 G_6_c1
  have z7 := Z6.trans (y7.mono Z6.size)
  have Z7 := ((z7).alloc (by have := z7.size; omega) (.cells #[.slice Ay ny cy, .int .i64 l.length] 24)).alloc (by have := z7.size; simp; omega) (.cells #[.int .i64 0, .int .i64 0] 26)
  have B_7_c0 := B_7.c0
  have B_7_c1 := B_7.c1
  have X_7_c0 := X_7.c0
  have X_7_c1 := X_7.c1
  have F_7_c0 := F_7.c0
  have F_7_c1 := F_7.c1
  have G_7_c0 := G_7.c0
  have G_7_c1 := G_7.c1
  have Y_7_c0 := Y_7.c0
  have Y_7_c1 := Y_7.c1
  have E_7_c0 := E_7.c0
  have E_7_c1 := E_7.c1
  go_wp2_with fail
  refine (api_same RY_7 R_7 H01.out H01.out true (by simp) _ _ rfl rfl).mono ?_
  rintro e w8 ⟨rfl, y8⟩
  have R_8 := R_7.on y8
  have B_8 := B_7.on y8
  have RX_8 := RX_7.on y8
  have X_8 := X_7.on y8
  have F_8 := F_7.on y8
  have G_8 := G_7.on y8
  have RY_8 := RY_7.on y8
  have Y_8 := Y_7.on y8
  have E_8 := E_7.on y8
  clear R_7 B_7 B_7_c0 B_7_c1 RX_7 X_7 X_7_c0 X_7_c1 F_7 F_7_c0 F_7_c1 G_7 G_7_c0 G_7_c1 RY_7 Y_7 Y_7_c0 Y_7_c1 E_7 E_7_c0 E_7_c1
  have z8 := Z7.trans (y8.mono Z7.size)
  have Z8 := z8
  have B_8_c0 := B_8.c0
  have B_8_c1 := B_8.c1
  have X_8_c0 := X_8.c0
  have X_8_c1 := X_8.c1
  have F_8_c0 := F_8.c0
  have F_8_c1 := F_8.c1
  have G_8_c0 := G_8.c0
  have G_8_c1 := G_8.c1
  have Y_8_c0 := Y_8.c0
  have Y_8_c1 := Y_8.c1
  have E_8_c0 := E_8.c0
  have E_8_c1 := E_8.c1
  go_wp2_with fail
  · rcases HM.out with ⟨hs, rfl, rfl, rfl⟩ | ⟨hs, _⟩
    · go_region_held3 (fun w' => w'.cell? ⟨w1.heap.size, 0, none⟩ = some (.slice Ax nx cx) ∧ w'.cell? ⟨w1.heap.size, 1, none⟩ = some (.int .i64 0) ∧ w'.cell? ⟨w1.heap.size + 1, 0, none⟩ = some (.int .i64 3) ∧ w'.cell? ⟨w1.heap.size + 1, 1, none⟩ = some (.int .i64 (-1))) (go_keep) (first | (go_at_call 16; refine (refat_any _ _ _).mono ?_; rintro e w9 ⟨rfl, y9⟩; have F_9 := Two.on (w := w8.drew) F_8 y9; have X_9 := Two.on (w := w8.drew) X_8 y9; have RX_9 := Rd.on (w := w8.drew) RX_8 y9; have F_9_c0 := F_9.c0; have F_9_c1 := F_9.c1; have X_9_c0 := X_9.c0; have X_9_c1 := X_9.c1; have Z9 : Below w.heap.size w w9 := (belowD Z8).trans (y9.mono Z8.size)) | (go_at_call 17; refine (api_same (l := []) (l2 := []) RX_9 (Rd.none_ _) Is01.nil Is01.nil true (by decide) _ _ rfl rfl).mono ?_; rintro e w10 ⟨rfl, y10⟩; have F_10 := Two.on (w := w9) F_9 y10; have X_10 := Two.on (w := w9) X_9 y10; have F_10_c0 := F_10.c0; have F_10_c1 := F_10.c1; have X_10_c0 := X_10.c0; have X_10_c1 := X_10.c1; have Z10 : Below w.heap.size w w10 := Z9.trans (y10.mono Z9.size)))
      go_wp2
      go_ret
      exact ⟨rfl, Z10⟩
    · omega
  · rcases HM.out with ⟨hs, _⟩ | ⟨hs, q, hq, hcase⟩
    · omega
    have HQ := Lib.hid hq
    have HC := Lib.hid hcase
    have hqs : q ≤ s.size := by rcases hcase with ⟨⟨h1, _⟩, _⟩ | ⟨h1, _⟩ <;> omega
    clear hq hcase
    go_loopw [12, 13] (fun l i wr => ∃ k : Nat, k ≤ q ∧ i = .int .i64 k ∧ Below w8.heap.size w8 wr ∧ ∃ A1 c1, l = .slice A1 k c1 ∧ wr.ownsRow w8.heap.size 3 1 (.slice A1 k c1) k (ncells (tbits s k))) (fun _ i _ => s.size - (intOf i).toNat)
    case atStart => exact ⟨0, Nat.zero_le _, rfl, Below.refl _ _, none, 0, rfl, by simpa [ncells, tbits] using World.ownsRow_nil _ _ _ _⟩
    case round =>
      obtain ⟨k, hk, rfl, yr, A1, c1, rfl, ho⟩ := hrel
      have X_r := X_8.on yr
      have F_r := F_8.on yr
      have RX_r := RX_8.on yr
      have Zr := Z8.trans (yr.mono Z8.size)
      have X_r_c0 := X_r.c0
      have X_r_c1 := X_r.c1
      have F_r_c0 := F_r.c0
      have F_r_c1 := F_r.c1
      clear X_8 X_8_c0 X_8_c1 F_8 F_8_c0 F_8_c1 RX_8
      by_cases hlt : k < q
      · have hlen : k < s.size := by omega
        have ysz := yr.size
        have HS := Lib.hid (show ncells (tbits s (k + 1)) = ncells (tbits s k) ++ [.int .i64 ((s[k].toNat - 48 : Nat) : Int)] by rw [tbits_succ s k hlen, ncells_append]; rfl)
        rcases HQ.out k hlen hlt with hc | hc
        · rw [hc] at HS
          go_wp2_with (at_builtin; refine wpList_append_lies _ rfl _ _ _ rfl w8.heap.size 3 i0 _ 1 8 Try.underlying35 hi hz0 hz1 hz2 rfl (by omega) (.slice A1 k c1) k (ncells (tbits s k)) rfl (ho.alloc _) ⟨wr.heap.size, 0, none⟩ 1 1 [.int .i64 0] rfl rfl ?c1 ?c2 ?c3 ?c4 ?c5 ?c6 (wr.heap.size + 1) ?c7 ?_)
          case c1 => exact one_new _ _ rfl _ _
          case c2 => intro u hu; simp at hu; subst hu; rfl
          case c3 => decide
          case c4 => unfold maxLen; omega
          case c5 => omega
          case c6 => simp; omega
          case c7 => simp
          intro g cap w14 ho4 hg4 hat hlt4
          go_wp2
          go_roundw
          case rel =>
            refine ⟨k + 1, by omega, by go_num, (yr.alloc ysz _).grown hg4 (by simp; omega) (fun q hq => (ho.lt q hq).1), some ⟨g, 0, none⟩, cap, rfl, ?_⟩
            rw [HS.out]
            exact ho4
          case measure => simp [intOf]; omega
        · rw [hc] at HS
          go_wp2_with (at_builtin; refine wpList_append_lies _ rfl _ _ _ rfl w8.heap.size 3 i0 _ 1 8 Try.underlying35 hi hz0 hz1 hz2 rfl (by omega) (.slice A1 k c1) k (ncells (tbits s k)) rfl (ho.alloc _) ⟨wr.heap.size, 0, none⟩ 1 1 [.int .i64 1] rfl rfl ?c1 ?c2 ?c3 ?c4 ?c5 ?c6 (wr.heap.size + 1) ?c7 ?_)
          case c1 => exact one_new _ _ rfl _ _
          case c2 => intro u hu; simp at hu; subst hu; rfl
          case c3 => decide
          case c4 => unfold maxLen; omega
          case c5 => omega
          case c6 => simp; omega
          case c7 => simp
          intro g cap w14 ho4 hg4 hat hlt4
          go_wp2
          go_roundw
          case rel =>
            refine ⟨k + 1, by omega, by go_num, (yr.alloc ysz _).grown hg4 (by simp; omega) (fun q hq => (ho.lt q hq).1), some ⟨g, 0, none⟩, cap, rfl, ?_⟩
            rw [HS.out]
            exact ho4
          case measure => simp [intOf]; omega
      · obtain rfl : k = q := by omega
        rcases HC.out with ⟨⟨hend, hb⟩, rfl, rfl, rfl⟩ | ⟨hend, hXX, rfl, rfl⟩
        · have hc1 : ((s[k].toNat : Int) != 48) = true := by rw [bne_iff_ne]; omega
          have hc2 : ((s[k].toNat : Int) != 49) = true := by rw [bne_iff_ne]; omega
          clear hb
          go_wp2_with fail
          go_region_held3 (fun w' => w'.cell? ⟨w1.heap.size, 0, none⟩ = some (.slice Ax nx cx) ∧ w'.cell? ⟨w1.heap.size, 1, none⟩ = some (.int .i64 0) ∧ w'.cell? ⟨w1.heap.size + 1, 0, none⟩ = some (.int .i64 6) ∧ w'.cell? ⟨w1.heap.size + 1, 1, none⟩ = some (.int .i64 k)) (go_keep) (first | (go_at_call 16; refine (refat_any _ _ _).mono ?_; rintro e w7 ⟨rfl, y7⟩; have F_7 := Two.on (w := wr.drew) F_r y7; have X_7 := Two.on (w := wr.drew) X_r y7; have RX_7 := Rd.on (w := wr.drew) RX_r y7; have F_7_c0 := F_7.c0; have F_7_c1 := F_7.c1; have X_7_c0 := X_7.c0; have X_7_c1 := X_7.c1; have Z7 : Below w.heap.size w w7 := (belowD Zr).trans (y7.mono Zr.size)) | (go_at_call 17; refine (api_same (l := []) (l2 := []) RX_7 (Rd.none_ _) Is01.nil Is01.nil true (by decide) _ _ rfl rfl).mono ?_; rintro e w8 ⟨rfl, y8⟩; have F_8 := Two.on (w := w7) F_7 y8; have X_8 := Two.on (w := w7) X_7 y8; have F_8_c0 := F_8.c0; have F_8_c1 := F_8.c1; have X_8_c0 := X_8.c0; have X_8_c1 := X_8.c1; have Z8 : Below w.heap.size w w8 := Z7.trans (y8.mono Z7.size)))
          go_wp2
          go_ret
          exact ⟨rfl, Z8⟩
        · have hL := tbits_length s k (by omega)
          have HL := Lib.hid hL
          have HX := Lib.hid (show X = tbits s k by rw [hXX, hend])
          have H01x := Lib.hid (tbits_01 s k HQ.out (by omega))
          have hk6 : (tbits s k).length ≤ 1000000 := by omega
          have HK6 := Lib.hid hk6
          have RL := Rd.own ho
          have hci : (k : Int) = (((tbits s k).length : Nat) : Int) := by rw [hL]
          have HCI := Lib.hid hci
          have htr : true = decide (X = tbits s k) := by rw [HX.out]; simp
          have HTR := Lib.hid htr
          have HEND := Lib.hid hend
          have hge : s.size ≤ k := by omega
          clear hL hXX hk6 hci htr hend
          go_wp2_with fail
          go_region_held3 (fun w' => w'.cell? ⟨w1.heap.size, 0, none⟩ = some (.slice Ax nx cx) ∧ w'.cell? ⟨w1.heap.size, 1, none⟩ = some (.int .i64 (X.length : Nat)) ∧ w'.cell? ⟨w1.heap.size + 1, 0, none⟩ = some (.int .i64 0) ∧ w'.cell? ⟨w1.heap.size + 1, 1, none⟩ = some (.int .i64 0)) (go_keep) (first | (go_at_call 18; refine (packed_any (l := tbits s k) k HL.out.symm (Rd.drew RL) H01x.out HK6.out).mono ?_; rintro e w7 ⟨Ap, np, cp, rfl, RP_7, y7⟩; have F_7 := Two.on (w := wr.drew) F_r y7; have X_7 := Two.on (w := wr.drew) X_r y7; have RX_7 := Rd.on (w := wr.drew) RX_r y7; have F_7_c0 := F_7.c0; have F_7_c1 := F_7.c1; have X_7_c0 := X_7.c0; have X_7_c1 := X_7.c1; have Z7 : Below w.heap.size w w7 := (belowD Zr).trans (y7.mono Zr.size)) | (go_at_call 17; refine (api_same (l := X) (l2 := tbits s k) RX_7 RP_7 GX.out H01x.out true HTR.out _ _ rfl HCI.out).mono ?_; rintro e w8 ⟨rfl, y8⟩; have F_8 := Two.on (w := w7) F_7 y8; have X_8 := Two.on (w := w7) X_7 y8; have F_8_c0 := F_8.c0; have F_8_c1 := F_8.c1; have X_8_c0 := X_8.c0; have X_8_c1 := X_8.c1; have Z8 : Below w.heap.size w w8 := Z7.trans (y8.mono Z7.size)))
          go_wp2
          go_ret
          exact ⟨rfl, Z8⟩
theorem makelaw_all {A : Option Addr} {n c : Nat} {bs : List Nat} {cnt : Int} {s : ByteArray} (hm : s.size ≤ maxLen) (hd : ∀ k, bs.getD k 0 < 256) (hlo : -9223372036854775808 ≤ cnt) (hhi : cnt ≤ 9223372036854775807) (w : World) (h : Rd w A n c (bcells bs)) :
    Calls Try.prog 3 #[.string s, .agg #[.slice A n c, .int .i64 cnt]] w fun e w' => e = .returned (.bool true) ∧ Below w.heap.size w w' := by
  obtain ⟨X, code, idx, hM⟩ := mout_ex s
  by_cases hok : Ok bs cnt
  · obtain ⟨l, g1, g2, rfl, rfl⟩ := hok.list hd
    exact mk_yes hM hm g1 g2 w h
  · exact mk_no hM hm hd hlo hhi hok w h
end PB
end Go.Proofs.Ytcmglfgibedpbaa
