/-
  Codes and costs of tokens are as specified: the walk of the statement LzCodesMatchSpec.
-/
import Derived.Test.YtlhglomhfbbinaaRows
import Derived.Test.YtlhglomhfbbinaaLzApi
import Derived.Test.YtlhglomhfbbinaaLzRefBits
import Derived.Test.YtlhglomhfbbinaaBitsRef2
import Derived.Deep.RegionHeld3
import Derived.Deep.DrawnRows
import Derived.Lib.SlBytesConst
namespace Go.Proofs.Ytlhglomhfbbinaa
open Go.RowKit
attribute [local go_sem ↓] Go.wp_at_zero Go.wp_at_succ
set_option linter.unusedVariables false
set_option linter.unusedSimpArgs false
namespace PB
theorem packed_api {A : Option Addr} {c : Nat} {l : List Nat} {w : World} (k : Nat) (hk : k = l.length) (h : Rd w A k c (ncells l)) (h01 : Is01 l) (hl : l.length ≤ 1000000) :
    Calls Try.prog 26 #[.slice A k c] w fun e w' => ∃ A' n' c', e = .returned (.agg #[.slice A' n' c', .int .i64 (k : Nat)]) ∧ Rd w' A' n' c' (bcells (pack l)) ∧ Below w.heap.size w w' := packed_any k hk h h01 hl
theorem enc2_api {A : Option Addr} {m c : Nat} {ts : List Tok} {w : World} (h : RdT w A m c ts) (h1 : ts.length ≤ 1024) (h2 : AllTok ts ts.length) (h3 : ∀ t ∈ ts, t.lit < 256) (L : List Nat) (hL : L = codeOf ts) (k : Nat) (hk : k = L.length) :
    Calls Try.prog 22 #[.slice A m c] w fun e w' => ∃ A' n' c', e = .returned (.tuple #[.agg #[.slice A' n' c', .int .i64 (k : Nat)], .agg #[.int .i64 0, .int .i64 0]]) ∧ Rd w' A' n' c' (bcells (pack L)) ∧ Below w.heap.size w w' := by
  subst hL hk
  exact (lzenc_ok h h1 h2 h3).mono fun e w' ⟨A', n', c', h1, h2, h3⟩ => ⟨A', n', c', h1, Rd.own h2, h3⟩
set_option maxRecDepth 100000 in
set_option maxHeartbeats 3200000 in
theorem lc_bad {A : Option Addr} {n c : Nat} {xs : List Tok} (hw : ∀ x ∈ xs, x.lit < 256) {code idx : Int} (hT : TOut xs code idx) (hc : code ≠ 0)  (w : World) (h : RdT w A n c xs) :
    Calls Try.prog 8 #[.slice A n c] w fun e w' => e = .returned (.bool true) ∧ Below w.heap.size w w' := by
  have HW := Lib.hid hw
  clear hw
  have hc2 : (code != 0) = true := by rw [bne_iff_ne]; exact hc
  have HT := Lib.hid hT
  have HC := Lib.hid hc
  clear hT hc
  have R_0 := h
  have Z0 := Below.refl w.heap.size w
  go_enter Try.func8, Try.ntmps8
  go_wp2_with fail
  refine (lzenc_bad R_0 HT.out HC.out).mono ?_
  rintro e w1 ⟨rfl, y1⟩
  have R_1 := ((R_0.on y1).alloc (.cells #[.slice none 0 0, .int .i64 0] 43)).alloc (.cells #[.int .i64 code, .int .i64 idx] 25)
  have B_1 := ((Two.new w1 43 (.slice none 0 0) (.int .i64 0))).alloc (.cells #[.int .i64 code, .int .i64 idx] 25)
  have F_1 := (Two.new1 w1 (.cells #[.slice none 0 0, .int .i64 0] 43) 25 (.int .i64 code) (.int .i64 idx))
  clear R_0
  have z1 := Z0.trans (y1.mono Z0.size)
  have Z1 := ((z1).alloc (by have := z1.size; omega) (.cells #[.slice none 0 0, .int .i64 0] 43)).alloc (by have := z1.size; simp; omega) (.cells #[.int .i64 code, .int .i64 idx] 25)
  have B_1_c0 := B_1.c0
  have B_1_c1 := B_1.c1
  have F_1_c0 := F_1.c0
  have F_1_c1 := F_1.c1
  go_wp2_with fail
  refine (lzcosts_bad R_1 HT.out HC.out).mono ?_
  rintro e w2 ⟨rfl, y2⟩
  have R_2 := (R_1.on y2).alloc (.cells #[.int .i64 code, .int .i64 idx] 25)
  have B_2 := (B_1.on y2).alloc (.cells #[.int .i64 code, .int .i64 idx] 25)
  have F_2 := (F_1.on y2).alloc (.cells #[.int .i64 code, .int .i64 idx] 25)
  have G_2 := (Two.new w2 25 (.int .i64 code) (.int .i64 idx))
  clear R_1 B_1 B_1_c0 B_1_c1 F_1 F_1_c0 F_1_c1
  have z2 := Z1.trans (y2.mono Z1.size)
  have Z2 := (z2).alloc (by have := z2.size; omega) (.cells #[.int .i64 code, .int .i64 idx] 25)
  have B_2_c0 := B_2.c0
  have B_2_c1 := B_2.c1
  have F_2_c0 := F_2.c0
  have F_2_c1 := F_2.c1
  have G_2_c0 := G_2.c0
  have G_2_c1 := G_2.c1
  go_wp2_with fail
  refine (tokensfault_any R_2 HT.out).mono ?_
  rintro e w3 ⟨rfl, y3⟩
  have R_3 := (R_2.on y3).alloc (.cells #[.int .i64 code, .int .i64 idx] 25)
  have B_3 := (B_2.on y3).alloc (.cells #[.int .i64 code, .int .i64 idx] 25)
  have F_3 := (F_2.on y3).alloc (.cells #[.int .i64 code, .int .i64 idx] 25)
  have G_3 := (G_2.on y3).alloc (.cells #[.int .i64 code, .int .i64 idx] 25)
  have W_3 := (Two.new w3 25 (.int .i64 code) (.int .i64 idx))
  clear R_2 B_2 B_2_c0 B_2_c1 F_2 F_2_c0 F_2_c1 G_2 G_2_c0 G_2_c1
  have z3 := Z2.trans (y3.mono Z2.size)
  have Z3 := (z3).alloc (by have := z3.size; omega) (.cells #[.int .i64 code, .int .i64 idx] 25)
  have B_3_c0 := B_3.c0
  have B_3_c1 := B_3.c1
  have F_3_c0 := F_3.c0
  have F_3_c1 := F_3.c1
  have G_3_c0 := G_3.c0
  have G_3_c1 := G_3.c1
  have W_3_c0 := W_3.c0
  have W_3_c1 := W_3.c1
  go_wp2_with fail
  refine (matches_true _).mono ?_
  rintro e w4 ⟨rfl, y4⟩
  have R_4 := R_3.on y4
  have B_4 := B_3.on y4
  have F_4 := F_3.on y4
  have G_4 := G_3.on y4
  have W_4 := W_3.on y4
  clear R_3 B_3 B_3_c0 B_3_c1 F_3 F_3_c0 F_3_c1 G_3 G_3_c0 G_3_c1 W_3 W_3_c0 W_3_c1
  have z4 := Z3.trans (y4.mono Z3.size)
  have Z4 := z4
  have B_4_c0 := B_4.c0
  have B_4_c1 := B_4.c1
  have F_4_c0 := F_4.c0
  have F_4_c1 := F_4.c1
  have G_4_c0 := G_4.c0
  have G_4_c1 := G_4.c1
  have W_4_c0 := W_4.c0
  have W_4_c1 := W_4.c1
  go_wp2_with fail
  refine (api_same (l := []) (l2 := []) (Rd.none_ _) (Rd.none_ _) Is01.nil Is01.nil true (by decide) _ _ rfl rfl).mono ?_
  rintro e w5 ⟨rfl, y5⟩
  have R_5 := R_4.on y5
  have B_5 := B_4.on y5
  have F_5 := F_4.on y5
  have G_5 := G_4.on y5
  have W_5 := W_4.on y5
  clear R_4 B_4 B_4_c0 B_4_c1 F_4 F_4_c0 F_4_c1 G_4 G_4_c0 G_4_c1 W_4 W_4_c0 W_4_c1
  have z5 := Z4.trans (y5.mono Z4.size)
  have Z5 := z5
  have B_5_c0 := B_5.c0
  have B_5_c1 := B_5.c1
  have F_5_c0 := F_5.c0
  have F_5_c1 := F_5.c1
  have G_5_c0 := G_5.c0
  have G_5_c1 := G_5.c1
  have W_5_c0 := W_5.c0
  have W_5_c1 := W_5.c1
  go_wp2
  go_ret
  exact ⟨rfl, Z5⟩
set_option maxRecDepth 100000 in
set_option maxHeartbeats 3200000 in
theorem lc_ok {A : Option Addr} {n c : Nat} {xs : List Tok} (hw : ∀ x ∈ xs, x.lit < 256) (g1 : xs.length ≤ 1024) (g2 : AllTok xs xs.length)  (w : World) (h : RdT w A n c xs) :
    Calls Try.prog 8 #[.slice A n c] w fun e w' => e = .returned (.bool true) ∧ Below w.heap.size w w' := by
  have HW := Lib.hid hw
  clear hw
  have HG := Lib.hid g2
  have HT := Lib.hid (show TOut xs 0 0 from .inr (.inr ⟨g1, g2, rfl, rfl⟩))
  obtain ⟨L, hL⟩ : ∃ L, L = codeOf xs := ⟨_, rfl⟩
  obtain ⟨k, hk⟩ : ∃ k, k = L.length := ⟨_, rfl⟩
  have hkc : k = costs xs := by rw [hk, hL, codeOf_length xs g2]
  have hkb : k ≤ 60000 := by
    have := codeOf_take_le xs g2 xs.length
    rw [List.take_of_length_le (Nat.le_refl _), ← hL, ← hk] at this
    omega
  have HL := Lib.hid hL
  have HK := Lib.hid hk
  have HKL := Lib.hid (show L.length ≤ 1000000 by omega)
  have H01 := Lib.hid (show Is01 L by rw [hL]; exact codeOf_01 _)
  have HCO := Lib.hid (fun (W : World) (hW : RdT W A n c xs) => lzcosts_ok hW g1 g2)
  rw [← hkc] at HCO
  have HTB := Lib.hid (fun (W : World) (hW : RdT W A n c xs) => tokensbits_any hW g1 g2 HW.out k (by rw [hk, hL]))
  rw [← hL] at HTB
  clear g2 hL hk hkc
  have R_0 := h
  have Z0 := Below.refl w.heap.size w
  go_enter Try.func8, Try.ntmps8
  go_wp2_with fail
  refine (enc2_api R_0 g1 HG.out HW.out L HL.out k HK.out).mono ?_
  rintro e w1 ⟨A1, n1, c1, rfl, E1, y1⟩
  have R_1 := ((R_0.on y1).alloc (.cells #[.slice A1 n1 c1, .int .i64 (k : Nat)] 43)).alloc (.cells #[.int .i64 0, .int .i64 0] 25)
  have E_1 := ((E1).alloc (.cells #[.slice A1 n1 c1, .int .i64 (k : Nat)] 43)).alloc (.cells #[.int .i64 0, .int .i64 0] 25)
  have B_1 := ((Two.new w1 43 (.slice A1 n1 c1) (.int .i64 (k : Nat)))).alloc (.cells #[.int .i64 0, .int .i64 0] 25)
  have F_1 := (Two.new1 w1 (.cells #[.slice A1 n1 c1, .int .i64 (k : Nat)] 43) 25 (.int .i64 0) (.int .i64 0))
  clear R_0
  have z1 := Z0.trans (y1.mono Z0.size)
  have Z1 := ((z1).alloc (by have := z1.size; omega) (.cells #[.slice A1 n1 c1, .int .i64 (k : Nat)] 43)).alloc (by have := z1.size; simp; omega) (.cells #[.int .i64 0, .int .i64 0] 25)
  have B_1_c0 := B_1.c0
  have B_1_c1 := B_1.c1
  have F_1_c0 := F_1.c0
  have F_1_c1 := F_1.c1
  go_wp2_with fail
  refine (HCO.out _ R_1).mono ?_
  rintro e w2 ⟨rfl, y2⟩
  have R_2 := (R_1.on y2).alloc (.cells #[.int .i64 0, .int .i64 0] 25)
  have E_2 := (E_1.on y2).alloc (.cells #[.int .i64 0, .int .i64 0] 25)
  have B_2 := (B_1.on y2).alloc (.cells #[.int .i64 0, .int .i64 0] 25)
  have F_2 := (F_1.on y2).alloc (.cells #[.int .i64 0, .int .i64 0] 25)
  have G_2 := (Two.new w2 25 (.int .i64 0) (.int .i64 0))
  clear R_1 E_1 B_1 B_1_c0 B_1_c1 F_1 F_1_c0 F_1_c1
  have z2 := Z1.trans (y2.mono Z1.size)
  have Z2 := (z2).alloc (by have := z2.size; omega) (.cells #[.int .i64 0, .int .i64 0] 25)
  have B_2_c0 := B_2.c0
  have B_2_c1 := B_2.c1
  have F_2_c0 := F_2.c0
  have F_2_c1 := F_2.c1
  have G_2_c0 := G_2.c0
  have G_2_c1 := G_2.c1
  go_wp2_with fail
  refine (tokensfault_any R_2 HT.out).mono ?_
  rintro e w3 ⟨rfl, y3⟩
  have R_3 := (R_2.on y3).alloc (.cells #[.int .i64 0, .int .i64 0] 25)
  have E_3 := (E_2.on y3).alloc (.cells #[.int .i64 0, .int .i64 0] 25)
  have B_3 := (B_2.on y3).alloc (.cells #[.int .i64 0, .int .i64 0] 25)
  have F_3 := (F_2.on y3).alloc (.cells #[.int .i64 0, .int .i64 0] 25)
  have G_3 := (G_2.on y3).alloc (.cells #[.int .i64 0, .int .i64 0] 25)
  have W_3 := (Two.new w3 25 (.int .i64 0) (.int .i64 0))
  clear R_2 E_2 B_2 B_2_c0 B_2_c1 F_2 F_2_c0 F_2_c1 G_2 G_2_c0 G_2_c1
  have z3 := Z2.trans (y3.mono Z2.size)
  have Z3 := (z3).alloc (by have := z3.size; omega) (.cells #[.int .i64 0, .int .i64 0] 25)
  have B_3_c0 := B_3.c0
  have B_3_c1 := B_3.c1
  have F_3_c0 := F_3.c0
  have F_3_c1 := F_3.c1
  have G_3_c0 := G_3.c0
  have G_3_c1 := G_3.c1
  have W_3_c0 := W_3.c0
  have W_3_c1 := W_3.c1
  go_wp2_with fail
  refine (matches_true _).mono ?_
  rintro e w4 ⟨rfl, y4⟩
  have R_4 := R_3.on y4
  have E_4 := E_3.on y4
  have B_4 := B_3.on y4
  have F_4 := F_3.on y4
  have G_4 := G_3.on y4
  have W_4 := W_3.on y4
  clear R_3 E_3 B_3 B_3_c0 B_3_c1 F_3 F_3_c0 F_3_c1 G_3 G_3_c0 G_3_c1 W_3 W_3_c0 W_3_c1
  have z4 := Z3.trans (y4.mono Z3.size)
  have Z4 := z4
  have B_4_c0 := B_4.c0
  have B_4_c1 := B_4.c1
  have F_4_c0 := F_4.c0
  have F_4_c1 := F_4.c1
  have G_4_c0 := G_4.c0
  have G_4_c1 := G_4.c1
  have W_4_c0 := W_4.c0
  have W_4_c1 := W_4.c1
  go_wp2_with fail
  refine (HTB.out _ R_4).mono ?_
  rintro e w5 ⟨A2, c2, rfl, hol, y5⟩
  have R_5 := R_4.on y5
  have E_5 := E_4.on y5
  have B_5 := B_4.on y5
  have F_5 := F_4.on y5
  have G_5 := G_4.on y5
  have W_5 := W_4.on y5
  have L_5 := hol
  clear R_4 E_4 B_4 B_4_c0 B_4_c1 F_4 F_4_c0 F_4_c1 G_4 G_4_c0 G_4_c1 W_4 W_4_c0 W_4_c1
  have z5 := Z4.trans (y5.mono Z4.size)
  have Z5 := z5
  have B_5_c0 := B_5.c0
  have B_5_c1 := B_5.c1
  have F_5_c0 := F_5.c0
  have F_5_c1 := F_5.c1
  have G_5_c0 := G_5.c0
  have G_5_c1 := G_5.c1
  have W_5_c0 := W_5.c0
  have W_5_c1 := W_5.c1
  go_wp2_with fail
  go_region_held3 (fun w' => w'.cell? ⟨w1.heap.size, 0, none⟩ = some (.slice A1 n1 c1) ∧ w'.cell? ⟨w1.heap.size, 1, none⟩ = some (.int .i64 (k : Nat))) (go_keep) (first | (go_at_call 26; refine (packed_api k HK.out (Rd.own (own_drew L_5)) H01.out HKL.out).mono ?_; rintro e w6 ⟨Ap, np, cp, rfl, RP, y6⟩; have Y6 : Below w5.heap.size w5.drew w6 := y6; have B_6_c0 := ((Two.on (w := w5.drew) B_5 Y6)).c0; have B_6_c1 := ((Two.on (w := w5.drew) B_5 Y6)).c1) | (go_at_call 24; refine (api_same (Rd.on (w := w5.drew) E_5 Y6) RP H01.out H01.out true (by simp) _ _ (by rw [← HK.out]) (by rw [← HK.out])).mono ?_; rintro e w7 ⟨rfl, y7⟩; have Y7 := Y6.trans (y7.mono Y6.size); have B_7_c0 := ((Two.on (w := w5.drew) B_5 Y7)).c0; have B_7_c1 := ((Two.on (w := w5.drew) B_5 Y7)).c1))
  have R_7 := (RdT.on (w := w5.drew) R_5 Y7)
  have E_7 := (Rd.on (w := w5.drew) E_5 Y7)
  have B_7 := (Two.on (w := w5.drew) B_5 Y7)
  have F_7 := (Two.on (w := w5.drew) F_5 Y7)
  have G_7 := (Two.on (w := w5.drew) G_5 Y7)
  have W_7 := (Two.on (w := w5.drew) W_5 Y7)
  have L_7 := (own_on (w := w5.drew) L_5 Y7)
  have Z7 := (belowD Z5).trans (Y7.mono (belowD Z5).size)
  clear B_6_c0 B_6_c1 B_7_c0 B_7_c1
  clear R_5 E_5 B_5 B_5_c0 B_5_c1 F_5 F_5_c0 F_5_c1 G_5 G_5_c0 G_5_c1 W_5 W_5_c0 W_5_c1 L_5
  have B_7_c0 := B_7.c0
  have B_7_c1 := B_7.c1
  have F_7_c0 := F_7.c0
  have F_7_c1 := F_7.c1
  have G_7_c0 := G_7.c0
  have G_7_c1 := G_7.c1
  have W_7_c0 := W_7.c0
  have W_7_c1 := W_7.c1
  go_wp2
  go_ret
  exact ⟨rfl, Z7⟩
theorem lc_all {A : Option Addr} {n c : Nat} {xs : List Tok} (hw : ∀ x ∈ xs, x.lit < 256) (w : World) (h : RdT w A n c xs) :
    Calls Try.prog 8 #[.slice A n c] w fun e w' => e = .returned (.bool true) ∧ Below w.heap.size w w' := by
  obtain ⟨code, idx, hT⟩ := tout_ex xs
  by_cases hc : code = 0
  · subst hc
    obtain ⟨g1, g2, _⟩ := hT.zero rfl
    exact lc_ok hw g1 g2 w h
  · exact lc_bad hw hT hc w h
end PB
end Go.Proofs.Ytlhglomhfbbinaa
