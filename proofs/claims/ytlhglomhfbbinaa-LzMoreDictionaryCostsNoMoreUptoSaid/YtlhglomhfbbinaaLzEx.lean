/-
  The closed examples of package lz: matches answers true.
-/
import Derived.Test.YtlhglomhfbbinaaRows
import Derived.Test.YtlhglomhfbbinaaLzLawPlain
import Derived.Deep.RegionHeld3
import Derived.Deep.DrawnRows
import Derived.Lib.SlBytesConst
namespace Go.Proofs.Ytlhglomhfbbinaa
open Go.RowKit
attribute [local go_sem ↓] Go.wp_at_zero Go.wp_at_succ
set_option linter.unusedVariables false
set_option linter.unusedSimpArgs false
namespace PB
theorem Rd.litG (w : World) {g : Nat} (hg : g = w.heap.size) (t : TypeId) (cs : Array Value) (fr : Nat × Nat) (k : Nat) (hk : cs.toList.length = k) (hm : k ≤ maxLen) : Rd (w.alloc (.cells cs t fr)) (some ⟨g, 0, none⟩) k k cs.toList := by
  subst hg
  refine ⟨hk, Nat.le_refl _, hm, fun _ => ⟨w.heap.size, 0, rfl, by simp, fun j u hu => ?_⟩⟩
  rw [Nat.zero_add, cell_of_row _ _ j cs t fr (heap_alloc_new w _)]
  simpa using hu
theorem run_conv_g (w : World) (g : Nat) (C : Array Value) (n c : Nat) (hg : g = w.heap.size) :
    (convert 22 22 (.slice (some ⟨g, 0, none⟩) n c)).run Try.prog (w.alloc (.cells C 5)) = .ok (.slice (some ⟨g, 0, none⟩) n c) (w.alloc (.cells C 5 (C.size, C.size + 1))) := by
  subst hg
  exact Lib.run_convert_bytes_const (P := Try.prog) w 22 5 C n c Try.underlying22 Try.underlying5
theorem RdT.litG (w : World) {g : Nat} (hg : g = w.heap.size) (t : TypeId) (ts : List Tok) (k : Nat) (hk : ts.length = k) (hm : k ≤ maxLen) : RdT (w.alloc (.cells (tcells ts).toArray t)) (some ⟨g, 0, none⟩) k k ts := by
  subst hg
  have hB := Blk.new w t (tcells ts).toArray
  refine ⟨hk, Nat.le_refl _, hm, fun _ => ⟨w.heap.size, 0, rfl, by simp, fun i x hx => ?_⟩⟩
  obtain ⟨q1, q2, q3⟩ := tcells_get ts i x hx
  rw [Nat.zero_add, hB.cell, hB.cell, hB.cell]
  exact ⟨by simpa using q1, by simpa using q2, by simpa using q3⟩
/-- The tokens of the closed example. -/
def exT : List Tok := [⟨0, 0, 97⟩, ⟨1, 3, 0⟩]
theorem ex_tab : Tab gsz [97, 97, 97, 97] 0 (fun j => [12, 3, 18, 9, 0].getD j 0) (fun j => [0, 3, 0, 0].getD j 0) (fun j => [0, 1, 0, 0].getD j 0) := by
  have g1 : gsz 1 = 1 := by decide
  have hc : ∀ j n d, Cand [97, 97, 97, 97] j n d → j ≤ 1 ∧ 1 ≤ j := by
    intro j n d ⟨h1, h2, h3, h4⟩
    have := rep_le (all := [97, 97, 97, 97]) (i := j) (d := d)
    have : [97, 97, 97, 97].length = 4 := rfl
    omega
  refine ⟨rfl, fun j h1 h2 => ?_⟩
  rcases (by have : [97, 97, 97, 97].length = 4 := rfl; omega : j = 0 ∨ j = 1 ∨ j = 2 ∨ j = 3) with rfl | rfl | rfl | rfl
  · exact ⟨.inl ⟨rfl, rfl, rfl⟩, by decide, fun n' d' h _ => by have := hc _ _ _ h; omega⟩
  · refine ⟨.inr ⟨⟨by decide, by decide, by decide, by decide⟩, by decide⟩, by decide, fun n' d' h _ => ?_⟩
    obtain ⟨a1, a2, a3, a4⟩ := h
    have := rep_le (all := [97, 97, 97, 97]) (i := 1) (d := d')
    have : [97, 97, 97, 97].length = 4 := rfl
    obtain rfl : n' = 3 := by omega
    obtain rfl : d' = 1 := by omega
    right
    exact ⟨by decide, .inr ⟨rfl, Nat.le_refl _⟩⟩
  · exact ⟨.inl ⟨rfl, rfl, rfl⟩, by decide, fun n' d' h _ => by have := hc _ _ _ h; omega⟩
  · exact ⟨.inl ⟨rfl, rfl, rfl⟩, by decide, fun n' d' h _ => by have := hc _ _ _ h; omega⟩
theorem ex_parse {A : Option Addr} {c : Nat} {w : World} (h : Rd w A 4 c (bcells [97, 97, 97, 97])) :
    Calls Try.prog 11 #[.slice A 4 c, .slice none 0 0] w fun e w' => ∃ A' c', e = .returned (.tuple #[.slice A' 2 c', .agg #[.int .i64 0, .int .i64 0]]) ∧ RdT w' A' 2 c' exT ∧ Below w.heap.size w w' := by
  refine (lzparse_ok (dict := []) h (Reads.nil _ _ none 0 (Nat.zero_le _)) (by decide) (by decide)).mono ?_
  rintro e w' ⟨L, nn, dd, A', m, c', rfl, hT, ho, hb⟩
  have e1 : tokens ([] ++ [97, 97, 97, 97]) nn dd 0 = exT := (Tab.tokens hT ex_tab).trans rfl
  rw [e1] at ho
  have hm := ho.1
  obtain rfl : m = 2 := by
    have : (tcells exT).length = 6 := rfl
    omega
  exact ⟨A', c', rfl, RdT.own ho, hb⟩
theorem ex_expand {A : Option Addr} {c : Nat} {A2 : Option Addr} {c2 : Nat} {w : World} (h : RdT w A 1 c [⟨3, 4, 0⟩]) (h2 : Rd w A2 3 c2 (bcells [97, 98, 99])) :
    Calls Try.prog 16 #[.slice A 1 c, .slice A2 3 c2] w fun e w' => ∃ A' c', e = .returned (.tuple #[.slice A' 4 c', .agg #[.int .i64 0, .int .i64 0]]) ∧ Rd w' A' 4 c' (bcells [97, 98, 99, 97]) ∧ Below w.heap.size w w' := by
  have hok : ∀ t ∈ [(⟨3, 4, 0⟩ : Tok)], t.ok := by
    intro t ht
    obtain rfl : t = ⟨3, 4, 0⟩ := by simpa using ht
    exact .inr ⟨rfl, by decide, by decide, by decide, by decide⟩
  refine (lzexp_ok h h2 (by decide) (AllTok.of _ hok) (by decide)).mono ?_
  rintro e w' ⟨A', m, c', rfl, hr, hb⟩
  have e1 : expf 3 [⟨3, 4, 0⟩] 0 [97, 98, 99] = (0, 0, [97, 98, 99, 97, 98, 99, 97]) := rfl
  rw [e1] at hr ⊢
  have hl := hr.len
  obtain rfl : m = 4 := by rw [← hl]; rfl
  exact ⟨A', c', rfl, hr, hb⟩
theorem ex_cost {A : Option Addr} {c : Nat} {w : World} (h : RdT w A 1 c [⟨2, 5, 0⟩]) :
    Calls Try.prog 21 #[.slice A 1 c] w fun e w' => e = .returned (.tuple #[.int .i64 7, .agg #[.int .i64 0, .int .i64 0]]) ∧ Below w.heap.size w w' := by
  have hok : ∀ t ∈ [(⟨2, 5, 0⟩ : Tok)], t.ok := by
    intro t ht
    obtain rfl : t = ⟨2, 5, 0⟩ := by simpa using ht
    exact .inr ⟨rfl, by decide, by decide, by decide, by decide⟩
  have e1 : costs [⟨2, 5, 0⟩] = 7 := by decide
  have := lzcosts_ok h (by decide) (AllTok.of _ hok)
  rw [e1] at this
  exact this
theorem exT_ok : ∀ t ∈ exT, t.ok ∧ t.lit < 256 := by
  intro t ht
  simp only [exT, List.mem_cons, List.not_mem_nil, or_false] at ht
  rcases ht with rfl | rfl
  · exact ⟨.inl ⟨rfl, rfl⟩, by decide⟩
  · exact ⟨.inr ⟨rfl, by decide, by decide, by decide, by decide⟩, by decide⟩
theorem ex_encode {A : Option Addr} {c : Nat} {w : World} (h : RdT w A 2 c exT) :
    Calls Try.prog 22 #[.slice A 2 c] w fun e w' => ∃ A' n' c', e = .returned (.tuple #[.agg #[.slice A' n' c', .int .i64 12], .agg #[.int .i64 0, .int .i64 0]]) ∧ Rd w' A' n' c' (bcells (pack (codeOf exT))) ∧ Below w.heap.size w w' := by
  refine (lzenc_ok h (by decide) (AllTok.of _ fun t ht => (exT_ok t ht).1) (fun t ht => (exT_ok t ht).2)).mono ?_
  rintro e w' ⟨A', n', c', rfl, ho, hb⟩
  have e1 : (codeOf exT).length = 12 := by decide
  rw [e1]
  exact ⟨A', n', c', rfl, Rd.own ho, hb⟩
theorem ex_decode {A : Option Addr} {n c : Nat} {w : World} (h : Rd w A n c (bcells (pack (codeOf exT)))) :
    Calls Try.prog 27 #[.agg #[.slice A n c, .int .i64 12], .int .i64 4] w fun e w' => ∃ A' c', e = .returned (.tuple #[.slice A' 2 c', .int .i64 12, .agg #[.int .i64 0, .int .i64 0]]) ∧ RdT w' A' 2 c' exT ∧ Below w.heap.size w w' := by
  have e1 : (codeOf exT).length = 12 := by decide
  have hD := dec_code exT [] [] exT_ok
  rw [List.nil_append, List.append_nil, e1] at hD
  have := lzdec_ok (count := 4) h (codeOf_01 _) (by rw [e1]; decide) (by decide) hD
  rw [e1] at this
  refine this.mono ?_
  rintro e w' ⟨A', m, c', rfl, ho, hb⟩
  rw [if_pos rfl] at ho
  have hm := ho.1
  obtain rfl : m = 2 := by
    have : (tcells exT).length = 6 := rfl
    omega
  exact ⟨A', c', rfl, RdT.own ho, hb⟩
theorem ex_same {A : Option Addr} {n c : Nat} {A2 : Option Addr} {n2 c2 : Nat} {d : List Nat} {w : World} (h : Rd w A n c (bcells d)) (h2 : Rd w A2 n2 c2 (bcells d)) (hd : ∀ k, d.getD k 0 < 256) :
    Calls Try.prog 20 #[.slice A n c, .slice A2 n2 c2] w fun e w' => e = .returned (.bool true) ∧ w = w' := by
  have := samebytes_any A n c d A2 n2 c2 d w h h2 hd hd
  rwa [decide_eq_true rfl] at this
theorem ex_toks {A : Option Addr} {n c : Nat} {A2 : Option Addr} {n2 c2 : Nat} {ts : List Tok} {w : World} (h : RdT w A n c ts) (h2 : RdT w A2 n2 c2 ts) :
    Calls Try.prog 14 #[.slice A n c, .slice A2 n2 c2] w fun e w' => e = .returned (.bool true) ∧ Below w.heap.size w w' := tokens_any h h2 true ⟨fun _ => rfl, fun _ => rfl⟩
theorem ex_valid (w : World) : Calls Try.prog 18 #[.agg #[.int .i64 1, .int .i64 2, .int .u8 0]] w fun e w' => e = .returned (.bool false) ∧ Below w.heap.size w w' :=
  lzvalid_any 1 2 0 false ⟨(fun h => by cases h), fun h => by rcases h with ⟨h, _⟩ | ⟨_, _, _, h, _⟩ <;> omega⟩ w
set_option maxRecDepth 100000 in
set_option maxHeartbeats 3200000 in
theorem matches_true (w : World) :
    Calls Try.prog 13 #[] w fun e w' => e = .returned (.bool true) ∧ Below w.heap.size w w' := by
  have kc := run_conv_g
  have Z0 := Below.refl w.heap.size w
  go_enter Try.func13, Try.ntmps13
  have D_1 := (show Rd ((w).alloc (.cells #[.int .u8 97, .int .u8 97, .int .u8 97, .int .u8 97] 5 (4, 5))) (some ⟨w.heap.size, 0, none⟩) 4 4 (bcells [97, 97, 97, 97]) from Rd.litG (w) (by simp) 5 #[.int .u8 97, .int .u8 97, .int .u8 97, .int .u8 97] (4, 5) 4 rfl (by decide))
  have Z1 := Z0.alloc Z0.size (.cells #[.int .u8 97, .int .u8 97, .int .u8 97, .int .u8 97] 5 (4, 5))
  go_wp2_with fail
  refine (ex_parse D_1).mono ?_
  rintro e w2 ⟨A1, c1, rfl, P1, y2⟩
  have P_2 := (P1).alloc (.cells #[.int .i64 0, .int .i64 0] 25)
  have F_2 := (Two.new w2 25 (.int .i64 0) (.int .i64 0))
  clear D_1
  have z2 := Z1.trans (y2.mono Z1.size)
  have Z2 := (z2).alloc (by have := z2.size; omega) (.cells #[.int .i64 0, .int .i64 0] 25)
  have F_2_c0 := F_2.c0
  have F_2_c1 := F_2.c1
  have P_3 := P_2.alloc (.cells #[.int .i64 3, .int .i64 4, .int .u8 0] 37)
  have F_3 := F_2.alloc (.cells #[.int .i64 3, .int .i64 4, .int .u8 0] 37)
  have T_3 := (show RdT (((w2).alloc (.cells #[.int .i64 0, .int .i64 0] 25)).alloc (.cells #[.int .i64 3, .int .i64 4, .int .u8 0] 37)) (some ⟨w2.heap.size + 1, 0, none⟩) 1 1 [⟨3, 4, 0⟩] from RdT.litG ((w2).alloc (.cells #[.int .i64 0, .int .i64 0] 25)) (by simp) 37 [⟨3, 4, 0⟩] 1 rfl (by decide))
  have Z3 := Z2.alloc Z2.size (.cells #[.int .i64 3, .int .i64 4, .int .u8 0] 37)
  have F_3_c0 := F_3.c0
  have F_3_c1 := F_3.c1
  have P_4 := P_3.alloc (.cells #[.int .u8 97, .int .u8 98, .int .u8 99] 5 (3, 4))
  have F_4 := F_3.alloc (.cells #[.int .u8 97, .int .u8 98, .int .u8 99] 5 (3, 4))
  have T_4 := T_3.alloc (.cells #[.int .u8 97, .int .u8 98, .int .u8 99] 5 (3, 4))
  have E_4 := (show Rd ((((w2).alloc (.cells #[.int .i64 0, .int .i64 0] 25)).alloc (.cells #[.int .i64 3, .int .i64 4, .int .u8 0] 37)).alloc (.cells #[.int .u8 97, .int .u8 98, .int .u8 99] 5 (3, 4))) (some ⟨w2.heap.size + 1 + 1, 0, none⟩) 3 3 (bcells [97, 98, 99]) from Rd.litG (((w2).alloc (.cells #[.int .i64 0, .int .i64 0] 25)).alloc (.cells #[.int .i64 3, .int .i64 4, .int .u8 0] 37)) (by simp) 5 #[.int .u8 97, .int .u8 98, .int .u8 99] (3, 4) 3 rfl (by decide))
  have Z4 := Z3.alloc Z3.size (.cells #[.int .u8 97, .int .u8 98, .int .u8 99] 5 (3, 4))
  have F_4_c0 := F_4.c0
  have F_4_c1 := F_4.c1
  go_wp2_with fail
  refine (ex_expand T_4 E_4).mono ?_
  rintro e w5 ⟨A2, c2, rfl, Q1, y5⟩
  have P_5 := (P_4.on y5).alloc (.cells #[.int .i64 0, .int .i64 0] 25)
  have F_5 := (F_4.on y5).alloc (.cells #[.int .i64 0, .int .i64 0] 25)
  have Q_5 := (Q1).alloc (.cells #[.int .i64 0, .int .i64 0] 25)
  have G_5 := (Two.new w5 25 (.int .i64 0) (.int .i64 0))
  clear P_2 F_2 F_2_c0 F_2_c1 P_3 F_3 F_3_c0 F_3_c1 T_3 P_4 F_4 F_4_c0 F_4_c1 T_4 E_4
  have z5 := Z4.trans (y5.mono Z4.size)
  have Z5 := (z5).alloc (by have := z5.size; omega) (.cells #[.int .i64 0, .int .i64 0] 25)
  have F_5_c0 := F_5.c0
  have F_5_c1 := F_5.c1
  have G_5_c0 := G_5.c0
  have G_5_c1 := G_5.c1
  have P_6 := P_5.alloc (.cells #[.int .i64 2, .int .i64 5, .int .u8 0] 37)
  have F_6 := F_5.alloc (.cells #[.int .i64 2, .int .i64 5, .int .u8 0] 37)
  have Q_6 := Q_5.alloc (.cells #[.int .i64 2, .int .i64 5, .int .u8 0] 37)
  have G_6 := G_5.alloc (.cells #[.int .i64 2, .int .i64 5, .int .u8 0] 37)
  have U_6 := (show RdT (((w5).alloc (.cells #[.int .i64 0, .int .i64 0] 25)).alloc (.cells #[.int .i64 2, .int .i64 5, .int .u8 0] 37)) (some ⟨w5.heap.size + 1, 0, none⟩) 1 1 [⟨2, 5, 0⟩] from RdT.litG ((w5).alloc (.cells #[.int .i64 0, .int .i64 0] 25)) (by simp) 37 [⟨2, 5, 0⟩] 1 rfl (by decide))
  have Z6 := Z5.alloc Z5.size (.cells #[.int .i64 2, .int .i64 5, .int .u8 0] 37)
  have F_6_c0 := F_6.c0
  have F_6_c1 := F_6.c1
  have G_6_c0 := G_6.c0
  have G_6_c1 := G_6.c1
  go_wp2_with fail
  refine (ex_cost U_6).mono ?_
  rintro e w7 ⟨rfl, y7⟩
  have P_7 := (P_6.on y7).alloc (.cells #[.int .i64 0, .int .i64 0] 25)
  have F_7 := (F_6.on y7).alloc (.cells #[.int .i64 0, .int .i64 0] 25)
  have Q_7 := (Q_6.on y7).alloc (.cells #[.int .i64 0, .int .i64 0] 25)
  have G_7 := (G_6.on y7).alloc (.cells #[.int .i64 0, .int .i64 0] 25)
  have H_7 := (Two.new w7 25 (.int .i64 0) (.int .i64 0))
  clear P_5 F_5 F_5_c0 F_5_c1 Q_5 G_5 G_5_c0 G_5_c1 P_6 F_6 F_6_c0 F_6_c1 Q_6 G_6 G_6_c0 G_6_c1 U_6
  have z7 := Z6.trans (y7.mono Z6.size)
  have Z7 := (z7).alloc (by have := z7.size; omega) (.cells #[.int .i64 0, .int .i64 0] 25)
  have F_7_c0 := F_7.c0
  have F_7_c1 := F_7.c1
  have G_7_c0 := G_7.c0
  have G_7_c1 := G_7.c1
  have H_7_c0 := H_7.c0
  have H_7_c1 := H_7.c1
  go_wp2_with fail
  refine (ex_encode P_7).mono ?_
  rintro e w8 ⟨A3, n3, c3, rfl, C1, y8⟩
  have P_8 := ((P_7.on y8).alloc (.cells #[.slice A3 n3 c3, .int .i64 12] 43)).alloc (.cells #[.int .i64 0, .int .i64 0] 25)
  have F_8 := ((F_7.on y8).alloc (.cells #[.slice A3 n3 c3, .int .i64 12] 43)).alloc (.cells #[.int .i64 0, .int .i64 0] 25)
  have Q_8 := ((Q_7.on y8).alloc (.cells #[.slice A3 n3 c3, .int .i64 12] 43)).alloc (.cells #[.int .i64 0, .int .i64 0] 25)
  have G_8 := ((G_7.on y8).alloc (.cells #[.slice A3 n3 c3, .int .i64 12] 43)).alloc (.cells #[.int .i64 0, .int .i64 0] 25)
  have H_8 := ((H_7.on y8).alloc (.cells #[.slice A3 n3 c3, .int .i64 12] 43)).alloc (.cells #[.int .i64 0, .int .i64 0] 25)
  have C_8 := ((C1).alloc (.cells #[.slice A3 n3 c3, .int .i64 12] 43)).alloc (.cells #[.int .i64 0, .int .i64 0] 25)
  have B_8 := ((Two.new w8 43 (.slice A3 n3 c3) (.int .i64 12))).alloc (.cells #[.int .i64 0, .int .i64 0] 25)
  have I_8 := (Two.new1 w8 (.cells #[.slice A3 n3 c3, .int .i64 12] 43) 25 (.int .i64 0) (.int .i64 0))
  clear P_7 F_7 F_7_c0 F_7_c1 Q_7 G_7 G_7_c0 G_7_c1 H_7 H_7_c0 H_7_c1
  have z8 := Z7.trans (y8.mono Z7.size)
  have Z8 := ((z8).alloc (by have := z8.size; omega) (.cells #[.slice A3 n3 c3, .int .i64 12] 43)).alloc (by have := z8.size; simp; omega) (.cells #[.int .i64 0, .int .i64 0] 25)
  have F_8_c0 := F_8.c0
  have F_8_c1 := F_8.c1
  have G_8_c0 := G_8.c0
  have G_8_c1 := G_8.c1
  have H_8_c0 := H_8.c0
  have H_8_c1 := H_8.c1
  have B_8_c0 := B_8.c0
  have B_8_c1 := B_8.c1
  have I_8_c0 := I_8.c0
  have I_8_c1 := I_8.c1
  go_wp2_with fail
  refine (ex_decode C_8).mono ?_
  rintro e w9 ⟨A4, c4, rfl, M1, y9⟩
  have P_9 := (P_8.on y9).alloc (.cells #[.int .i64 0, .int .i64 0] 25)
  have F_9 := (F_8.on y9).alloc (.cells #[.int .i64 0, .int .i64 0] 25)
  have Q_9 := (Q_8.on y9).alloc (.cells #[.int .i64 0, .int .i64 0] 25)
  have G_9 := (G_8.on y9).alloc (.cells #[.int .i64 0, .int .i64 0] 25)
  have H_9 := (H_8.on y9).alloc (.cells #[.int .i64 0, .int .i64 0] 25)
  have C_9 := (C_8.on y9).alloc (.cells #[.int .i64 0, .int .i64 0] 25)
  have B_9 := (B_8.on y9).alloc (.cells #[.int .i64 0, .int .i64 0] 25)
  have I_9 := (I_8.on y9).alloc (.cells #[.int .i64 0, .int .i64 0] 25)
  have M_9 := (M1).alloc (.cells #[.int .i64 0, .int .i64 0] 25)
  have J_9 := (Two.new w9 25 (.int .i64 0) (.int .i64 0))
  clear P_8 F_8 F_8_c0 F_8_c1 Q_8 G_8 G_8_c0 G_8_c1 H_8 H_8_c0 H_8_c1 C_8 B_8 B_8_c0 B_8_c1 I_8 I_8_c0 I_8_c1
  have z9 := Z8.trans (y9.mono Z8.size)
  have Z9 := (z9).alloc (by have := z9.size; omega) (.cells #[.int .i64 0, .int .i64 0] 25)
  have F_9_c0 := F_9.c0
  have F_9_c1 := F_9.c1
  have G_9_c0 := G_9.c0
  have G_9_c1 := G_9.c1
  have H_9_c0 := H_9.c0
  have H_9_c1 := H_9.c1
  have B_9_c0 := B_9.c0
  have B_9_c1 := B_9.c1
  have I_9_c0 := I_9.c0
  have I_9_c1 := I_9.c1
  have J_9_c0 := J_9.c0
  have J_9_c1 := J_9.c1
  have P_10 := P_9.alloc (.cells #[.int .i64 0, .int .i64 0, .int .u8 97, .int .i64 1, .int .i64 3, .int .u8 0] 37)
  have F_10 := F_9.alloc (.cells #[.int .i64 0, .int .i64 0, .int .u8 97, .int .i64 1, .int .i64 3, .int .u8 0] 37)
  have Q_10 := Q_9.alloc (.cells #[.int .i64 0, .int .i64 0, .int .u8 97, .int .i64 1, .int .i64 3, .int .u8 0] 37)
  have G_10 := G_9.alloc (.cells #[.int .i64 0, .int .i64 0, .int .u8 97, .int .i64 1, .int .i64 3, .int .u8 0] 37)
  have H_10 := H_9.alloc (.cells #[.int .i64 0, .int .i64 0, .int .u8 97, .int .i64 1, .int .i64 3, .int .u8 0] 37)
  have C_10 := C_9.alloc (.cells #[.int .i64 0, .int .i64 0, .int .u8 97, .int .i64 1, .int .i64 3, .int .u8 0] 37)
  have B_10 := B_9.alloc (.cells #[.int .i64 0, .int .i64 0, .int .u8 97, .int .i64 1, .int .i64 3, .int .u8 0] 37)
  have I_10 := I_9.alloc (.cells #[.int .i64 0, .int .i64 0, .int .u8 97, .int .i64 1, .int .i64 3, .int .u8 0] 37)
  have M_10 := M_9.alloc (.cells #[.int .i64 0, .int .i64 0, .int .u8 97, .int .i64 1, .int .i64 3, .int .u8 0] 37)
  have J_10 := J_9.alloc (.cells #[.int .i64 0, .int .i64 0, .int .u8 97, .int .i64 1, .int .i64 3, .int .u8 0] 37)
  have X_10 := (show RdT (((w9).alloc (.cells #[.int .i64 0, .int .i64 0] 25)).alloc (.cells #[.int .i64 0, .int .i64 0, .int .u8 97, .int .i64 1, .int .i64 3, .int .u8 0] 37)) (some ⟨w9.heap.size + 1, 0, none⟩) 2 2 [⟨0, 0, 97⟩, ⟨1, 3, 0⟩] from RdT.litG ((w9).alloc (.cells #[.int .i64 0, .int .i64 0] 25)) (by simp) 37 [⟨0, 0, 97⟩, ⟨1, 3, 0⟩] 2 rfl (by decide))
  have Z10 := Z9.alloc Z9.size (.cells #[.int .i64 0, .int .i64 0, .int .u8 97, .int .i64 1, .int .i64 3, .int .u8 0] 37)
  have F_10_c0 := F_10.c0
  have F_10_c1 := F_10.c1
  have G_10_c0 := G_10.c0
  have G_10_c1 := G_10.c1
  have H_10_c0 := H_10.c0
  have H_10_c1 := H_10.c1
  have B_10_c0 := B_10.c0
  have B_10_c1 := B_10.c1
  have I_10_c0 := I_10.c0
  have I_10_c1 := I_10.c1
  have J_10_c0 := J_10.c0
  have J_10_c1 := J_10.c1
  go_wp2_with fail
  refine (ex_toks P_10 X_10).mono ?_
  rintro e w11 ⟨rfl, y11⟩
  have P_11 := P_10.on y11
  have F_11 := F_10.on y11
  have Q_11 := Q_10.on y11
  have G_11 := G_10.on y11
  have H_11 := H_10.on y11
  have C_11 := C_10.on y11
  have B_11 := B_10.on y11
  have I_11 := I_10.on y11
  have M_11 := M_10.on y11
  have J_11 := J_10.on y11
  have X_11 := X_10.on y11
  clear P_9 F_9 F_9_c0 F_9_c1 Q_9 G_9 G_9_c0 G_9_c1 H_9 H_9_c0 H_9_c1 C_9 B_9 B_9_c0 B_9_c1 I_9 I_9_c0 I_9_c1 M_9 J_9 J_9_c0 J_9_c1 P_10 F_10 F_10_c0 F_10_c1 Q_10 G_10 G_10_c0 G_10_c1 H_10 H_10_c0 H_10_c1 C_10 B_10 B_10_c0 B_10_c1 I_10 I_10_c0 I_10_c1 M_10 J_10 J_10_c0 J_10_c1 X_10
  have z11 := Z10.trans (y11.mono Z10.size)
  have Z11 := z11
  have F_11_c0 := F_11.c0
  have F_11_c1 := F_11.c1
  have G_11_c0 := G_11.c0
  have G_11_c1 := G_11.c1
  have H_11_c0 := H_11.c0
  have H_11_c1 := H_11.c1
  have B_11_c0 := B_11.c0
  have B_11_c1 := B_11.c1
  have I_11_c0 := I_11.c0
  have I_11_c1 := I_11.c1
  have J_11_c0 := J_11.c0
  have J_11_c1 := J_11.c1
  have P_12 := P_11.alloc (.cells #[.int .u8 97, .int .u8 98, .int .u8 99, .int .u8 97] 5 (4, 5))
  have F_12 := F_11.alloc (.cells #[.int .u8 97, .int .u8 98, .int .u8 99, .int .u8 97] 5 (4, 5))
  have Q_12 := Q_11.alloc (.cells #[.int .u8 97, .int .u8 98, .int .u8 99, .int .u8 97] 5 (4, 5))
  have G_12 := G_11.alloc (.cells #[.int .u8 97, .int .u8 98, .int .u8 99, .int .u8 97] 5 (4, 5))
  have H_12 := H_11.alloc (.cells #[.int .u8 97, .int .u8 98, .int .u8 99, .int .u8 97] 5 (4, 5))
  have C_12 := C_11.alloc (.cells #[.int .u8 97, .int .u8 98, .int .u8 99, .int .u8 97] 5 (4, 5))
  have B_12 := B_11.alloc (.cells #[.int .u8 97, .int .u8 98, .int .u8 99, .int .u8 97] 5 (4, 5))
  have I_12 := I_11.alloc (.cells #[.int .u8 97, .int .u8 98, .int .u8 99, .int .u8 97] 5 (4, 5))
  have M_12 := M_11.alloc (.cells #[.int .u8 97, .int .u8 98, .int .u8 99, .int .u8 97] 5 (4, 5))
  have J_12 := J_11.alloc (.cells #[.int .u8 97, .int .u8 98, .int .u8 99, .int .u8 97] 5 (4, 5))
  have X_12 := X_11.alloc (.cells #[.int .u8 97, .int .u8 98, .int .u8 99, .int .u8 97] 5 (4, 5))
  have Y_12 := (show Rd (w11.alloc (.cells #[.int .u8 97, .int .u8 98, .int .u8 99, .int .u8 97] 5 (4, 5))) (some ⟨w11.heap.size, 0, none⟩) 4 4 (bcells [97, 98, 99, 97]) from Rd.litG w11 (by simp) 5 #[.int .u8 97, .int .u8 98, .int .u8 99, .int .u8 97] (4, 5) 4 rfl (by decide))
  have Z12 := Z11.alloc Z11.size (.cells #[.int .u8 97, .int .u8 98, .int .u8 99, .int .u8 97] 5 (4, 5))
  have F_12_c0 := F_12.c0
  have F_12_c1 := F_12.c1
  have G_12_c0 := G_12.c0
  have G_12_c1 := G_12.c1
  have H_12_c0 := H_12.c0
  have H_12_c1 := H_12.c1
  have B_12_c0 := B_12.c0
  have B_12_c1 := B_12.c1
  have I_12_c0 := I_12.c0
  have I_12_c1 := I_12.c1
  have J_12_c0 := J_12.c0
  have J_12_c1 := J_12.c1
  go_wp2_with fail
  refine (ex_same Q_12 Y_12 (by intro k; rcases k with _ | _ | _ | _ | k <;> simp)).mono ?_
  rintro e w9_1 ⟨rfl, rfl⟩
  go_wp2_with fail
  refine (ex_toks M_12 X_12).mono ?_
  rintro e w13 ⟨rfl, y13⟩
  have P_13 := P_12.on y13
  have F_13 := F_12.on y13
  have Q_13 := Q_12.on y13
  have G_13 := G_12.on y13
  have H_13 := H_12.on y13
  have C_13 := C_12.on y13
  have B_13 := B_12.on y13
  have I_13 := I_12.on y13
  have M_13 := M_12.on y13
  have J_13 := J_12.on y13
  have X_13 := X_12.on y13
  have Y_13 := Y_12.on y13
  clear P_11 F_11 F_11_c0 F_11_c1 Q_11 G_11 G_11_c0 G_11_c1 H_11 H_11_c0 H_11_c1 C_11 B_11 B_11_c0 B_11_c1 I_11 I_11_c0 I_11_c1 M_11 J_11 J_11_c0 J_11_c1 X_11 P_12 F_12 F_12_c0 F_12_c1 Q_12 G_12 G_12_c0 G_12_c1 H_12 H_12_c0 H_12_c1 C_12 B_12 B_12_c0 B_12_c1 I_12 I_12_c0 I_12_c1 M_12 J_12 J_12_c0 J_12_c1 X_12 Y_12
  have z13 := Z12.trans (y13.mono Z12.size)
  have Z13 := z13
  have F_13_c0 := F_13.c0
  have F_13_c1 := F_13.c1
  have G_13_c0 := G_13.c0
  have G_13_c1 := G_13.c1
  have H_13_c0 := H_13.c0
  have H_13_c1 := H_13.c1
  have B_13_c0 := B_13.c0
  have B_13_c1 := B_13.c1
  have I_13_c0 := I_13.c0
  have I_13_c1 := I_13.c1
  have J_13_c0 := J_13.c0
  have J_13_c1 := J_13.c1
  go_wp2_with fail
  refine (ex_valid _).mono ?_
  rintro e w14 ⟨rfl, y14⟩
  have P_14 := P_13.on y14
  have F_14 := F_13.on y14
  have Q_14 := Q_13.on y14
  have G_14 := G_13.on y14
  have H_14 := H_13.on y14
  have C_14 := C_13.on y14
  have B_14 := B_13.on y14
  have I_14 := I_13.on y14
  have M_14 := M_13.on y14
  have J_14 := J_13.on y14
  have X_14 := X_13.on y14
  have Y_14 := Y_13.on y14
  clear P_13 F_13 F_13_c0 F_13_c1 Q_13 G_13 G_13_c0 G_13_c1 H_13 H_13_c0 H_13_c1 C_13 B_13 B_13_c0 B_13_c1 I_13 I_13_c0 I_13_c1 M_13 J_13 J_13_c0 J_13_c1 X_13 Y_13
  have z14 := Z13.trans (y14.mono Z13.size)
  have Z14 := z14
  have F_14_c0 := F_14.c0
  have F_14_c1 := F_14.c1
  have G_14_c0 := G_14.c0
  have G_14_c1 := G_14.c1
  have H_14_c0 := H_14.c0
  have H_14_c1 := H_14.c1
  have B_14_c0 := B_14.c0
  have B_14_c1 := B_14.c1
  have I_14_c0 := I_14.c0
  have I_14_c1 := I_14.c1
  have J_14_c0 := J_14.c0
  have J_14_c1 := J_14.c1
  go_wp2
  go_ret
  exact ⟨rfl, Z14⟩
end PB
end Go.Proofs.Ytlhglomhfbbinaa
