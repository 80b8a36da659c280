/-
  lz.next: the token at a position of a code.
-/
import Derived.Test.YtlhglomhfbbinaaLzEncode
import Derived.Test.YtlhglomhfbbinaaBitsRef4
namespace Go.Proofs.Ytlhglomhfbbinaa
open Go.RowKit
attribute [local go_sem ↓] Go.wp_at_zero Go.wp_at_succ
set_option linter.unusedVariables false
set_option linter.unusedSimpArgs false
namespace PB
/-- The token at a position can't be read: the code of the fault. -/
def NBad (l : List Nat) (p mis c : Nat) : Prop :=
  (l.length ≤ p ∧ c = 15) ∨ (p < l.length ∧ l.getD p 0 = 0 ∧ l.length < p + 9 ∧ c = 15) ∨
  (p < l.length ∧ l.getD p 0 = 1 ∧ ((∃ cd, GAt l (p + 1) 0 0 cd ∧ cd ≠ 0 ∧ c = cd) ∨ (∃ d e, GAt l (p + 1) d e 0 ∧ 1536 < d ∧ c = 16) ∨
    (∃ d e cd, GAt l (p + 1) d e 0 ∧ d ≤ 1536 ∧ GAt l e 0 0 cd ∧ cd ≠ 0 ∧ c = cd) ∨ (∃ d e n e2, GAt l (p + 1) d e 0 ∧ d ≤ 1536 ∧ GAt l e n e2 0 ∧ mis < n + 2 ∧ c = 16)))
/-- The token at a position, and the position behind it. -/
def NOk (l : List Nat) (p mis : Nat) (t : Tok) (e : Nat) : Prop :=
  (p < l.length ∧ l.getD p 0 = 0 ∧ p + 9 ≤ l.length ∧ t = ⟨0, 0, num ((l.drop (p + 1)).take 8)⟩ ∧ e = p + 9) ∨
  (p < l.length ∧ l.getD p 0 = 1 ∧ ∃ d e1 n, GAt l (p + 1) d e1 0 ∧ d ≤ 1536 ∧ GAt l e1 n e 0 ∧ n + 2 ≤ mis ∧ t = ⟨(d : Nat), ((n + 2 : Nat) : Int), 0⟩)
theorem gat_end {l : List Nat} {f v e : Nat} (h : GAt l f v e 0) : e ≤ l.length ∧ f < e := by
  rcases h with ⟨_, _, _, h3⟩ | ⟨_, _, _, _, h3⟩ | ⟨h1, h2, _, rfl, _⟩
  · cases h3
  · cases h3
  · exact ⟨h2, by omega⟩
theorem gat_val {l : List Nat} {f v e c : Nat} (h01 : Is01 l) (h : GAt l f v e c) : v < 2147483648 := by
  rcases h with ⟨_, rfl, _⟩ | ⟨_, _, rfl, _⟩ | ⟨h1, _, rfl, _⟩
  · decide
  · decide
  · have a := num_lt ((h01.drop (f + zr l f)).take (zr l f + 1))
    have b : 2 ^ ((l.drop (f + zr l f)).take (zr l f + 1)).length ≤ 2 ^ 31 := Nat.pow_le_pow_right (by decide) (by rw [List.length_take]; omega)
    omega
theorem gat_pos {l : List Nat} {f v e : Nat} (h01 : Is01 l) (h : GAt l f v e 0) : 1 ≤ v := by
  rcases h with ⟨_, _, _, h3⟩ | ⟨_, _, _, _, h3⟩ | ⟨h1, h2, rfl, _, _⟩
  · cases h3
  · cases h3
  · have hz := zr_stop l f (by omega)
    have h1 := h01 (f + zr l f)
    have hd : (l.drop (f + zr l f)).take (zr l f + 1) = l.getD (f + zr l f) 0 :: (l.drop (f + zr l f + 1)).take (zr l f) := by
      rw [List.drop_eq_getElem_cons (by omega), List.take_succ_cons, getD_lt (by omega)]
    rw [hd]
    have e1 : l.getD (f + zr l f) 0 = 1 := by omega
    rw [e1, num_cons]
    have := Nat.two_pow_pos ((l.drop (f + zr l f + 1)).take (zr l f)).length
    omega
theorem next_ex {l : List Nat} (h01 : Is01 l) (p mis : Nat) (hp : p ≤ l.length) : (∃ c, NBad l p mis c) ∨ ∃ t e, NOk l p mis t e := by
  rcases Nat.lt_or_ge p l.length with h1 | h1
  · rcases (by have := h01 p; omega : l.getD p 0 = 0 ∨ l.getD p 0 = 1) with h2 | h2
    · rcases Nat.lt_or_ge l.length (p + 9) with h3 | h3
      · exact .inl ⟨15, .inr (.inl ⟨h1, h2, h3, rfl⟩)⟩
      · exact .inr ⟨_, _, .inl ⟨h1, h2, h3, rfl, rfl⟩⟩
    · obtain ⟨d, e, c, hg⟩ := gat_ex l (p + 1)
      by_cases hc : c = 0
      · subst hc
        by_cases hd : d ≤ 1536
        · obtain ⟨n, e2, c2, hg2⟩ := gat_ex l e
          by_cases hc2 : c2 = 0
          · subst hc2
            by_cases hm : n + 2 ≤ mis
            · exact .inr ⟨_, e2, .inr ⟨h1, h2, d, e, n, hg, hd, hg2, hm, rfl⟩⟩
            · exact .inl ⟨16, .inr (.inr ⟨h1, h2, .inr (.inr (.inr ⟨d, e, n, e2, hg, hd, hg2, by omega, rfl⟩))⟩)⟩
          · have hz : GAt l e 0 0 c2 := by
              rcases hg2 with ⟨a, rfl, rfl, b⟩ | ⟨a, b, rfl, rfl, c⟩ | ⟨_, _, _, _, a⟩
              · exact .inl ⟨a, rfl, rfl, b⟩
              · exact .inr (.inl ⟨a, b, rfl, rfl, c⟩)
              · exact absurd a hc2
            exact .inl ⟨c2, .inr (.inr ⟨h1, h2, .inr (.inr (.inl ⟨d, e, c2, hg, hd, hz, hc2, rfl⟩))⟩)⟩
        · exact .inl ⟨16, .inr (.inr ⟨h1, h2, .inr (.inl ⟨d, e, hg, by omega, rfl⟩)⟩)⟩
      · have hz : GAt l (p + 1) 0 0 c := by
          rcases hg with ⟨a, rfl, rfl, b⟩ | ⟨a, b, rfl, rfl, c⟩ | ⟨_, _, _, _, a⟩
          · exact .inl ⟨a, rfl, rfl, b⟩
          · exact .inr (.inl ⟨a, b, rfl, rfl, c⟩)
          · exact absurd a hc
        exact .inl ⟨c, .inr (.inr ⟨h1, h2, .inl ⟨c, hz, hc, rfl⟩⟩)⟩
  · exact .inl ⟨15, .inl ⟨h1, rfl⟩⟩
theorem num_one {l : List Nat} {p : Nat} (h : p < l.length) : num ((l.drop p).take 1) = l.getD p 0 := by
  rw [List.drop_eq_getElem_cons h, List.take_succ_cons, List.take_zero, getD_lt h]
  simp [num]
theorem rd_ok {A : Option Addr} {n c : Nat} {l : List Nat} {f m : Nat} {fi mi : Int} {w : World} (h : Rd w A n c (bcells (pack l))) (h01 : Is01 l) (hl : l.length ≤ 131072) (hm : m ≤ 32) (hf : f + m ≤ l.length) (hfi : fi = (f : Nat)) (hmi : mi = (m : Nat)) (v : Nat) (hv : v = num ((l.drop f).take m)) :
    Calls Try.prog 59 #[.agg #[.slice A n c, .int .i64 l.length], .int .i64 fi, .int .i64 mi] w fun e w' => e = .returned (.tuple #[.int .i64 (v : Nat), .agg #[.int .i64 0, .int .i64 0]]) ∧ Below w.heap.size w w' := by
  subst hfi hmi hv
  exact read_ok A n c l f m _ w h (Nat.le_refl _) h01 hl hm hf
theorem Rd.keepBox {w : World} {A : Option Addr} {n c g : Nat} {xs : List Value} (h : Rd w A n c xs) (hA : ∀ b off, A = some ⟨b, off, none⟩ → 0 < n → b < g) (u0 u1 : Value) : Rd ((w.setCell ⟨g, 0, none⟩ u0).setCell ⟨g, 1, none⟩ u1) A n c xs := by
  obtain ⟨h1, h2, h3, h4⟩ := h
  refine ⟨h1, h2, h3, fun hn => ?_⟩
  obtain ⟨b, off, e, hb, hc⟩ := h4 hn
  have hlt := hA b off e hn
  refine ⟨b, off, e, by simpa [World.setCell] using hb, fun j u hu => ?_⟩
  rw [World.cell?_setCell_other _ _ _ _ (fun e => by injection e with e; omega), World.cell?_setCell_other _ _ _ _ (fun e => by injection e with e; omega)]
  exact hc j u hu
theorem rg2_bad {A : Option Addr} {n c : Nat} {l : List Nat} {f cd : Nat} {fi : Int} {w : World} (h : Rd w A n c (bcells (pack l))) (h01 : Is01 l) (hl : l.length ≤ 131072) (hf : f ≤ l.length) (hG : GAt l f 0 0 cd) (hc : cd ≠ 0) (hfi : fi = (f : Nat)) :
    Calls Try.prog 60 #[.agg #[.slice A n c, .int .i64 l.length], .int .i64 fi] w fun e w' => e = .returned (.tuple #[.int .i64 0, .int .i64 0, .agg #[.int .i64 (cd : Nat), .int .i64 (-2)]]) ∧ Below w.heap.size w w' := by
  subst hfi
  exact rg_bad h h01 hl hf hG hc
theorem rg2_ok {A : Option Addr} {n c : Nat} {l : List Nat} {f v e1 : Nat} {fi : Int} {w : World} (h : Rd w A n c (bcells (pack l))) (h01 : Is01 l) (hl : l.length ≤ 131072) (hf : f ≤ l.length) (hG : GAt l f v e1 0) (hfi : fi = (f : Nat)) :
    Calls Try.prog 60 #[.agg #[.slice A n c, .int .i64 l.length], .int .i64 fi] w fun e w' => e = .returned (.tuple #[.int .i64 (v : Nat), .int .i64 (e1 : Nat), .agg #[.int .i64 0, .int .i64 0]]) ∧ Below w.heap.size w w' := by
  subst hfi
  exact rg_ok h h01 hl hf hG
theorem rd_short {A : Option Addr} {n c : Nat} {l : List Nat} {f m : Nat} {fi mi : Int} {w : World} (h : Rd w A n c (bcells (pack l))) (h01 : Is01 l) (hl : l.length ≤ 131072) (hm : m ≤ 32) (hf1 : f ≤ l.length) (hf : l.length < f + m) (hfi : fi = (f : Nat)) (hmi : mi = (m : Nat)) :
    Calls Try.prog 59 #[.agg #[.slice A n c, .int .i64 l.length], .int .i64 fi, .int .i64 mi] w fun e w' => e = .returned (.tuple #[.int .i64 0, .agg #[.int .i64 15, .int .i64 (-2)]]) ∧ Below w.heap.size w w' := by
  subst hfi hmi
  exact read_short A n c l f m _ w h (Nat.le_refl _) h01 hl (by omega) (by omega) (by omega) (by omega) (by omega)
set_option maxRecDepth 100000 in
set_option maxHeartbeats 1600000 in
theorem next_none {A : Option Addr} {n c : Nat} {l : List Nat} {p mis : Nat} (hp1 : p ≤ l.length) (hp : l.length ≤ p) {w : World} (h : Rd w A n c (bcells (pack l))) (h01 : Is01 l) (hl : l.length ≤ 131072) (hmis : mis ≤ 1024) :
    Calls Try.prog 47 #[.agg #[.slice A n c, .int .i64 l.length], .int .i64 (p : Nat), .int .i64 (mis : Nat)] w fun e w' => e = .returned (.tuple #[.agg #[.int .i64 0, .int .i64 0, .int .u8 0], .int .i64 0, .int .i64 15]) ∧ Below w.heap.size w w' := by
  have X0 := (Two.new w 43 (.slice A n c) (.int .i64 l.length)).alloc (.cells #[.int .i64 0, .int .i64 0, .int .u8 0] 37)
  have T0 := Three.new1 w (.cells #[.slice A n c, .int .i64 l.length] 43) 37 (.int .i64 0) (.int .i64 0) (.int .u8 0)
  have y0 : Below w.heap.size w ((w.alloc (.cells #[.slice A n c, .int .i64 l.length] 43)).alloc (.cells #[.int .i64 0, .int .i64 0, .int .u8 0] 37)) := ((Below.refl _ _).alloc (Nat.le_refl _) _).alloc (by simp) _
  have R0 := (h.alloc (.cells #[.slice A n c, .int .i64 l.length] 43)).alloc (.cells #[.int .i64 0, .int .i64 0, .int .u8 0] 37)
  have H01 := Lib.hid h01
  clear h01 h
  go_enter Try.func47, Try.ntmps47
  go_wp2_with fail
  refine (rd_short (f := p) (m := 1) R0 H01.out hl (by decide) hp1 (by omega) rfl rfl).mono ?_
  rintro e w1 ⟨rfl, y1⟩
  have X1 := (X0.on y1).alloc (.cells #[.int .i64 15, .int .i64 (-2)] 25)
  have T1 := (T0.on y1).alloc (.cells #[.int .i64 15, .int .i64 (-2)] 25)
  have R1 := (R0.on y1).alloc (.cells #[.int .i64 15, .int .i64 (-2)] 25)
  have Z1 := y0.trans (y1.mono y0.size)
  have Y1 := Z1.alloc Z1.size (.cells #[.int .i64 15, .int .i64 (-2)] 25)
  have F1 := Two.new w1 25 (.int .i64 15) (.int .i64 (-2))
  have g0 := F1.c0
  have g1 := F1.c1
  have t0 := T1.c0
  have t1 := T1.c1
  have t2 := T1.c2
  have t3 := T1.f0
  have t4 := T1.f1
  have t5 := T1.f2
  have t6 := T1.lt
  go_wp2
  have r0 := (((T1.set0 (.int .i64 0)).set1 (.int .i64 0)).set2 (.int .u8 0)).c0
  have r1 := (((T1.set0 (.int .i64 0)).set1 (.int .i64 0)).set2 (.int .u8 0)).c1
  have r2 := (((T1.set0 (.int .i64 0)).set1 (.int .i64 0)).set2 (.int .u8 0)).c2
  exact bodyPost_ret (v := .tuple #[.agg #[.int .i64 0, .int .i64 0, .int .u8 0], .int .i64 0, .int .i64 15]) (by simp [results, Try.results47, go_sem, r0, r1, r2]) rfl ⟨rfl, (((Y1.setCell (by simp) _).setCell (by simp) _).setCell (by simp) _)⟩
set_option maxRecDepth 100000 in
set_option maxHeartbeats 1600000 in
theorem next_cut {A : Option Addr} {n c : Nat} {l : List Nat} {p mis : Nat} (hp : p < l.length) (hbit : l.getD p 0 = 0) (h9 : l.length < p + 9) {w : World} (h : Rd w A n c (bcells (pack l))) (h01 : Is01 l) (hl : l.length ≤ 131072) (hmis : mis ≤ 1024) :
    Calls Try.prog 47 #[.agg #[.slice A n c, .int .i64 l.length], .int .i64 (p : Nat), .int .i64 (mis : Nat)] w fun e w' => e = .returned (.tuple #[.agg #[.int .i64 0, .int .i64 0, .int .u8 0], .int .i64 ((p : Int) + 9), .int .i64 15]) ∧ Below w.heap.size w w' := by
  have X0 := (Two.new w 43 (.slice A n c) (.int .i64 l.length)).alloc (.cells #[.int .i64 0, .int .i64 0, .int .u8 0] 37)
  have T0 := Three.new1 w (.cells #[.slice A n c, .int .i64 l.length] 43) 37 (.int .i64 0) (.int .i64 0) (.int .u8 0)
  have y0 : Below w.heap.size w ((w.alloc (.cells #[.slice A n c, .int .i64 l.length] 43)).alloc (.cells #[.int .i64 0, .int .i64 0, .int .u8 0] 37)) := ((Below.refl _ _).alloc (Nat.le_refl _) _).alloc (by simp) _
  have R0 := (h.alloc (.cells #[.slice A n c, .int .i64 l.length] 43)).alloc (.cells #[.int .i64 0, .int .i64 0, .int .u8 0] 37)
  have H01 := Lib.hid h01
  clear h01 h
  have HB := Lib.hid hbit
  clear hbit
  go_enter Try.func47, Try.ntmps47
  go_wp2_with fail
  refine (rd_ok (f := p) (m := 1) R0 H01.out hl (by decide) (by omega) rfl rfl 0 (by rw [num_one hp, HB.out])).mono ?_
  rintro e w1 ⟨rfl, y1⟩
  have X1 := (X0.on y1).alloc (.cells #[.int .i64 0, .int .i64 0] 25)
  have T1 := (T0.on y1).alloc (.cells #[.int .i64 0, .int .i64 0] 25)
  have R1 := (R0.on y1).alloc (.cells #[.int .i64 0, .int .i64 0] 25)
  have Z1 := y0.trans (y1.mono y0.size)
  have Y1 := Z1.alloc Z1.size (.cells #[.int .i64 0, .int .i64 0] 25)
  have F1 := Two.new w1 25 (.int .i64 0) (.int .i64 0)
  have g0 := F1.c0
  have g1 := F1.c1
  have x0 := X1.c0
  have x1 := X1.c1
  go_wp2_with fail
  refine (rd_short (f := p + 1) (m := 8) R1 H01.out hl (by decide) (by omega) (by omega) (by omega) rfl).mono ?_
  rintro e w2 ⟨rfl, y2⟩
  have X2 := (X1.on y2).alloc (.cells #[.int .i64 15, .int .i64 (-2)] 25)
  have T2 := (T1.on y2).alloc (.cells #[.int .i64 15, .int .i64 (-2)] 25)
  have R2 := (R1.on y2).alloc (.cells #[.int .i64 15, .int .i64 (-2)] 25)
  have Z2 := Y1.trans (y2.mono Y1.size)
  have Y2 := Z2.alloc Z2.size (.cells #[.int .i64 15, .int .i64 (-2)] 25)
  have F2 := Two.new w2 25 (.int .i64 15) (.int .i64 (-2))
  have j0 := F2.c0
  have j1 := F2.c1
  clear x0 x1 g0 g1
  have t0 := T2.c0
  have t1 := T2.c1
  have t2 := T2.c2
  have t3 := T2.f0
  have t4 := T2.f1
  have t5 := T2.f2
  have t6 := T2.lt
  have e1 : ¬ w2.heap.size = w.heap.size + 1 := by have := T1.lt; have := y2.size; omega
  have e2 : ¬ w.heap.size + 1 = w2.heap.size := fun e => e1 e.symm
  have u0 : IntKind.i64.wrap ((p : Int) + 9) = (p : Int) + 9 := IntWalk.i64_in _ (by omega)
  go_upto_region 6 with (fail)
  go_region
  clear u0
  go_wp2
  have r0 := (((T2.set0 (.int .i64 0)).set1 (.int .i64 0)).set2 (.int .u8 0)).c0
  have r1 := (((T2.set0 (.int .i64 0)).set1 (.int .i64 0)).set2 (.int .u8 0)).c1
  have r2 := (((T2.set0 (.int .i64 0)).set1 (.int .i64 0)).set2 (.int .u8 0)).c2
  exact bodyPost_ret (v := .tuple #[.agg #[.int .i64 0, .int .i64 0, .int .u8 0], .int .i64 ((p : Int) + 9), .int .i64 15]) (by simp [results, Try.results47, go_sem, r0, r1, r2]) rfl ⟨rfl, belowD (((Y2.setCell (by simp) _).setCell (by simp) _).setCell (by simp) _)⟩
set_option maxRecDepth 100000 in
set_option maxHeartbeats 1600000 in
theorem next_lit {A : Option Addr} {n c : Nat} {l : List Nat} {p mis : Nat} (hp : p < l.length) (hbit : l.getD p 0 = 0) (h9 : p + 9 ≤ l.length) (v : Nat) (hv : v = num ((l.drop (p + 1)).take 8)) (hv256 : v < 256) {w : World} (h : Rd w A n c (bcells (pack l))) (h01 : Is01 l) (hl : l.length ≤ 131072) (hmis : mis ≤ 1024) :
    Calls Try.prog 47 #[.agg #[.slice A n c, .int .i64 l.length], .int .i64 (p : Nat), .int .i64 (mis : Nat)] w fun e w' => e = .returned (.tuple #[.agg #[.int .i64 0, .int .i64 0, .int .u8 ((v : Nat) : Int)], .int .i64 ((p : Int) + 9), .int .i64 0]) ∧ Below w.heap.size w w' := by
  have X0 := (Two.new w 43 (.slice A n c) (.int .i64 l.length)).alloc (.cells #[.int .i64 0, .int .i64 0, .int .u8 0] 37)
  have T0 := Three.new1 w (.cells #[.slice A n c, .int .i64 l.length] 43) 37 (.int .i64 0) (.int .i64 0) (.int .u8 0)
  have y0 : Below w.heap.size w ((w.alloc (.cells #[.slice A n c, .int .i64 l.length] 43)).alloc (.cells #[.int .i64 0, .int .i64 0, .int .u8 0] 37)) := ((Below.refl _ _).alloc (Nat.le_refl _) _).alloc (by simp) _
  have R0 := (h.alloc (.cells #[.slice A n c, .int .i64 l.length] 43)).alloc (.cells #[.int .i64 0, .int .i64 0, .int .u8 0] 37)
  have H01 := Lib.hid h01
  clear h01 h
  have HB := Lib.hid hbit
  clear hbit
  have HV := Lib.hid hv
  clear hv
  go_enter Try.func47, Try.ntmps47
  go_wp2_with fail
  refine (rd_ok (f := p) (m := 1) R0 H01.out hl (by decide) (by omega) rfl rfl 0 (by rw [num_one hp, HB.out])).mono ?_
  rintro e w1 ⟨rfl, y1⟩
  have X1 := (X0.on y1).alloc (.cells #[.int .i64 0, .int .i64 0] 25)
  have T1 := (T0.on y1).alloc (.cells #[.int .i64 0, .int .i64 0] 25)
  have R1 := (R0.on y1).alloc (.cells #[.int .i64 0, .int .i64 0] 25)
  have Z1 := y0.trans (y1.mono y0.size)
  have Y1 := Z1.alloc Z1.size (.cells #[.int .i64 0, .int .i64 0] 25)
  have F1 := Two.new w1 25 (.int .i64 0) (.int .i64 0)
  have g0 := F1.c0
  have g1 := F1.c1
  have x0 := X1.c0
  have x1 := X1.c1
  go_wp2_with fail
  refine (rd_ok (f := p + 1) (m := 8) R1 H01.out hl (by decide) (by omega) (by omega) rfl v HV.out).mono ?_
  rintro e w2 ⟨rfl, y2⟩
  have X2 := (X1.on y2).alloc (.cells #[.int .i64 0, .int .i64 0] 25)
  have T2 := (T1.on y2).alloc (.cells #[.int .i64 0, .int .i64 0] 25)
  have R2 := (R1.on y2).alloc (.cells #[.int .i64 0, .int .i64 0] 25)
  have Z2 := Y1.trans (y2.mono Y1.size)
  have Y2 := Z2.alloc Z2.size (.cells #[.int .i64 0, .int .i64 0] 25)
  have F2 := Two.new w2 25 (.int .i64 0) (.int .i64 0)
  have j0 := F2.c0
  have j1 := F2.c1
  clear x0 x1 g0 g1
  have t0 := T2.c0
  have t1 := T2.c1
  have t2 := T2.c2
  have t3 := T2.f0
  have t4 := T2.f1
  have t5 := T2.f2
  have t6 := T2.lt
  have e1 : ¬ w2.heap.size = w.heap.size + 1 := by have := T1.lt; have := y2.size; omega
  have e2 : ¬ w.heap.size + 1 = w2.heap.size := fun e => e1 e.symm
  have u0 : IntKind.i64.wrap ((p : Int) + 9) = (p : Int) + 9 := IntWalk.i64_in _ (by omega)
  have u1 : IntKind.u8.wrap ((v : Nat) : Int) = ((v : Nat) : Int) := by have := hv256; rw [IntKind.wrap_u8]; omega
  go_upto_region 6 with (fail)
  go_region
  clear u0 u1
  go_wp2
  have r0 := (((T2.set0 (.int .i64 0)).set1 (.int .i64 0)).set2 (.int .u8 ((v : Nat) : Int))).c0
  have r1 := (((T2.set0 (.int .i64 0)).set1 (.int .i64 0)).set2 (.int .u8 ((v : Nat) : Int))).c1
  have r2 := (((T2.set0 (.int .i64 0)).set1 (.int .i64 0)).set2 (.int .u8 ((v : Nat) : Int))).c2
  exact bodyPost_ret (v := .tuple #[.agg #[.int .i64 0, .int .i64 0, .int .u8 ((v : Nat) : Int)], .int .i64 ((p : Int) + 9), .int .i64 0]) (by simp [results, Try.results47, go_sem, r0, r1, r2]) rfl ⟨rfl, belowD (((Y2.setCell (by simp) _).setCell (by simp) _).setCell (by simp) _)⟩
set_option maxRecDepth 100000 in
set_option maxHeartbeats 1600000 in
theorem next_nog {A : Option Addr} {n c : Nat} {l : List Nat} {p mis : Nat} {cd : Nat} (hp : p < l.length) (hbit : l.getD p 0 = 1) (hG : GAt l (p + 1) 0 0 cd) (hc1 : cd ≠ 0) {w : World} (h : Rd w A n c (bcells (pack l))) (h01 : Is01 l) (hl : l.length ≤ 131072) (hmis : mis ≤ 1024) :
    Calls Try.prog 47 #[.agg #[.slice A n c, .int .i64 l.length], .int .i64 (p : Nat), .int .i64 (mis : Nat)] w fun e w' => e = .returned (.tuple #[.agg #[.int .i64 0, .int .i64 0, .int .u8 0], .int .i64 0, .int .i64 (cd : Nat)]) ∧ Below w.heap.size w w' := by
  have X0 := (Two.new w 43 (.slice A n c) (.int .i64 l.length)).alloc (.cells #[.int .i64 0, .int .i64 0, .int .u8 0] 37)
  have T0 := Three.new1 w (.cells #[.slice A n c, .int .i64 l.length] 43) 37 (.int .i64 0) (.int .i64 0) (.int .u8 0)
  have y0 : Below w.heap.size w ((w.alloc (.cells #[.slice A n c, .int .i64 l.length] 43)).alloc (.cells #[.int .i64 0, .int .i64 0, .int .u8 0] 37)) := ((Below.refl _ _).alloc (Nat.le_refl _) _).alloc (by simp) _
  have R0 := (h.alloc (.cells #[.slice A n c, .int .i64 l.length] 43)).alloc (.cells #[.int .i64 0, .int .i64 0, .int .u8 0] 37)
  have hA0 : ∀ b off, A = some ⟨b, off, none⟩ → 0 < n → b < w.heap.size := fun b off e hn => by
    obtain ⟨b', off', e', hb, _⟩ := h.2.2.2 hn
    rw [e] at e'
    injection e' with e'
    injection e' with e1
    omega
  have H01 := Lib.hid h01
  clear h01 h
  have HB := Lib.hid hbit
  clear hbit
  have HG := Lib.hid hG
  clear hG
  have HC := Lib.hid hc1
  go_enter Try.func47, Try.ntmps47
  go_wp2_with fail
  refine (rd_ok (f := p) (m := 1) R0 H01.out hl (by decide) (by omega) rfl rfl 1 (by rw [num_one hp, HB.out])).mono ?_
  rintro e w1 ⟨rfl, y1⟩
  have X1 := (X0.on y1).alloc (.cells #[.int .i64 0, .int .i64 0] 25)
  have T1 := (T0.on y1).alloc (.cells #[.int .i64 0, .int .i64 0] 25)
  have R1 := (R0.on y1).alloc (.cells #[.int .i64 0, .int .i64 0] 25)
  have Z1 := y0.trans (y1.mono y0.size)
  have Y1 := Z1.alloc Z1.size (.cells #[.int .i64 0, .int .i64 0] 25)
  have F1 := Two.new w1 25 (.int .i64 0) (.int .i64 0)
  have g0 := F1.c0
  have g1 := F1.c1
  have x0 := X1.c0
  have x1 := X1.c1
  go_wp2_with fail
  refine (rg2_bad R1 H01.out hl (by omega) HG.out HC.out (by omega)).mono ?_
  rintro e w2 ⟨rfl, y2⟩
  have X2 := X1.on y2
  have T2 := T1.on y2
  have R2 := R1.on y2
  have Z2 := Y1.trans (y2.mono Y1.size)
  have Y2 := Z2
  have F2 := F1.on y2
  obtain ⟨j0, j1, j2, j3, j4⟩ := F2.facts
  clear g0 g1
  have e1 : ¬ w1.heap.size = w.heap.size + 1 := by have := T0.lt; have := y1.size; omega
  have e2 : ¬ w.heap.size + 1 = w1.heap.size := fun e => e1 e.symm
  have e3 : ¬ w1.heap.size = w.heap.size := by have := X0.lt; have := y1.size; omega
  have e4 : ¬ w.heap.size = w1.heap.size := fun e => e3 e.symm
  clear x0 x1
  have hA1 : ∀ b off, A = some ⟨b, off, none⟩ → 0 < n → b < w1.heap.size := fun b off e hn => by
    have := hA0 b off e hn
    have := y0.size
    have := y1.size
    omega
  have h1w : w.heap.size ≤ w1.heap.size := by have := y0.size; have := y1.size; omega
  have X12 := (X2.far (p := ⟨w1.heap.size, 0, none⟩) e4 (.int .i64 (cd : Nat))).far (p := ⟨w1.heap.size, 1, none⟩) e4 (.int .i64 (-2))
  have T12 := (T2.far (p := ⟨w1.heap.size, 0, none⟩) e2 (.int .i64 (cd : Nat))).far (p := ⟨w1.heap.size, 1, none⟩) e2 (.int .i64 (-2))
  have F12 := (F2.set0 (.int .i64 (cd : Nat))).set1 (.int .i64 (-2))
  have Y12 := (Y2.setCell (p := ⟨w1.heap.size, 0, none⟩) h1w (.int .i64 (cd : Nat))).setCell (p := ⟨w1.heap.size, 1, none⟩) h1w (.int .i64 (-2))
  have R12 := Rd.keepBox (A := A) R2 hA1 (.int .i64 (cd : Nat)) (.int .i64 (-2))
  go_upto_region 8 with (fail)
  generalize ((w2.setCell ⟨w1.heap.size, 0, none⟩ (.int .i64 (cd : Nat))).setCell ⟨w1.heap.size, 1, none⟩ (.int .i64 (-2))) = v2 at X12 T12 F12 Y12 R12 ⊢
  clear j0 j1 j2 j3 j4
  have j0 := F12.c0
  have j1 := F12.c1
  have t0 := T12.c0
  have t1 := T12.c1
  have t2 := T12.c2
  have t3 := T12.f0
  have t4 := T12.f1
  have t5 := T12.f2
  have t6 := T12.lt
  have hnq := run_neq_flt (cd : Nat) (-2) 0 0 (fun e => hc1 (by omega))
  go_upto_region 9 with (fail)
  go_region
  go_wp2
  have r0 := (((T12.set0 (.int .i64 0)).set1 (.int .i64 0)).set2 (.int .u8 0)).c0
  have r1 := (((T12.set0 (.int .i64 0)).set1 (.int .i64 0)).set2 (.int .u8 0)).c1
  have r2 := (((T12.set0 (.int .i64 0)).set1 (.int .i64 0)).set2 (.int .u8 0)).c2
  exact bodyPost_ret (v := .tuple #[.agg #[.int .i64 0, .int .i64 0, .int .u8 0], .int .i64 0, .int .i64 (cd : Nat)]) (by simp [results, Try.results47, go_sem, r0, r1, r2]) rfl ⟨rfl, belowD (((Y12.setCell (by simp) _).setCell (by simp) _).setCell (by simp) _)⟩
set_option maxRecDepth 100000 in
set_option maxHeartbeats 1600000 in
theorem next_far {A : Option Addr} {n c : Nat} {l : List Nat} {p mis : Nat} {d e1 : Nat} (hp : p < l.length) (hbit : l.getD p 0 = 1) (hG : GAt l (p + 1) d e1 0) (hd : 1536 < d) {w : World} (h : Rd w A n c (bcells (pack l))) (h01 : Is01 l) (hl : l.length ≤ 131072) (hmis : mis ≤ 1024) :
    Calls Try.prog 47 #[.agg #[.slice A n c, .int .i64 l.length], .int .i64 (p : Nat), .int .i64 (mis : Nat)] w fun e w' => e = .returned (.tuple #[.agg #[.int .i64 0, .int .i64 0, .int .u8 0], .int .i64 0, .int .i64 16]) ∧ Below w.heap.size w w' := by
  have X0 := (Two.new w 43 (.slice A n c) (.int .i64 l.length)).alloc (.cells #[.int .i64 0, .int .i64 0, .int .u8 0] 37)
  have T0 := Three.new1 w (.cells #[.slice A n c, .int .i64 l.length] 43) 37 (.int .i64 0) (.int .i64 0) (.int .u8 0)
  have y0 : Below w.heap.size w ((w.alloc (.cells #[.slice A n c, .int .i64 l.length] 43)).alloc (.cells #[.int .i64 0, .int .i64 0, .int .u8 0] 37)) := ((Below.refl _ _).alloc (Nat.le_refl _) _).alloc (by simp) _
  have R0 := (h.alloc (.cells #[.slice A n c, .int .i64 l.length] 43)).alloc (.cells #[.int .i64 0, .int .i64 0, .int .u8 0] 37)
  have hA0 : ∀ b off, A = some ⟨b, off, none⟩ → 0 < n → b < w.heap.size := fun b off e hn => by
    obtain ⟨b', off', e', hb, _⟩ := h.2.2.2 hn
    rw [e] at e'
    injection e' with e'
    injection e' with e1
    omega
  have H01 := Lib.hid h01
  clear h01 h
  have HB := Lib.hid hbit
  clear hbit
  have HG := Lib.hid hG
  clear hG
  go_enter Try.func47, Try.ntmps47
  go_wp2_with fail
  refine (rd_ok (f := p) (m := 1) R0 H01.out hl (by decide) (by omega) rfl rfl 1 (by rw [num_one hp, HB.out])).mono ?_
  rintro e w1 ⟨rfl, y1⟩
  have X1 := (X0.on y1).alloc (.cells #[.int .i64 0, .int .i64 0] 25)
  have T1 := (T0.on y1).alloc (.cells #[.int .i64 0, .int .i64 0] 25)
  have R1 := (R0.on y1).alloc (.cells #[.int .i64 0, .int .i64 0] 25)
  have Z1 := y0.trans (y1.mono y0.size)
  have Y1 := Z1.alloc Z1.size (.cells #[.int .i64 0, .int .i64 0] 25)
  have F1 := Two.new w1 25 (.int .i64 0) (.int .i64 0)
  have g0 := F1.c0
  have g1 := F1.c1
  have x0 := X1.c0
  have x1 := X1.c1
  go_wp2_with fail
  refine (rg2_ok R1 H01.out hl (by omega) HG.out (by omega)).mono ?_
  rintro e w2 ⟨rfl, y2⟩
  have X2 := X1.on y2
  have T2 := T1.on y2
  have R2 := R1.on y2
  have Z2 := Y1.trans (y2.mono Y1.size)
  have Y2 := Z2
  have F2 := F1.on y2
  obtain ⟨j0, j1, j2, j3, j4⟩ := F2.facts
  clear g0 g1
  have e1 : ¬ w1.heap.size = w.heap.size + 1 := by have := T0.lt; have := y1.size; omega
  have e2 : ¬ w.heap.size + 1 = w1.heap.size := fun e => e1 e.symm
  have e3 : ¬ w1.heap.size = w.heap.size := by have := X0.lt; have := y1.size; omega
  have e4 : ¬ w.heap.size = w1.heap.size := fun e => e3 e.symm
  clear x0 x1
  have hA1 : ∀ b off, A = some ⟨b, off, none⟩ → 0 < n → b < w1.heap.size := fun b off e hn => by
    have := hA0 b off e hn
    have := y0.size
    have := y1.size
    omega
  have h1w : w.heap.size ≤ w1.heap.size := by have := y0.size; have := y1.size; omega
  have X12 := (X2.far (p := ⟨w1.heap.size, 0, none⟩) e4 (.int .i64 0)).far (p := ⟨w1.heap.size, 1, none⟩) e4 (.int .i64 0)
  have T12 := (T2.far (p := ⟨w1.heap.size, 0, none⟩) e2 (.int .i64 0)).far (p := ⟨w1.heap.size, 1, none⟩) e2 (.int .i64 0)
  have F12 := (F2.set0 (.int .i64 0)).set1 (.int .i64 0)
  have Y12 := (Y2.setCell (p := ⟨w1.heap.size, 0, none⟩) h1w (.int .i64 0)).setCell (p := ⟨w1.heap.size, 1, none⟩) h1w (.int .i64 0)
  have R12 := Rd.keepBox (A := A) R2 hA1 (.int .i64 0) (.int .i64 0)
  go_upto_region 8 with (fail)
  generalize ((w2.setCell ⟨w1.heap.size, 0, none⟩ (.int .i64 0)).setCell ⟨w1.heap.size, 1, none⟩ (.int .i64 0)) = v2 at X12 T12 F12 Y12 R12 ⊢
  clear j0 j1 j2 j3 j4
  have j0 := F12.c0
  have j1 := F12.c1
  have t0 := T12.c0
  have t1 := T12.c1
  have t2 := T12.c2
  have t3 := T12.f0
  have t4 := T12.f1
  have t5 := T12.f2
  have t6 := T12.lt
  go_wp2
  have r0 := (((T12.set0 (.int .i64 0)).set1 (.int .i64 0)).set2 (.int .u8 0)).c0
  have r1 := (((T12.set0 (.int .i64 0)).set1 (.int .i64 0)).set2 (.int .u8 0)).c1
  have r2 := (((T12.set0 (.int .i64 0)).set1 (.int .i64 0)).set2 (.int .u8 0)).c2
  exact bodyPost_ret (v := .tuple #[.agg #[.int .i64 0, .int .i64 0, .int .u8 0], .int .i64 0, .int .i64 16]) (by simp [results, Try.results47, go_sem, r0, r1, r2]) rfl ⟨rfl, (((Y12.setCell (by simp) _).setCell (by simp) _).setCell (by simp) _)⟩
set_option maxRecDepth 100000 in
set_option maxHeartbeats 1600000 in
theorem next_nog2 {A : Option Addr} {n c : Nat} {l : List Nat} {p mis : Nat} {d e1 cd : Nat} (hp : p < l.length) (hbit : l.getD p 0 = 1) (hG : GAt l (p + 1) d e1 0) (hd : d ≤ 1536) (hG2 : GAt l e1 0 0 cd) (hc1 : cd ≠ 0) {w : World} (h : Rd w A n c (bcells (pack l))) (h01 : Is01 l) (hl : l.length ≤ 131072) (hmis : mis ≤ 1024) :
    Calls Try.prog 47 #[.agg #[.slice A n c, .int .i64 l.length], .int .i64 (p : Nat), .int .i64 (mis : Nat)] w fun e w' => e = .returned (.tuple #[.agg #[.int .i64 0, .int .i64 0, .int .u8 0], .int .i64 0, .int .i64 (cd : Nat)]) ∧ Below w.heap.size w w' := by
  have X0 := (Two.new w 43 (.slice A n c) (.int .i64 l.length)).alloc (.cells #[.int .i64 0, .int .i64 0, .int .u8 0] 37)
  have T0 := Three.new1 w (.cells #[.slice A n c, .int .i64 l.length] 43) 37 (.int .i64 0) (.int .i64 0) (.int .u8 0)
  have y0 : Below w.heap.size w ((w.alloc (.cells #[.slice A n c, .int .i64 l.length] 43)).alloc (.cells #[.int .i64 0, .int .i64 0, .int .u8 0] 37)) := ((Below.refl _ _).alloc (Nat.le_refl _) _).alloc (by simp) _
  have R0 := (h.alloc (.cells #[.slice A n c, .int .i64 l.length] 43)).alloc (.cells #[.int .i64 0, .int .i64 0, .int .u8 0] 37)
  have hA0 : ∀ b off, A = some ⟨b, off, none⟩ → 0 < n → b < w.heap.size := fun b off e hn => by
    obtain ⟨b', off', e', hb, _⟩ := h.2.2.2 hn
    rw [e] at e'
    injection e' with e'
    injection e' with e1
    omega
  have H01 := Lib.hid h01
  clear h01 h
  have HB := Lib.hid hbit
  clear hbit
  have HG := Lib.hid hG
  clear hG
  have hge := (gat_end HG.out).1
  have HG2 := Lib.hid hG2
  clear hG2
  have HC := Lib.hid hc1
  go_enter Try.func47, Try.ntmps47
  go_wp2_with fail
  refine (rd_ok (f := p) (m := 1) R0 H01.out hl (by decide) (by omega) rfl rfl 1 (by rw [num_one hp, HB.out])).mono ?_
  rintro e w1 ⟨rfl, y1⟩
  have X1 := (X0.on y1).alloc (.cells #[.int .i64 0, .int .i64 0] 25)
  have T1 := (T0.on y1).alloc (.cells #[.int .i64 0, .int .i64 0] 25)
  have R1 := (R0.on y1).alloc (.cells #[.int .i64 0, .int .i64 0] 25)
  have Z1 := y0.trans (y1.mono y0.size)
  have Y1 := Z1.alloc Z1.size (.cells #[.int .i64 0, .int .i64 0] 25)
  have F1 := Two.new w1 25 (.int .i64 0) (.int .i64 0)
  have g0 := F1.c0
  have g1 := F1.c1
  have x0 := X1.c0
  have x1 := X1.c1
  go_wp2_with fail
  refine (rg2_ok R1 H01.out hl (by omega) HG.out (by omega)).mono ?_
  rintro e w2 ⟨rfl, y2⟩
  have X2 := X1.on y2
  have T2 := T1.on y2
  have R2 := R1.on y2
  have Z2 := Y1.trans (y2.mono Y1.size)
  have Y2 := Z2
  have F2 := F1.on y2
  obtain ⟨j0, j1, j2, j3, j4⟩ := F2.facts
  clear g0 g1
  have e1 : ¬ w1.heap.size = w.heap.size + 1 := by have := T0.lt; have := y1.size; omega
  have e2 : ¬ w.heap.size + 1 = w1.heap.size := fun e => e1 e.symm
  have e3 : ¬ w1.heap.size = w.heap.size := by have := X0.lt; have := y1.size; omega
  have e4 : ¬ w.heap.size = w1.heap.size := fun e => e3 e.symm
  clear x0 x1
  have hA1 : ∀ b off, A = some ⟨b, off, none⟩ → 0 < n → b < w1.heap.size := fun b off e hn => by
    have := hA0 b off e hn
    have := y0.size
    have := y1.size
    omega
  have h1w : w.heap.size ≤ w1.heap.size := by have := y0.size; have := y1.size; omega
  have X12 := (X2.far (p := ⟨w1.heap.size, 0, none⟩) e4 (.int .i64 0)).far (p := ⟨w1.heap.size, 1, none⟩) e4 (.int .i64 0)
  have T12 := (T2.far (p := ⟨w1.heap.size, 0, none⟩) e2 (.int .i64 0)).far (p := ⟨w1.heap.size, 1, none⟩) e2 (.int .i64 0)
  have F12 := (F2.set0 (.int .i64 0)).set1 (.int .i64 0)
  have Y12 := (Y2.setCell (p := ⟨w1.heap.size, 0, none⟩) h1w (.int .i64 0)).setCell (p := ⟨w1.heap.size, 1, none⟩) h1w (.int .i64 0)
  have R12 := Rd.keepBox (A := A) R2 hA1 (.int .i64 0) (.int .i64 0)
  go_upto_region 8 with (fail)
  generalize ((w2.setCell ⟨w1.heap.size, 0, none⟩ (.int .i64 0)).setCell ⟨w1.heap.size, 1, none⟩ (.int .i64 0)) = v2 at X12 T12 F12 Y12 R12 ⊢
  clear j0 j1 j2 j3 j4
  have j0 := F12.c0
  have j1 := F12.c1
  have x0 := X12.c0
  have x1 := X12.c1
  go_wp2_with fail
  refine (rg2_bad R12 H01.out hl hge HG2.out HC.out (by omega)).mono ?_
  rintro e w3 ⟨rfl, y3⟩
  have X3 := X12.on y3
  have T3 := T12.on y3
  have F3 := F12.on y3
  have Y3 := Y12.trans (y3.mono Y12.size)
  clear j0 j1 x0 x1
  obtain ⟨j0, j1, j2, j3, j4⟩ := F3.facts
  have X13 := (X3.far (p := ⟨w1.heap.size, 0, none⟩) e4 (.int .i64 (cd : Nat))).far (p := ⟨w1.heap.size, 1, none⟩) e4 (.int .i64 (-2))
  have T13 := (T3.far (p := ⟨w1.heap.size, 0, none⟩) e2 (.int .i64 (cd : Nat))).far (p := ⟨w1.heap.size, 1, none⟩) e2 (.int .i64 (-2))
  have F13 := (F3.set0 (.int .i64 (cd : Nat))).set1 (.int .i64 (-2))
  have Y13 := (Y3.setCell (p := ⟨w1.heap.size, 0, none⟩) h1w (.int .i64 (cd : Nat))).setCell (p := ⟨w1.heap.size, 1, none⟩) h1w (.int .i64 (-2))
  go_upto_region 13 with (fail)
  generalize ((w3.setCell ⟨w1.heap.size, 0, none⟩ (.int .i64 (cd : Nat))).setCell ⟨w1.heap.size, 1, none⟩ (.int .i64 (-2))) = v3 at X13 T13 F13 Y13 ⊢
  clear j0 j1 j2 j3 j4
  have j0 := F13.c0
  have j1 := F13.c1
  have t0 := T13.c0
  have t1 := T13.c1
  have t2 := T13.c2
  have t3 := T13.f0
  have t4 := T13.f1
  have t5 := T13.f2
  have t6 := T13.lt
  have hnq := run_neq_flt (cd : Nat) (-2) 0 0 (fun e => hc1 (by omega))
  go_upto_region 14 with (fail)
  go_region
  go_wp2
  have r0 := (((T13.set0 (.int .i64 0)).set1 (.int .i64 0)).set2 (.int .u8 0)).c0
  have r1 := (((T13.set0 (.int .i64 0)).set1 (.int .i64 0)).set2 (.int .u8 0)).c1
  have r2 := (((T13.set0 (.int .i64 0)).set1 (.int .i64 0)).set2 (.int .u8 0)).c2
  exact bodyPost_ret (v := .tuple #[.agg #[.int .i64 0, .int .i64 0, .int .u8 0], .int .i64 0, .int .i64 (cd : Nat)]) (by simp [results, Try.results47, go_sem, r0, r1, r2]) rfl ⟨rfl, belowD (((Y13.setCell (by simp) _).setCell (by simp) _).setCell (by simp) _)⟩
set_option maxRecDepth 100000 in
set_option maxHeartbeats 1600000 in
theorem next_long {A : Option Addr} {n c : Nat} {l : List Nat} {p mis : Nat} {d e1 m e9 : Nat} (hp : p < l.length) (hbit : l.getD p 0 = 1) (hG : GAt l (p + 1) d e1 0) (hd : d ≤ 1536) (hG2 : GAt l e1 m e9 0) (hm : mis < m + 2) {w : World} (h : Rd w A n c (bcells (pack l))) (h01 : Is01 l) (hl : l.length ≤ 131072) (hmis : mis ≤ 1024) :
    Calls Try.prog 47 #[.agg #[.slice A n c, .int .i64 l.length], .int .i64 (p : Nat), .int .i64 (mis : Nat)] w fun e w' => e = .returned (.tuple #[.agg #[.int .i64 0, .int .i64 0, .int .u8 0], .int .i64 0, .int .i64 16]) ∧ Below w.heap.size w w' := by
  have X0 := (Two.new w 43 (.slice A n c) (.int .i64 l.length)).alloc (.cells #[.int .i64 0, .int .i64 0, .int .u8 0] 37)
  have T0 := Three.new1 w (.cells #[.slice A n c, .int .i64 l.length] 43) 37 (.int .i64 0) (.int .i64 0) (.int .u8 0)
  have y0 : Below w.heap.size w ((w.alloc (.cells #[.slice A n c, .int .i64 l.length] 43)).alloc (.cells #[.int .i64 0, .int .i64 0, .int .u8 0] 37)) := ((Below.refl _ _).alloc (Nat.le_refl _) _).alloc (by simp) _
  have R0 := (h.alloc (.cells #[.slice A n c, .int .i64 l.length] 43)).alloc (.cells #[.int .i64 0, .int .i64 0, .int .u8 0] 37)
  have hA0 : ∀ b off, A = some ⟨b, off, none⟩ → 0 < n → b < w.heap.size := fun b off e hn => by
    obtain ⟨b', off', e', hb, _⟩ := h.2.2.2 hn
    rw [e] at e'
    injection e' with e'
    injection e' with e1
    omega
  have H01 := Lib.hid h01
  clear h01 h
  have HB := Lib.hid hbit
  clear hbit
  have HG := Lib.hid hG
  clear hG
  have hge := (gat_end HG.out).1
  have HG2 := Lib.hid hG2
  clear hG2
  go_enter Try.func47, Try.ntmps47
  have hv1 := gat_val H01.out HG2.out
  go_wp2_with fail
  refine (rd_ok (f := p) (m := 1) R0 H01.out hl (by decide) (by omega) rfl rfl 1 (by rw [num_one hp, HB.out])).mono ?_
  rintro e w1 ⟨rfl, y1⟩
  have X1 := (X0.on y1).alloc (.cells #[.int .i64 0, .int .i64 0] 25)
  have T1 := (T0.on y1).alloc (.cells #[.int .i64 0, .int .i64 0] 25)
  have R1 := (R0.on y1).alloc (.cells #[.int .i64 0, .int .i64 0] 25)
  have Z1 := y0.trans (y1.mono y0.size)
  have Y1 := Z1.alloc Z1.size (.cells #[.int .i64 0, .int .i64 0] 25)
  have F1 := Two.new w1 25 (.int .i64 0) (.int .i64 0)
  have g0 := F1.c0
  have g1 := F1.c1
  have x0 := X1.c0
  have x1 := X1.c1
  go_wp2_with fail
  refine (rg2_ok R1 H01.out hl (by omega) HG.out (by omega)).mono ?_
  rintro e w2 ⟨rfl, y2⟩
  have X2 := X1.on y2
  have T2 := T1.on y2
  have R2 := R1.on y2
  have Z2 := Y1.trans (y2.mono Y1.size)
  have Y2 := Z2
  have F2 := F1.on y2
  obtain ⟨j0, j1, j2, j3, j4⟩ := F2.facts
  clear g0 g1
  have e1 : ¬ w1.heap.size = w.heap.size + 1 := by have := T0.lt; have := y1.size; omega
  have e2 : ¬ w.heap.size + 1 = w1.heap.size := fun e => e1 e.symm
  have e3 : ¬ w1.heap.size = w.heap.size := by have := X0.lt; have := y1.size; omega
  have e4 : ¬ w.heap.size = w1.heap.size := fun e => e3 e.symm
  clear x0 x1
  have hA1 : ∀ b off, A = some ⟨b, off, none⟩ → 0 < n → b < w1.heap.size := fun b off e hn => by
    have := hA0 b off e hn
    have := y0.size
    have := y1.size
    omega
  have h1w : w.heap.size ≤ w1.heap.size := by have := y0.size; have := y1.size; omega
  have X12 := (X2.far (p := ⟨w1.heap.size, 0, none⟩) e4 (.int .i64 0)).far (p := ⟨w1.heap.size, 1, none⟩) e4 (.int .i64 0)
  have T12 := (T2.far (p := ⟨w1.heap.size, 0, none⟩) e2 (.int .i64 0)).far (p := ⟨w1.heap.size, 1, none⟩) e2 (.int .i64 0)
  have F12 := (F2.set0 (.int .i64 0)).set1 (.int .i64 0)
  have Y12 := (Y2.setCell (p := ⟨w1.heap.size, 0, none⟩) h1w (.int .i64 0)).setCell (p := ⟨w1.heap.size, 1, none⟩) h1w (.int .i64 0)
  have R12 := Rd.keepBox (A := A) R2 hA1 (.int .i64 0) (.int .i64 0)
  go_upto_region 8 with (fail)
  generalize ((w2.setCell ⟨w1.heap.size, 0, none⟩ (.int .i64 0)).setCell ⟨w1.heap.size, 1, none⟩ (.int .i64 0)) = v2 at X12 T12 F12 Y12 R12 ⊢
  clear j0 j1 j2 j3 j4
  have j0 := F12.c0
  have j1 := F12.c1
  have x0 := X12.c0
  have x1 := X12.c1
  go_wp2_with fail
  refine (rg2_ok R12 H01.out hl hge HG2.out (by omega)).mono ?_
  rintro e w3 ⟨rfl, y3⟩
  have X3 := X12.on y3
  have T3 := T12.on y3
  have F3 := F12.on y3
  have Y3 := Y12.trans (y3.mono Y12.size)
  clear j0 j1 x0 x1
  obtain ⟨j0, j1, j2, j3, j4⟩ := F3.facts
  have X13 := (X3.far (p := ⟨w1.heap.size, 0, none⟩) e4 (.int .i64 0)).far (p := ⟨w1.heap.size, 1, none⟩) e4 (.int .i64 0)
  have T13 := (T3.far (p := ⟨w1.heap.size, 0, none⟩) e2 (.int .i64 0)).far (p := ⟨w1.heap.size, 1, none⟩) e2 (.int .i64 0)
  have F13 := (F3.set0 (.int .i64 0)).set1 (.int .i64 0)
  have Y13 := (Y3.setCell (p := ⟨w1.heap.size, 0, none⟩) h1w (.int .i64 0)).setCell (p := ⟨w1.heap.size, 1, none⟩) h1w (.int .i64 0)
  go_upto_region 13 with (fail)
  generalize ((w3.setCell ⟨w1.heap.size, 0, none⟩ (.int .i64 0)).setCell ⟨w1.heap.size, 1, none⟩ (.int .i64 0)) = v3 at X13 T13 F13 Y13 ⊢
  clear j0 j1 j2 j3 j4
  have j0 := F13.c0
  have j1 := F13.c1
  have t0 := T13.c0
  have t1 := T13.c1
  have t2 := T13.c2
  have t3 := T13.f0
  have t4 := T13.f1
  have t5 := T13.f2
  have t6 := T13.lt
  go_wp2
  have r0 := (((T13.set0 (.int .i64 0)).set1 (.int .i64 0)).set2 (.int .u8 0)).c0
  have r1 := (((T13.set0 (.int .i64 0)).set1 (.int .i64 0)).set2 (.int .u8 0)).c1
  have r2 := (((T13.set0 (.int .i64 0)).set1 (.int .i64 0)).set2 (.int .u8 0)).c2
  exact bodyPost_ret (v := .tuple #[.agg #[.int .i64 0, .int .i64 0, .int .u8 0], .int .i64 0, .int .i64 16]) (by simp [results, Try.results47, go_sem, r0, r1, r2]) rfl ⟨rfl, (((Y13.setCell (by simp) _).setCell (by simp) _).setCell (by simp) _)⟩
set_option maxRecDepth 100000 in
set_option maxHeartbeats 1600000 in
theorem next_match {A : Option Addr} {n c : Nat} {l : List Nat} {p mis : Nat} {d e1 m e9 : Nat} (hp : p < l.length) (hbit : l.getD p 0 = 1) (hG : GAt l (p + 1) d e1 0) (hd : d ≤ 1536) (hG2 : GAt l e1 m e9 0) (hm : m + 2 ≤ mis) {w : World} (h : Rd w A n c (bcells (pack l))) (h01 : Is01 l) (hl : l.length ≤ 131072) (hmis : mis ≤ 1024) :
    Calls Try.prog 47 #[.agg #[.slice A n c, .int .i64 l.length], .int .i64 (p : Nat), .int .i64 (mis : Nat)] w fun e w' => e = .returned (.tuple #[.agg #[.int .i64 (d : Nat), .int .i64 ((m : Int) + 2), .int .u8 0], .int .i64 (e9 : Nat), .int .i64 0]) ∧ Below w.heap.size w w' := by
  have X0 := (Two.new w 43 (.slice A n c) (.int .i64 l.length)).alloc (.cells #[.int .i64 0, .int .i64 0, .int .u8 0] 37)
  have T0 := Three.new1 w (.cells #[.slice A n c, .int .i64 l.length] 43) 37 (.int .i64 0) (.int .i64 0) (.int .u8 0)
  have y0 : Below w.heap.size w ((w.alloc (.cells #[.slice A n c, .int .i64 l.length] 43)).alloc (.cells #[.int .i64 0, .int .i64 0, .int .u8 0] 37)) := ((Below.refl _ _).alloc (Nat.le_refl _) _).alloc (by simp) _
  have R0 := (h.alloc (.cells #[.slice A n c, .int .i64 l.length] 43)).alloc (.cells #[.int .i64 0, .int .i64 0, .int .u8 0] 37)
  have hA0 : ∀ b off, A = some ⟨b, off, none⟩ → 0 < n → b < w.heap.size := fun b off e hn => by
    obtain ⟨b', off', e', hb, _⟩ := h.2.2.2 hn
    rw [e] at e'
    injection e' with e'
    injection e' with e1
    omega
  have H01 := Lib.hid h01
  clear h01 h
  have HB := Lib.hid hbit
  clear hbit
  have HG := Lib.hid hG
  clear hG
  have hge := (gat_end HG.out).1
  have HG2 := Lib.hid hG2
  clear hG2
  go_enter Try.func47, Try.ntmps47
  have hv1 := gat_val H01.out HG2.out
  go_wp2_with fail
  refine (rd_ok (f := p) (m := 1) R0 H01.out hl (by decide) (by omega) rfl rfl 1 (by rw [num_one hp, HB.out])).mono ?_
  rintro e w1 ⟨rfl, y1⟩
  have X1 := (X0.on y1).alloc (.cells #[.int .i64 0, .int .i64 0] 25)
  have T1 := (T0.on y1).alloc (.cells #[.int .i64 0, .int .i64 0] 25)
  have R1 := (R0.on y1).alloc (.cells #[.int .i64 0, .int .i64 0] 25)
  have Z1 := y0.trans (y1.mono y0.size)
  have Y1 := Z1.alloc Z1.size (.cells #[.int .i64 0, .int .i64 0] 25)
  have F1 := Two.new w1 25 (.int .i64 0) (.int .i64 0)
  have g0 := F1.c0
  have g1 := F1.c1
  have x0 := X1.c0
  have x1 := X1.c1
  go_wp2_with fail
  refine (rg2_ok R1 H01.out hl (by omega) HG.out (by omega)).mono ?_
  rintro e w2 ⟨rfl, y2⟩
  have X2 := X1.on y2
  have T2 := T1.on y2
  have R2 := R1.on y2
  have Z2 := Y1.trans (y2.mono Y1.size)
  have Y2 := Z2
  have F2 := F1.on y2
  obtain ⟨j0, j1, j2, j3, j4⟩ := F2.facts
  clear g0 g1
  have e1 : ¬ w1.heap.size = w.heap.size + 1 := by have := T0.lt; have := y1.size; omega
  have e2 : ¬ w.heap.size + 1 = w1.heap.size := fun e => e1 e.symm
  have e3 : ¬ w1.heap.size = w.heap.size := by have := X0.lt; have := y1.size; omega
  have e4 : ¬ w.heap.size = w1.heap.size := fun e => e3 e.symm
  clear x0 x1
  have hA1 : ∀ b off, A = some ⟨b, off, none⟩ → 0 < n → b < w1.heap.size := fun b off e hn => by
    have := hA0 b off e hn
    have := y0.size
    have := y1.size
    omega
  have h1w : w.heap.size ≤ w1.heap.size := by have := y0.size; have := y1.size; omega
  have X12 := (X2.far (p := ⟨w1.heap.size, 0, none⟩) e4 (.int .i64 0)).far (p := ⟨w1.heap.size, 1, none⟩) e4 (.int .i64 0)
  have T12 := (T2.far (p := ⟨w1.heap.size, 0, none⟩) e2 (.int .i64 0)).far (p := ⟨w1.heap.size, 1, none⟩) e2 (.int .i64 0)
  have F12 := (F2.set0 (.int .i64 0)).set1 (.int .i64 0)
  have Y12 := (Y2.setCell (p := ⟨w1.heap.size, 0, none⟩) h1w (.int .i64 0)).setCell (p := ⟨w1.heap.size, 1, none⟩) h1w (.int .i64 0)
  have R12 := Rd.keepBox (A := A) R2 hA1 (.int .i64 0) (.int .i64 0)
  go_upto_region 8 with (fail)
  generalize ((w2.setCell ⟨w1.heap.size, 0, none⟩ (.int .i64 0)).setCell ⟨w1.heap.size, 1, none⟩ (.int .i64 0)) = v2 at X12 T12 F12 Y12 R12 ⊢
  clear j0 j1 j2 j3 j4
  have j0 := F12.c0
  have j1 := F12.c1
  have x0 := X12.c0
  have x1 := X12.c1
  go_wp2_with fail
  refine (rg2_ok R12 H01.out hl hge HG2.out (by omega)).mono ?_
  rintro e w3 ⟨rfl, y3⟩
  have X3 := X12.on y3
  have T3 := T12.on y3
  have F3 := F12.on y3
  have Y3 := Y12.trans (y3.mono Y12.size)
  clear j0 j1 x0 x1
  obtain ⟨j0, j1, j2, j3, j4⟩ := F3.facts
  have X13 := (X3.far (p := ⟨w1.heap.size, 0, none⟩) e4 (.int .i64 0)).far (p := ⟨w1.heap.size, 1, none⟩) e4 (.int .i64 0)
  have T13 := (T3.far (p := ⟨w1.heap.size, 0, none⟩) e2 (.int .i64 0)).far (p := ⟨w1.heap.size, 1, none⟩) e2 (.int .i64 0)
  have F13 := (F3.set0 (.int .i64 0)).set1 (.int .i64 0)
  have Y13 := (Y3.setCell (p := ⟨w1.heap.size, 0, none⟩) h1w (.int .i64 0)).setCell (p := ⟨w1.heap.size, 1, none⟩) h1w (.int .i64 0)
  go_upto_region 13 with (fail)
  generalize ((w3.setCell ⟨w1.heap.size, 0, none⟩ (.int .i64 0)).setCell ⟨w1.heap.size, 1, none⟩ (.int .i64 0)) = v3 at X13 T13 F13 Y13 ⊢
  clear j0 j1 j2 j3 j4
  have j0 := F13.c0
  have j1 := F13.c1
  have t0 := T13.c0
  have t1 := T13.c1
  have t2 := T13.c2
  have t3 := T13.f0
  have t4 := T13.f1
  have t5 := T13.f2
  have t6 := T13.lt
  go_wp2
  have r0 := (((T13.set0 (.int .i64 (d : Nat))).set1 (.int .i64 ((m : Int) + 2))).set2 (.int .u8 0)).c0
  have r1 := (((T13.set0 (.int .i64 (d : Nat))).set1 (.int .i64 ((m : Int) + 2))).set2 (.int .u8 0)).c1
  have r2 := (((T13.set0 (.int .i64 (d : Nat))).set1 (.int .i64 ((m : Int) + 2))).set2 (.int .u8 0)).c2
  exact bodyPost_ret (v := .tuple #[.agg #[.int .i64 (d : Nat), .int .i64 ((m : Int) + 2), .int .u8 0], .int .i64 (e9 : Nat), .int .i64 0]) (by simp [results, Try.results47, go_sem, r0, r1, r2]) rfl ⟨rfl, (((Y13.setCell (by simp) _).setCell (by simp) _).setCell (by simp) _)⟩
end PB
end Go.Proofs.Ytlhglomhfbbinaa
