/-
  No tokens that stand for the same bytes cost less than those of a parse: the walk of the statement LzNoTokensCostLess.
-/
import Derived.Test.YtlhglomhfbbinaaRows
import Derived.Test.YtlhglomhfbbinaaLzApi
import Derived.Deep.RegionHeld3
import Derived.Deep.DrawnRows
import Derived.Lib.SlBytesConst
namespace Go.Proofs.Ytlhglomhfbbinaa
open Go.RowKit
attribute [local go_sem ↓] Go.wp_at_zero Go.wp_at_succ
set_option linter.unusedVariables false
set_option linter.unusedSimpArgs false
namespace PB
/-- Why lz.Expand refuses. -/
def ExpErr (xs : List Tok) (n2 : Nat) (dict : List Nat) (code idx : Int) : Prop :=
  (TOut xs code idx ∧ code ≠ 0) ∨ (TOut xs 0 0 ∧ 512 < n2 ∧ code = 3 ∧ idx = -2) ∨ (TOut xs 0 0 ∧ n2 ≤ 512 ∧ (expf n2 xs 0 dict).1 = code ∧ (expf n2 xs 0 dict).2.1 = idx ∧ code ≠ 0)
theorem ExpErr.code {xs : List Tok} {n2 : Nat} {dict : List Nat} {code idx : Int} (h : ExpErr xs n2 dict code idx) : code ≠ 0 := by
  rcases h with ⟨_, h⟩ | ⟨_, _, h, _⟩ | ⟨_, _, _, _, h⟩
  · exact h
  · omega
  · exact h
theorem exp_err {A : Option Addr} {m c : Nat} {xs : List Tok} {dict : List Nat} {A2 : Option Addr} {n2 c2 : Nat} {code idx : Int} {w : World} (h : RdT w A m c xs) (h2 : Rd w A2 n2 c2 (bcells dict)) (hE : ExpErr xs n2 dict code idx) :
    Calls Try.prog 16 #[.slice A m c, .slice A2 n2 c2] w fun e w' => ∃ A' c', e = .returned (.tuple #[.slice A' 0 c', .agg #[.int .i64 code, .int .i64 idx]]) ∧ Rd w' A' 0 c' (bcells []) ∧ Below w.heap.size w w' := by
  rcases hE with ⟨hT, hc⟩ | ⟨hT, hn, rfl, rfl⟩ | ⟨hT, hn, h3, h4, hc⟩
  · exact (lzexp_bad h hT hc).mono fun e w' ⟨h1, h2⟩ => ⟨none, 0, h1, Reads.nil _ _ none 0 (Nat.zero_le _), h2⟩
  · exact (lzexp_dict h hT hn).mono fun e w' ⟨h1, h2⟩ => ⟨none, 0, h1, Reads.nil _ _ none 0 (Nat.zero_le _), h2⟩
  · obtain ⟨g1, g2, _⟩ := hT.zero rfl
    refine (lzexp_ok h h2 g1 g2 hn).mono ?_
    rintro e w' ⟨A', m', c', rfl, hr, hb⟩
    subst h3 h4
    rw [if_neg hc] at hr
    have hl := hr.len
    rw [bcells_length] at hl
    obtain rfl : m' = 0 := by rw [← hl]; rfl
    exact ⟨A', c', rfl, hr, hb⟩
theorem exp_cases (xs : List Tok) (n2 : Nat) (dict : List Nat) (hd : dict.length = n2) : (∃ code idx, ExpErr xs n2 dict code idx) ∨ (xs.length ≤ 1024 ∧ AllTok xs xs.length ∧ n2 ≤ 512 ∧ ∃ data, expf n2 xs 0 dict = (0, 0, dict ++ data) ∧ data.length ≤ 1024) := by
  obtain ⟨code, idx, hT⟩ := tout_ex xs
  by_cases hc : code = 0
  · subst hc
    obtain ⟨h1, h2, h3⟩ := hT.zero rfl
    subst h3
    by_cases hn : 512 < n2
    · exact .inl ⟨_, _, .inr (.inl ⟨hT, hn, rfl, rfl⟩)⟩
    · by_cases hz : (expf n2 xs 0 dict).1 = 0
      · refine .inr ⟨h1, h2, by omega, (expf n2 xs 0 dict).2.2.drop n2, ?_, ?_⟩
        · have hi := expf_idx n2 xs 0 dict hz
          have hp := take_of_prefix (expf_prefix n2 xs 0 dict)
          rw [hd] at hp
          obtain ⟨W, hW⟩ : ∃ W, W = (expf n2 xs 0 dict).2.2 := ⟨_, rfl⟩
          rw [← hW] at hp ⊢
          have e : W = dict ++ W.drop n2 := by
            have := (List.take_append_drop n2 W).symm
            rwa [← hp] at this
          rw [← e, hW]
          exact Prod.ext hz (Prod.ext hi rfl)
        · have := (expf_len n2 xs 0 dict).2 (by omega)
          rw [List.length_drop]; omega
      · exact .inl ⟨_, _, .inr (.inr ⟨hT, by omega, rfl, rfl, hz⟩)⟩
  · exact .inl ⟨code, idx, .inl ⟨hT, hc⟩⟩
theorem exp_good {A : Option Addr} {m c n : Nat} {xs : List Tok} {data dict : List Nat} {A2 : Option Addr} {n2 c2 : Nat} {w : World} (h : RdT w A m c xs) (h2 : Rd w A2 n2 c2 (bcells dict)) (g1 : xs.length ≤ 1024) (g2 : AllTok xs xs.length) (hn2 : n2 ≤ 512) (he : expf n2 xs 0 dict = (0, 0, dict ++ data)) (hn : n = data.length) :
    Calls Try.prog 16 #[.slice A m c, .slice A2 n2 c2] w fun e w' => ∃ A' c', e = .returned (.tuple #[.slice A' n c', .agg #[.int .i64 0, .int .i64 0]]) ∧ Rd w' A' n c' (bcells data) ∧ Below w.heap.size w w' := by
  have e2 := h2.len
  rw [bcells_length] at e2
  refine (lzexp_ok h h2 g1 g2 hn2).mono ?_
  rintro e w' ⟨A', m', c', rfl, hr, hb⟩
  rw [he] at hr ⊢
  dsimp only at hr ⊢
  rw [if_pos rfl, ← e2, List.drop_left] at hr
  have hl := hr.len
  rw [bcells_length] at hl
  obtain rfl : m' = n := by omega
  exact ⟨A', c', rfl, hr, hb⟩
set_option maxRecDepth 100000 in
set_option maxHeartbeats 3200000 in
theorem ln_err {A : Option Addr} {m c : Nat} {xs : List Tok} {A2 : Option Addr} {n2 c2 : Nat} {d2 : List Nat} {code idx : Int} (hE : ExpErr xs n2 d2 code idx)  (w : World) (h : RdT w A m c xs) (h2 : Rd w A2 n2 c2 (bcells d2)) :
    Calls Try.prog 6 #[.slice A m c, .slice A2 n2 c2] w fun e w' => e = .returned (.bool true) ∧ Below w.heap.size w w' := by
  have hc : (code != 0) = true := by rw [bne_iff_ne]; exact hE.code
  have HE := Lib.hid hE
  clear hE
  have R_0 := h
  have S_0 := h2
  have Z0 := Below.refl w.heap.size w
  go_enter Try.func6, Try.ntmps6
  go_wp2_with fail
  refine (exp_err R_0 S_0 HE.out).mono ?_
  rintro e w1 ⟨A1, c1, rfl, Q1, y1⟩
  have R_1 := (R_0.on y1).alloc (.cells #[.int .i64 code, .int .i64 idx] 25)
  have S_1 := (S_0.on y1).alloc (.cells #[.int .i64 code, .int .i64 idx] 25)
  have Q_1 := (Q1).alloc (.cells #[.int .i64 code, .int .i64 idx] 25)
  have F_1 := (Two.new w1 25 (.int .i64 code) (.int .i64 idx))
  clear R_0 S_0
  have z1 := Z0.trans (y1.mono Z0.size)
  have Z1 := (z1).alloc (by have := z1.size; omega) (.cells #[.int .i64 code, .int .i64 idx] 25)
  have F_1_c0 := F_1.c0
  have F_1_c1 := F_1.c1
  go_wp2_with fail
  refine (matches_true _).mono ?_
  rintro e w2 ⟨rfl, y2⟩
  have R_2 := R_1.on y2
  have S_2 := S_1.on y2
  have Q_2 := Q_1.on y2
  have F_2 := F_1.on y2
  clear R_1 S_1 Q_1 F_1 F_1_c0 F_1_c1
  have z2 := Z1.trans (y2.mono Z1.size)
  have Z2 := z2
  have F_2_c0 := F_2.c0
  have F_2_c1 := F_2.c1
  go_wp2_with fail
  refine (matches_true _).mono ?_
  rintro e w3 ⟨rfl, y3⟩
  have R_3 := R_2.on y3
  have S_3 := S_2.on y3
  have Q_3 := Q_2.on y3
  have F_3 := F_2.on y3
  clear R_2 S_2 Q_2 F_2 F_2_c0 F_2_c1
  have z3 := Z2.trans (y3.mono Z2.size)
  have Z3 := z3
  have F_3_c0 := F_3.c0
  have F_3_c1 := F_3.c1
  go_wp2
  go_ret
  exact ⟨rfl, Z3⟩
set_option maxRecDepth 100000 in
set_option maxHeartbeats 3200000 in
theorem ln_ok {A : Option Addr} {m c : Nat} {xs : List Tok} {A2 : Option Addr} {n2 c2 : Nat} {d2 : List Nat} {n : Nat} {data : List Nat} (g1 : xs.length ≤ 1024) (g2 : AllTok xs xs.length) (hn2 : n2 ≤ 512) (he : expf n2 xs 0 d2 = (0, 0, d2 ++ data)) (hn : n = data.length) (hn1 : n ≤ 1024)  (w : World) (h : RdT w A m c xs) (h2 : Rd w A2 n2 c2 (bcells d2)) :
    Calls Try.prog 6 #[.slice A m c, .slice A2 n2 c2] w fun e w' => e = .returned (.bool true) ∧ Below w.heap.size w w' := by
  have HG := Lib.hid g2
  have HE := Lib.hid he
  have HN := Lib.hid hn
  have HN2 := Lib.hid (show d2.length = n2 by have := h2.len; rwa [bcells_length] at this)
  obtain ⟨ca, hca⟩ : ∃ ca, ca = costs xs := ⟨_, rfl⟩
  have hcb : ca ≤ 1000000 := by rw [hca]; exact costs_le xs g2 g1
  have HC := Lib.hid hca
  have HCO := Lib.hid (fun (W : World) (hW : RdT W A m c xs) => lzcosts_ok hW g1 g2)
  rw [← hca] at HCO
  clear g2 he hn hca
  have R_0 := h
  have S_0 := h2
  have Z0 := Below.refl w.heap.size w
  go_enter Try.func6, Try.ntmps6
  go_wp2_with fail
  refine (exp_good R_0 S_0 g1 HG.out hn2 HE.out HN.out).mono ?_
  rintro e w1 ⟨A1, c1, rfl, Q1, y1⟩
  have R_1 := (R_0.on y1).alloc (.cells #[.int .i64 0, .int .i64 0] 25)
  have S_1 := (S_0.on y1).alloc (.cells #[.int .i64 0, .int .i64 0] 25)
  have Q_1 := (Q1).alloc (.cells #[.int .i64 0, .int .i64 0] 25)
  have F_1 := (Two.new w1 25 (.int .i64 0) (.int .i64 0))
  clear R_0 S_0
  have z1 := Z0.trans (y1.mono Z0.size)
  have Z1 := (z1).alloc (by have := z1.size; omega) (.cells #[.int .i64 0, .int .i64 0] 25)
  have F_1_c0 := F_1.c0
  have F_1_c1 := F_1.c1
  go_wp2_with fail
  refine (matches_true _).mono ?_
  rintro e w2 ⟨rfl, y2⟩
  have R_2 := R_1.on y2
  have S_2 := S_1.on y2
  have Q_2 := Q_1.on y2
  have F_2 := F_1.on y2
  clear R_1 S_1 Q_1 F_1 F_1_c0 F_1_c1
  have z2 := Z1.trans (y2.mono Z1.size)
  have Z2 := z2
  have F_2_c0 := F_2.c0
  have F_2_c1 := F_2.c1
  go_wp2_with fail
  refine (parse_api Q_2 S_2 hn1 hn2).mono ?_
  rintro e w3 ⟨A3, m3, c3, ts, rfl, ⟨P1, PT⟩, y3⟩
  have R_3 := (R_2.on y3).alloc (.cells #[.int .i64 0, .int .i64 0] 25)
  have S_3 := (S_2.on y3).alloc (.cells #[.int .i64 0, .int .i64 0] 25)
  have Q_3 := (Q_2.on y3).alloc (.cells #[.int .i64 0, .int .i64 0] 25)
  have F_3 := (F_2.on y3).alloc (.cells #[.int .i64 0, .int .i64 0] 25)
  have P_3 := (P1).alloc (.cells #[.int .i64 0, .int .i64 0] 25)
  have G_3 := (Two.new w3 25 (.int .i64 0) (.int .i64 0))
  clear R_2 S_2 Q_2 F_2 F_2_c0 F_2_c1
  have z3 := Z2.trans (y3.mono Z2.size)
  have Z3 := (z3).alloc (by have := z3.size; omega) (.cells #[.int .i64 0, .int .i64 0] 25)
  have F_3_c0 := F_3.c0
  have F_3_c1 := F_3.c1
  have G_3_c0 := G_3.c0
  have G_3_c1 := G_3.c1
  obtain ⟨cb, hcb2⟩ : ∃ cb, cb = costs ts := ⟨_, rfl⟩
  have hle : cb ≤ ca := by rw [hcb2, HC.out]; exact PT.least (by rw [← HN.out]; exact hn1) (by rw [HN2.out]; exact hn2) (fun t ht => by obtain ⟨i, hi, rfl⟩ := List.mem_iff_getElem.1 ht; exact HG.out i hi hi) (by rw [HN2.out]; exact HE.out)
  have HCB := Lib.hid hcb2
  clear hcb2
  go_wp2_with fail
  refine (HCO.out _ R_3).mono ?_
  rintro e w4 ⟨rfl, y4⟩
  have R_4 := (R_3.on y4).alloc (.cells #[.int .i64 0, .int .i64 0] 25)
  have S_4 := (S_3.on y4).alloc (.cells #[.int .i64 0, .int .i64 0] 25)
  have Q_4 := (Q_3.on y4).alloc (.cells #[.int .i64 0, .int .i64 0] 25)
  have F_4 := (F_3.on y4).alloc (.cells #[.int .i64 0, .int .i64 0] 25)
  have P_4 := (P_3.on y4).alloc (.cells #[.int .i64 0, .int .i64 0] 25)
  have G_4 := (G_3.on y4).alloc (.cells #[.int .i64 0, .int .i64 0] 25)
  have H_4 := (Two.new w4 25 (.int .i64 0) (.int .i64 0))
  clear R_3 S_3 Q_3 F_3 F_3_c0 F_3_c1 P_3 G_3 G_3_c0 G_3_c1
  have z4 := Z3.trans (y4.mono Z3.size)
  have Z4 := (z4).alloc (by have := z4.size; omega) (.cells #[.int .i64 0, .int .i64 0] 25)
  have F_4_c0 := F_4.c0
  have F_4_c1 := F_4.c1
  have G_4_c0 := G_4.c0
  have G_4_c1 := G_4.c1
  have H_4_c0 := H_4.c0
  have H_4_c1 := H_4.c1
  go_wp2_with fail
  refine (cost_api P_4 PT (by rw [← HN.out]; exact hn1) (by rw [HN2.out]; exact hn2) cb HCB.out).mono ?_
  rintro e w5 ⟨rfl, y5⟩
  have R_5 := (R_4.on y5).alloc (.cells #[.int .i64 0, .int .i64 0] 25)
  have S_5 := (S_4.on y5).alloc (.cells #[.int .i64 0, .int .i64 0] 25)
  have Q_5 := (Q_4.on y5).alloc (.cells #[.int .i64 0, .int .i64 0] 25)
  have F_5 := (F_4.on y5).alloc (.cells #[.int .i64 0, .int .i64 0] 25)
  have P_5 := (P_4.on y5).alloc (.cells #[.int .i64 0, .int .i64 0] 25)
  have G_5 := (G_4.on y5).alloc (.cells #[.int .i64 0, .int .i64 0] 25)
  have H_5 := (H_4.on y5).alloc (.cells #[.int .i64 0, .int .i64 0] 25)
  have I_5 := (Two.new w5 25 (.int .i64 0) (.int .i64 0))
  clear R_4 S_4 Q_4 F_4 F_4_c0 F_4_c1 P_4 G_4 G_4_c0 G_4_c1 H_4 H_4_c0 H_4_c1
  have z5 := Z4.trans (y5.mono Z4.size)
  have Z5 := (z5).alloc (by have := z5.size; omega) (.cells #[.int .i64 0, .int .i64 0] 25)
  have F_5_c0 := F_5.c0
  have F_5_c1 := F_5.c1
  have G_5_c0 := G_5.c0
  have G_5_c1 := G_5.c1
  have H_5_c0 := H_5.c0
  have H_5_c1 := H_5.c1
  have I_5_c0 := I_5.c0
  have I_5_c1 := I_5.c1
  go_wp2
  go_ret
  exact ⟨rfl, Z5⟩
theorem ln_all {A : Option Addr} {m c : Nat} {xs : List Tok} {A2 : Option Addr} {n2 c2 : Nat} {d2 : List Nat} (w : World) (h : RdT w A m c xs) (h2 : Rd w A2 n2 c2 (bcells d2)) :
    Calls Try.prog 6 #[.slice A m c, .slice A2 n2 c2] w fun e w' => e = .returned (.bool true) ∧ Below w.heap.size w w' := by
  rcases exp_cases xs n2 d2 (by have := h2.len; rwa [bcells_length] at this) with ⟨code, idx, hE⟩ | ⟨g1, g2, g3, data, g4, g5⟩
  · exact ln_err hE w h h2
  · exact ln_ok g1 g2 g3 g4 rfl g5 w h h2
end PB
end Go.Proofs.Ytlhglomhfbbinaa
