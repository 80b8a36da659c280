/-
  Validity of tokens and the bytes for which they stand are as specified: the walk of the statement LzExpandMatchesSpec.
-/
import Derived.Test.YtlhglomhfbbinaaRows
import Derived.Test.YtlhglomhfbbinaaLzApi
import Derived.Test.YtlhglomhfbbinaaLzRefExp
import Derived.Deep.RegionHeld3
import Derived.Deep.DrawnRows
import Derived.Lib.SlBytesConst
namespace Go.Proofs.Ytlhglomhfbbinaa
open Go.RowKit
attribute [local go_sem ↓] Go.wp_at_zero Go.wp_at_succ
set_option linter.unusedVariables false
set_option linter.unusedSimpArgs false
namespace PB
/-- lz.Expand and the reference hand back the same bytes and the same fault. -/
theorem exp_both (xs : List Tok) (n2 : Nat) (dict : List Nat) (hw : ∀ x ∈ xs, x.lit < 256) (hd : ∀ k, dict.getD k 0 < 256) : ∃ (code idx : Int) (D : List Nat), (∀ k, D.getD k 0 < 256) ∧
    (∀ (w : World) (A : Option Addr) (n c : Nat) (A2 : Option Addr) (c2 : Nat), RdT w A n c xs → Rd w A2 n2 c2 (bcells dict) → Calls Try.prog 16 #[.slice A n c, .slice A2 n2 c2] w fun e w' => ∃ A' m' c', e = .returned (.tuple #[.slice A' m' c', .agg #[.int .i64 code, .int .i64 idx]]) ∧ Rd w' A' m' c' (bcells D) ∧ Below w.heap.size w w') ∧
    (∀ (w : World) (A : Option Addr) (n c : Nat) (A2 : Option Addr) (c2 : Nat), RdT w A n c xs → Rd w A2 n2 c2 (bcells dict) → Calls Try.prog 17 #[.slice A n c, .slice A2 n2 c2] w fun e w' => ∃ A' m' c', e = .returned (.tuple #[.slice A' m' c', .agg #[.int .i64 code, .int .i64 idx]]) ∧ Rd w' A' m' c' (bcells D) ∧ Below w.heap.size w w') := by
  have nil : ∀ w : World, Rd w none 0 0 (bcells []) := fun w => Reads.nil _ _ none 0 (Nat.zero_le _)
  obtain ⟨code, idx, hT⟩ := tout_ex xs
  by_cases hc : code = 0
  · subst hc
    obtain ⟨h1, h2, h3⟩ := hT.zero rfl
    subst h3
    by_cases hn : 512 < n2
    · exact ⟨3, -2, [], by simp, fun w A n c A2 c2 r1 r2 => (lzexp_dict r1 hT hn).mono fun e w' ⟨g1, g2⟩ => ⟨none, 0, 0, g1, nil _, g2⟩, fun w A n c A2 c2 r1 r2 => (refexp_dict r1 hT hn).mono fun e w' ⟨g1, g2⟩ => ⟨none, 0, 0, g1, nil _, g2⟩⟩
    · refine ⟨(expf n2 xs 0 dict).1, (expf n2 xs 0 dict).2.1, if (expf n2 xs 0 dict).1 = 0 then (expf n2 xs 0 dict).2.2.drop n2 else [], fun k => ?_, fun w A n c A2 c2 r1 r2 => ?_, fun w A n c A2 c2 r1 r2 => ?_⟩
      · split
        · have := expf_bytes n2 xs 0 dict hw hd (n2 + k)
          rwa [List.getD_eq_getElem?_getD, List.getElem?_drop, ← List.getD_eq_getElem?_getD]
        · simp
      · refine (lzexp_ok r1 r2 h1 h2 (by omega)).mono ?_
        rintro e w' ⟨A', m, c', g1, g2, g3⟩
        exact ⟨A', m, c', g1, g2, g3⟩
      · refine (refexp_ok r1 r2 h1 h2 (by omega)).mono ?_
        rintro e w' ⟨A', m, c', g1, g2, g3⟩
        exact ⟨A', m, c', g1, g2, g3⟩
  · exact ⟨code, idx, [], by simp, fun w A n c A2 c2 r1 r2 => (lzexp_bad r1 hT hc).mono fun e w' ⟨g1, g2⟩ => ⟨none, 0, 0, g1, nil _, g2⟩, fun w A n c A2 c2 r1 r2 => (refexp_bad r1 hT hc).mono fun e w' ⟨g1, g2⟩ => ⟨none, 0, 0, g1, nil _, g2⟩⟩
set_option maxRecDepth 100000 in
set_option maxHeartbeats 3200000 in
theorem le_all {A : Option Addr} {n c : Nat} {xs : List Tok} {A2 : Option Addr} {n2 c2 : Nat} {d2 : List Nat} (hw : ∀ x ∈ xs, x.lit < 256) (hd : ∀ k, d2.getD k 0 < 256) (w : World) (h : RdT w A n c xs) (h2 : Rd w A2 n2 c2 (bcells d2)) :
    Calls Try.prog 4 #[.slice A n c, .slice A2 n2 c2] w fun e w' => e = .returned (.bool true) ∧ Below w.heap.size w w' := by
  have hn := h.1
  have hcap := h.2.1
  have hcm := h.2.2.1
  unfold maxLen at hcm
  obtain ⟨code, idx, D, hD, hE, hX⟩ := exp_both xs n2 d2 hw hd
  have HE := Lib.hid hE
  have HX := Lib.hid hX
  have HD := Lib.hid hD
  obtain rfl := hn
  clear hw hd hD hE hX
  go_enter Try.func4, Try.ntmps4
  go_wp2_with fail
  refine (HE.out _ _ _ _ _ _ h h2).mono ?_
  rintro e w1 ⟨A3, m3, c3, rfl, r3, y1⟩
  have F1 := Two.new w1 25 (.int .i64 code) (.int .i64 idx)
  have R1 := (h.on y1).alloc (.cells #[.int .i64 code, .int .i64 idx] 25)
  have S1 := (h2.on y1).alloc (.cells #[.int .i64 code, .int .i64 idx] 25)
  have Q1 := r3.alloc (.cells #[.int .i64 code, .int .i64 idx] 25)
  have Y1 := y1.alloc y1.size (.cells #[.int .i64 code, .int .i64 idx] 25)
  clear r3 y1
  go_wp2_with fail
  refine (HX.out _ _ _ _ _ _ R1 S1).mono ?_
  rintro e w2 ⟨A4, m4, c4, rfl, r4, y2⟩
  have F2 := (F1.on y2).alloc (.cells #[.int .i64 code, .int .i64 idx] 25)
  have G2 := Two.new w2 25 (.int .i64 code) (.int .i64 idx)
  have R2 := (R1.on y2).alloc (.cells #[.int .i64 code, .int .i64 idx] 25)
  have Q2 := (Q1.on y2).alloc (.cells #[.int .i64 code, .int .i64 idx] 25)
  have P2 := r4.alloc (.cells #[.int .i64 code, .int .i64 idx] 25)
  have Y2 := Y1.trans (y2.mono Y1.size)
  have Y3 := Y2.alloc Y2.size (.cells #[.int .i64 code, .int .i64 idx] 25)
  clear r4 y2 F1 R1 S1 Q1 Y1 Y2 h h2
  go_wp2_with fail
  generalize (w2.alloc (.cells #[.int .i64 code, .int .i64 idx] 25)) = wa at F2 G2 R2 Q2 P2 Y3 ⊢
  go_loopw [9] (fun i wr => ∃ k : Nat, k ≤ xs.length ∧ i = .int .i64 k ∧ Below wa.heap.size wa wr) (fun i _ => xs.length - (intOf i).toNat)
  case atStart => exact ⟨0, Nat.zero_le _, rfl, Below.refl _ _⟩
  case round =>
    obtain ⟨k, hk, rfl, yr⟩ := hrel
    by_cases hlt : k < xs.length
    · obtain ⟨b, off, rfl, hb, -⟩ := (R2.on yr).at k hlt
      obtain ⟨xd, xn, xl, hx⟩ : ∃ xd xn xl, xs[k] = (⟨xd, xn, xl⟩ : Tok) := ⟨_, _, _, rfl⟩
      have HXX := Lib.hid (show xs[k]? = some (⟨xd, xn, xl⟩ : Tok) by rw [← hx]; exact List.getElem?_eq_getElem hlt)
      obtain ⟨-, q1, q2, q3⟩ := (R2.on yr).cells HXX.out
      have i1 : (0 : Int) ≤ (k : Int) := by omega
      have i2 : (k : Int) < (xs.length : Int) := by omega
      obtain ⟨bo, hbo⟩ : ∃ bo : Bool, bo = true ↔ TokOk xd xn (xl : Nat) := ⟨@decide _ (Classical.propDecidable _), @decide_eq_true_iff _ (Classical.propDecidable _)⟩
      have HBO := Lib.hid hbo
      clear hx hbo
      have hbb : (bo != bo) = false := by cases bo <;> rfl
      go_wp2_with fail
      go_region_held3 (fun w' => w'.cell? ⟨b, off + k * 3, none⟩ = some (.int .i64 xd) ∧ w'.cell? ⟨b, off + k * 3 + 1, none⟩ = some (.int .i64 xn) ∧ w'.cell? ⟨b, off + k * 3 + 2, none⟩ = some (.int .u8 (xl : Nat))) (go_keep) (first | (go_at_call 18; refine (lzvalid_any xd xn ((xl : Nat) : Int) _ HBO.out _).mono ?_; rintro e w5 ⟨rfl, y5⟩; have Y5 : Below wr.heap.size wr.drew w5 := y5; have R5 := RdT.on (w := wr.drew) (R2.on yr).drew Y5; have a1 := (R5.cells HXX.out).2.1; have a2 := (R5.cells HXX.out).2.2.1; have a3 := (R5.cells HXX.out).2.2.2) | (go_at_call 19; refine (tokenok_any xd xn ((xl : Nat) : Int) _ HBO.out _).mono ?_; rintro e w6 ⟨rfl, y6⟩; have Y6 := Y5.trans (y6.mono Y5.size); have R6 := R5.on y6; have b1 := (R6.cells HXX.out).2.1; have b2 := (R6.cells HXX.out).2.2.1; have b3 := (R6.cells HXX.out).2.2.2))
      have Y7 := (belowD yr).trans (Below.mono (w := wr.drew) Y6 yr.size)
      clear Y5 Y6 y5 y6 R5 R6 a1 a2 a3 b1 b2 b3
      go_wp2_with fail
      go_roundw
      case rel => exact ⟨k + 1, by omega, by go_num, Y7⟩
      case measure => simp [intOf] <;> omega
    · obtain rfl : k = xs.length := by omega
      have F3 := F2.on yr
      have G3 := G2.on yr
      have Q3 := Q2.on yr
      have P3 := P2.on yr
      have Y4 := Y3.trans (yr.mono Y3.size)
      clear F2 G2 Q2 P2 Y3 yr R2
      go_wp2_with fail
      refine (matches_true _).mono ?_
      rintro e w5 ⟨rfl, y5⟩
      have F4 := F3.on y5
      have G4 := G3.on y5
      have Q4 := Q3.on y5
      have P4 := P3.on y5
      have Y5 := Y4.trans (y5.mono Y4.size)
      have f0 := F4.c0
      have f1 := F4.c1
      have g0 := G4.c0
      have g1 := G4.c1
      go_wp2_with fail
      refine (ex_same Q4 P4 HD.out).mono ?_
      rintro e w6 ⟨rfl, rfl⟩
      go_wp2
      go_ret
      exact ⟨rfl, Y5⟩
end PB
end Go.Proofs.Ytlhglomhfbbinaa
