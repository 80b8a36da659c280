/-
  lz.Cost: what tokens cost.
-/
import Derived.Test.YtnahmiglogddaaaLzPlain2
import Derived.BigRegion
import Derived.Deep.Cut
namespace Go.Proofs.Ytnahmiglogddaaa
open Go.RowKit
attribute [local go_sem ↓] Go.wp_at_zero Go.wp_at_succ
set_option linter.unusedVariables false
set_option linter.unusedSimpArgs false
namespace PB
theorem run_neq_flt (c i c2 i2 : Int) (h : ¬ (c = c2 ∧ i = i2)) (W : World) : (binOp .neq 25 (.agg #[.int .i64 c, .int .i64 i]) (.agg #[.int .i64 c2, .int .i64 i2])).run Try.prog W = .ok (.bool true) W := by
  by_cases h1 : c = c2
  · subst h1
    have h3 : ¬ i = i2 := fun e => h ⟨rfl, e⟩
    go_simp
  · go_simp
set_option maxHeartbeats 1600000 in
theorem lzcosts_bad {A : Option Addr} {n c : Nat} {xs : List Tok} {code idx : Int} {w : World} (h : RdT w A n c xs) (hT : TOut xs code idx) (hc : code ≠ 0) :
    Calls Try.prog 21 #[.slice A n c] w fun e w' => e = .returned (.tuple #[.int .i64 0, .agg #[.int .i64 code, .int .i64 idx]]) ∧ Below w.heap.size w w' := by
  have X0 := Two.new w 25 (.int .i64 0) (.int .i64 0)
  have y0 : Below w.heap.size w (w.alloc (.cells #[.int .i64 0, .int .i64 0] 25)) := (Below.refl _ _).alloc (Nat.le_refl _) _
  have R0 := h.alloc (.cells #[.int .i64 0, .int .i64 0] 25)
  have hnq := run_neq_flt code idx 0 0 (fun e => hc e.1)
  have HT := Lib.hid hT
  clear hT hc h
  go_enter Try.func21, Try.ntmps21
  go_wp2_with fail
  refine (lzcheck_any R0 HT.out).mono ?_
  rintro e w1 ⟨rfl, y1⟩
  have X1 := X0.on y1
  have Y1 := y0.trans (y1.mono y0.size)
  have X2 := X1.alloc (.cells #[.int .i64 code, .int .i64 idx] 25)
  have B2 := Two.new w1 25 (.int .i64 code) (.int .i64 idx)
  have Y2 := Y1.alloc Y1.size (.cells #[.int .i64 code, .int .i64 idx] 25)
  obtain ⟨f0, f1, f2, f3, f4⟩ := X2.facts
  obtain ⟨g0, g1, g2, g3, g4⟩ := B2.facts
  go_upto_region 3 with (fail)
  go_region
  go_wp2
  have r0 := ((X2.set0 (.int .i64 code)).set1 (.int .i64 idx)).c0
  have r1 := ((X2.set0 (.int .i64 code)).set1 (.int .i64 idx)).c1
  exact bodyPost_ret (v := .tuple #[.int .i64 0, .agg #[.int .i64 code, .int .i64 idx]]) (by simp [results, Try.results21, go_sem, r0, r1]) rfl ⟨rfl, belowD ((Y2.setCell (Nat.le_refl _) _).setCell (Nat.le_refl _) _)⟩
set_option maxHeartbeats 1600000 in
theorem lzcosts_ok {A : Option Addr} {n c : Nat} {xs : List Tok} {w : World} (h : RdT w A n c xs) (hl : xs.length ≤ 1024) (hall : AllTok xs xs.length) :
    Calls Try.prog 21 #[.slice A n c] w fun e w' => e = .returned (.tuple #[.int .i64 (costs xs : Nat), .agg #[.int .i64 0, .int .i64 0]]) ∧ Below w.heap.size w w' := by
  have hn := h.1
  have hcap := h.2.1
  have hcm := h.2.2.1
  unfold maxLen at hcm
  obtain rfl := hn
  have X0 := Two.new w 25 (.int .i64 0) (.int .i64 0)
  have y0 : Below w.heap.size w (w.alloc (.cells #[.int .i64 0, .int .i64 0] 25)) := (Below.refl _ _).alloc (Nat.le_refl _) _
  have R0 := h.alloc (.cells #[.int .i64 0, .int .i64 0] 25)
  have HA := Lib.hid hall
  have HCL := Lib.hid (costs_take_le xs hall)
  clear hall
  go_enter Try.func21, Try.ntmps21
  go_wp2_with fail
  refine (lzcheck_any R0 (.inr (.inr ⟨hl, HA.out, rfl, rfl⟩))).mono ?_
  rintro e w1 ⟨rfl, y1⟩
  have X2 := (X0.on y1).alloc (.cells #[.int .i64 0, .int .i64 0] 25)
  have Y1 := y0.trans (y1.mono y0.size)
  have Y2 := Y1.alloc Y1.size (.cells #[.int .i64 0, .int .i64 0] 25)
  have B2 := Two.new w1 25 (.int .i64 0) (.int .i64 0)
  obtain ⟨g0, g1, g2, g3, g4⟩ := B2.facts
  clear y1 X0 y0 R0 Y1
  go_wp2_with fail
  go_loopw [5, 16] (fun t i wr => ∃ k : Nat, k ≤ xs.length ∧ i = .int .i64 k ∧ t = .int .i64 (costs (xs.take k) : Nat) ∧ Below w.heap.size w wr ∧ Two wr w.heap.size 25 (.int .i64 0) (.int .i64 0)) (fun _ i _ => xs.length - (intOf i).toNat)
  case atStart => exact ⟨0, Nat.zero_le _, rfl, rfl, Y2, X2⟩
  case round =>
    obtain ⟨k, hk, rfl, rfl, yr, XR⟩ := hrel
    clear Y2 X2 B2 g0 g1 g2 g3 g4
    have hT := HCL.out k
    obtain ⟨T, hTT⟩ : ∃ T, T = costs (xs.take k) := ⟨_, rfl⟩
    rw [← hTT] at hT ⊢
    have HT := Lib.hid hTT
    have hT2 : T ≤ 1000000 := by omega
    clear hTT hT
    by_cases hlt : k < xs.length
    · obtain ⟨b, off, rfl, hb, q1, q2, q3⟩ := (h.on yr).at k hlt
      obtain ⟨x, hx⟩ : ∃ x, x = xs[k] := ⟨_, rfl⟩
      rw [← hx] at q1 q2 q3
      have HOK := Lib.hid (show x.ok by rw [hx]; exact HA.out k hlt hlt)
      have HS := Lib.hid (show costs (xs.take (k + 1)) = T + tcost x by rw [costs_take_succ xs k hlt, HT.out, hx])
      have htc := tcost_le x HOK.out
      obtain ⟨tc, htc2⟩ : ∃ tc, tc = tcost x := ⟨_, rfl⟩
      rw [← htc2] at htc HS
      have HTC := Lib.hid htc2
      clear hx htc2
      have ysz := yr.size
      have yv := yr.alloc ysz (.cells #[.int .i64 x.d, .int .i64 x.n, .int .u8 (x.lit : Nat)] 54)
      have XV := XR.alloc (.cells #[.int .i64 x.d, .int .i64 x.n, .int .u8 (x.lit : Nat)] 54)
      have V0 := Three.new wr 54 (.int .i64 x.d) (.int .i64 x.n) (.int .u8 (x.lit : Nat))
      have v0 := V0.c0
      have v1 := V0.c1
      have v2 := V0.c2
      go_wp2_with fail
      refine (lzcost_any x HOK.out (tc : Nat) (by rw [HTC.out]) _).mono ?_
      rintro e w2 ⟨rfl, y2⟩
      have Y3 := yv.trans (y2.mono yv.size)
      have X3 := XV.on y2
      go_wp2_with fail
      go_roundw
      case rel => exact ⟨k + 1, by omega, by go_num, congrArg (Value.int .i64) (by rw [HS.out]; omega), Y3, X3⟩
      case measure => simp [intOf] <;> omega
    · obtain rfl : k = xs.length := by omega
      obtain ⟨f0, f1, f2, f3, f4⟩ := XR.facts
      have HR := Lib.hid (show costs xs = T by rw [HT.out, List.take_of_length_le (Nat.le_refl _)])
      go_wp2
      have r0 := ((XR.set0 (.int .i64 0)).set1 (.int .i64 0)).c0
      have r1 := ((XR.set0 (.int .i64 0)).set1 (.int .i64 0)).c1
      exact bodyPost_ret (v := .tuple #[.int .i64 (T : Nat), .agg #[.int .i64 0, .int .i64 0]]) (by simp [results, Try.results21, go_sem, r0, r1]) rfl ⟨by rw [HR.out], (yr.setCell (Nat.le_refl _) _).setCell (Nat.le_refl _) _⟩
end PB
end Go.Proofs.Ytnahmiglogddaaa
