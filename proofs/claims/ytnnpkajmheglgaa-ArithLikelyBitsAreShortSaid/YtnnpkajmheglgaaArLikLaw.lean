/-
  Likely bits have a short code: the walk of the statement ArithLikelyBitsAreShort.
-/
import Derived.Test.YtnnpkajmheglgaaRows
import Derived.Test.YtnnpkajmheglgaaArEx
import Derived.Deep.RegionHeld3
import Derived.Deep.DrawnRows
namespace Go.Proofs.Ytnnpkajmheglgaa
open Go.RowKit
attribute [local go_sem ↓] Go.wp_at_zero Go.wp_at_succ
set_option linter.unusedVariables false
set_option linter.unusedSimpArgs false
namespace PB
/-- A choice that is not likely. -/
def unl (x : Cho) : Prop := (x.b = 1 ∧ x.p < 2048) ∨ (x.b = 0 ∧ 2048 < x.p)
theorem likely_of {cs : List Cho} (h : AllCho cs) (hn : ∀ x ∈ cs, ¬ unl x) : Likely cs := by
  intro c hc
  have h1 := (h c hc).n_eq
  have h2 := hn c hc
  unfold unl at h2
  constructor <;> intro e <;> (rw [e] at h1; rw [h1] at h2; simp at h2; omega)
set_option maxRecDepth 100000 in
set_option maxHeartbeats 1600000 in
theorem al_bad {A : Option Addr} {n c : Nat} {cs : List Cho} {code idx : Int} (hC : COut cs code idx) (hc : code ≠ 0) (w : World) (h : RdC w A n c cs) :
    Calls Try.prog 7 #[.slice A n c] w fun e w' => e = .returned (.bool true) ∧ Below w.heap.size w w' := by
  have hc2 : (code != 0) = true := by rw [bne_iff_ne]; exact hc
  have HEN := Lib.hid (fun (W : World) (hW : RdC W A n c cs) => arenc_any hW code idx hC [] (by rw [if_neg hc]) 0 rfl)
  clear hC hc
  have C_0 := h
  have Z0 := Below.refl w.heap.size w
  go_enter Try.func7, Try.ntmps7
  go_wp2_with fail
  refine (HEN.out _ C_0).mono ?_
  rintro e w1 ⟨A1, n1, c1, rfl, R1, y1⟩
  have C_1 := ((C_0.on y1).alloc (.cells #[.slice A1 n1 c1, .int .i64 0] 25)).alloc (.cells #[.int .i64 code, .int .i64 idx] 27)
  have R_1 := ((R1).alloc (.cells #[.slice A1 n1 c1, .int .i64 0] 25)).alloc (.cells #[.int .i64 code, .int .i64 idx] 27)
  have B_1 := ((Two.new w1 25 (.slice A1 n1 c1) (.int .i64 0))).alloc (.cells #[.int .i64 code, .int .i64 idx] 27)
  have F_1 := (Two.new1 w1 (.cells #[.slice A1 n1 c1, .int .i64 0] 25) 27 (.int .i64 code) (.int .i64 idx))
  clear C_0
  have z1 := Z0.trans (y1.mono Z0.size)
  have Z1 := ((z1).alloc (by have := z1.size; omega) (.cells #[.slice A1 n1 c1, .int .i64 0] 25)).alloc (by have := z1.size; simp; omega) (.cells #[.int .i64 code, .int .i64 idx] 27)
  have B_1_c0 := B_1.c0
  have B_1_c1 := B_1.c1
  have F_1_c0 := F_1.c0
  have F_1_c1 := F_1.c1
  go_wp2_with fail
  refine (codes_true _).mono ?_
  rintro e w2 ⟨rfl, y2⟩
  have C_2 := C_1.on y2
  have R_2 := R_1.on y2
  have B_2 := B_1.on y2
  have F_2 := F_1.on y2
  clear C_1 R_1 B_1 B_1_c0 B_1_c1 F_1 F_1_c0 F_1_c1
  have z2 := Z1.trans (y2.mono Z1.size)
  have Z2 := z2
  have B_2_c0 := B_2.c0
  have B_2_c1 := B_2.c1
  have F_2_c0 := F_2.c0
  have F_2_c1 := F_2.c1
  go_wp2_with fail
  refine (codes_true _).mono ?_
  rintro e w3 ⟨rfl, y3⟩
  have C_3 := C_2.on y3
  have R_3 := R_2.on y3
  have B_3 := B_2.on y3
  have F_3 := F_2.on y3
  clear C_2 R_2 B_2 B_2_c0 B_2_c1 F_2 F_2_c0 F_2_c1
  have z3 := Z2.trans (y3.mono Z2.size)
  have Z3 := z3
  have B_3_c0 := B_3.c0
  have B_3_c1 := B_3.c1
  have F_3_c0 := F_3.c0
  have F_3_c1 := F_3.c1
  go_wp2_with fail
  refine (api_same (l := []) (l2 := []) R_3 (Rd.none_ _) Is01.nil Is01.nil true (by simp) _ _ rfl rfl).mono ?_
  rintro e w4 ⟨rfl, y4⟩
  have C_4 := C_3.on y4
  have R_4 := R_3.on y4
  have B_4 := B_3.on y4
  have F_4 := F_3.on y4
  clear C_3 R_3 B_3 B_3_c0 B_3_c1 F_3 F_3_c0 F_3_c1
  have z4 := Z3.trans (y4.mono Z3.size)
  have Z4 := z4
  have B_4_c0 := B_4.c0
  have B_4_c1 := B_4.c1
  have F_4_c0 := F_4.c0
  have F_4_c1 := F_4.c1
  go_wp2
  go_ret
  exact ⟨rfl, Z4⟩
set_option maxRecDepth 100000 in
set_option maxHeartbeats 1600000 in
theorem al_ok {A : Option Addr} {n c : Nat} {cs : List Cho} {idx : Int} (hC : COut cs 0 idx) (w : World) (h : RdC w A n c cs) :
    Calls Try.prog 7 #[.slice A n c] w fun e w' => e = .returned (.bool true) ∧ Below w.heap.size w w' := by
  obtain ⟨hall, hlen, rfl⟩ := cout_ok hC rfl
  have hcap := h.2.1
  have hcm := h.2.2.1
  unfold maxLen at hcm
  have hn := h.len
  obtain rfl := hn
  obtain ⟨k, hk⟩ : ∃ k, k = (acode cs).length := ⟨_, rfl⟩
  have hkb : k ≤ 114690 := by rw [hk]; exact acode_le hall hlen
  have HSH := Lib.hid (show (∀ x ∈ cs, ¬ unl x) → k ≤ cs.length + 2 from fun hu => by rw [hk]; exact likely_short hall (likely_of hall hu) hlen)
  have HEN := Lib.hid (fun (W : World) (hW : RdC W A cs.length c cs) => arenc_any hW 0 0 hC (acode cs) (by rw [if_pos rfl]) k hk)
  clear hC hall hk
  have C_0 := h
  have Z0 := Below.refl w.heap.size w
  go_enter Try.func7, Try.ntmps7
  go_wp2_with fail
  refine (HEN.out _ C_0).mono ?_
  rintro e w1 ⟨A1, n1, c1, rfl, R1, y1⟩
  have C_1 := ((C_0.on y1).alloc (.cells #[.slice A1 n1 c1, .int .i64 (k : Nat)] 25)).alloc (.cells #[.int .i64 0, .int .i64 0] 27)
  have R_1 := ((R1).alloc (.cells #[.slice A1 n1 c1, .int .i64 (k : Nat)] 25)).alloc (.cells #[.int .i64 0, .int .i64 0] 27)
  have B_1 := ((Two.new w1 25 (.slice A1 n1 c1) (.int .i64 (k : Nat)))).alloc (.cells #[.int .i64 0, .int .i64 0] 27)
  have F_1 := (Two.new1 w1 (.cells #[.slice A1 n1 c1, .int .i64 (k : Nat)] 25) 27 (.int .i64 0) (.int .i64 0))
  clear C_0
  have z1 := Z0.trans (y1.mono Z0.size)
  have Z1 := ((z1).alloc (by have := z1.size; omega) (.cells #[.slice A1 n1 c1, .int .i64 (k : Nat)] 25)).alloc (by have := z1.size; simp; omega) (.cells #[.int .i64 0, .int .i64 0] 27)
  have B_1_c0 := B_1.c0
  have B_1_c1 := B_1.c1
  have F_1_c0 := F_1.c0
  have F_1_c1 := F_1.c1
  go_wp2_with fail
  refine (codes_true _).mono ?_
  rintro e w2 ⟨rfl, y2⟩
  have C_2 := C_1.on y2
  have R_2 := R_1.on y2
  have B_2 := B_1.on y2
  have F_2 := F_1.on y2
  clear C_1 R_1 B_1 B_1_c0 B_1_c1 F_1 F_1_c0 F_1_c1
  have z2 := Z1.trans (y2.mono Z1.size)
  have Z2 := z2
  have B_2_c0 := B_2.c0
  have B_2_c1 := B_2.c1
  have F_2_c0 := F_2.c0
  have F_2_c1 := F_2.c1
  go_wp2_with fail
  go_loop [5] (fun i => ∃ k : Nat, k ≤ cs.length ∧ i = .int .i64 (k : Nat) ∧ (∀ j (hj : j < cs.length), j < k → ¬ unl cs[j])) (fun i => cs.length - (intOf i).toNat)
  case atStart => exact ⟨0, Nat.zero_le _, rfl, fun j _ hj => absurd hj (Nat.not_lt_zero _)⟩
  case round =>
    obtain ⟨j, hj, rfl, hun⟩ := hrel
    have HU := Lib.hid hun
    clear hun
    by_cases hlt : j < cs.length
    · obtain ⟨g, off, rfl, hg, q1, q2⟩ := (C_2).at j hlt
      obtain ⟨x, hx⟩ : ∃ x, x = cs[j] := ⟨_, rfl⟩
      rw [← hx] at q1 q2
      have i1 : (0 : Int) ≤ (j : Int) := by omega
      have i2 : (j : Int) < (cs.length : Int) := by omega
      have HX := Lib.hid hx
      obtain ⟨xb, xp⟩ := x
      dsimp only at q1 q2
      clear hx
      by_cases hu : unl ⟨xb, xp⟩
      · rcases hu with ⟨a1, a2⟩ | ⟨a1, a2⟩
        · dsimp only at a1 a2
          have k1 : (xb == 1) = true := by rw [a1]; rfl
          have k2 : decide (xp < 2048) = true := by simpa using a2
          clear a1 a2
          go_wp2
          go_ret
          exact ⟨rfl, Z2⟩
        · dsimp only at a1 a2
          have k1 : (xb == 1) = false := by rw [a1]; rfl
          have k3 : (xb == 0) = true := by rw [a1]; rfl
          have k2 : decide (2048 < xp) = true := by simpa using a2
          clear a1 a2
          go_wp2
          go_ret
          exact ⟨rfl, Z2⟩
      · have HN := Lib.hid hu
        have hcs : ((xb == 1) = true ∧ decide (xp < 2048) = false ∧ (xb == 0) = false) ∨ ((xb == 1) = false ∧ (xb == 0) = true ∧ decide (2048 < xp) = false) ∨ ((xb == 1) = false ∧ (xb == 0) = false) := by
          unfold unl at hu
          dsimp only at hu
          by_cases b1 : xb = 1
          · left
            subst b1
            exact ⟨rfl, by simp; omega, rfl⟩
          · by_cases b0 : xb = 0
            · right; left
              subst b0
              exact ⟨rfl, rfl, by simp; omega⟩
            · right; right
              exact ⟨by simpa using b1, by simpa using b0⟩
        clear hu
        rcases hcs with ⟨k1, k2, k3⟩ | ⟨k1, k3, k2⟩ | ⟨k1, k3⟩
        all_goals
          go_wp2
          go_round
          case rel => exact ⟨j + 1, by omega, by go_num, fun i hi hij => by
            rcases (by omega : i < j ∨ i = j) with h1 | rfl
            · exact HU.out i hi h1
            · rw [← HX.out]; exact HN.out⟩
          case measure => simp [intOf] <;> omega
    · obtain rfl : j = cs.length := by omega
      have hsh := HSH.out (fun x hx => by obtain ⟨i, hi, rfl⟩ := List.getElem_of_mem hx; exact HU.out i hi hi)
      have k1 : decide ((k : Int) ≤ (cs.length : Int) + 2) = true := by simp; omega
      clear hsh
      go_wp2
      go_ret
      exact ⟨rfl, Z2⟩
theorem al_all {A : Option Addr} {n c : Nat} {cs : List Cho} (w : World) (h : RdC w A n c cs) : Calls Try.prog 7 #[.slice A n c] w fun e w' => e = .returned (.bool true) ∧ Below w.heap.size w w' := by
  obtain ⟨code, idx, hC⟩ := cout_ex cs
  by_cases hc : code = 0
  · subst hc
    exact al_ok hC w h
  · exact al_bad hC hc w h
end PB
end Go.Proofs.Ytnnpkajmheglgaa
