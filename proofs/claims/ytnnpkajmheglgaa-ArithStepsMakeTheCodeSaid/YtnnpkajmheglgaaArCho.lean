/-
  Slices of choices (a bit and a probability); the reference's ChoiceFault.
-/
import Derived.Test.YtnnpkajmheglgaaArSteps
import Derived.Test.YtnnpkajmheglgaaBoxes
namespace Go.Proofs.Ytnnpkajmheglgaa
open Go.RowKit
attribute [local go_sem ↓] Go.wp_at_zero Go.wp_at_succ
set_option linter.unusedVariables false
set_option linter.unusedSimpArgs false
namespace PB
/-- A slice of choices that can be read. -/
def RdC (w : World) (A : Option Addr) (n c : Nat) (xs : List Cho) : Prop :=
  xs.length = n ∧ n ≤ c ∧ c ≤ maxLen ∧ (0 < n → ∃ b off, A = some ⟨b, off, none⟩ ∧ b < w.heap.size ∧ ∀ i x, xs[i]? = some x →
    w.cell? ⟨b, off + i * 2, none⟩ = some (.int .i64 x.b) ∧ w.cell? ⟨b, off + i * 2 + 1, none⟩ = some (.int .i64 x.p))
section
variable {w w' : World} {A : Option Addr} {n c : Nat} {xs : List Cho}
theorem RdC.on (h : RdC w A n c xs) (hb : Below w.heap.size w w') : RdC w' A n c xs := by
  obtain ⟨h1, h2, h3, h4⟩ := h
  refine ⟨h1, h2, h3, fun hn => ?_⟩
  obtain ⟨b, off, e, hlt, hc⟩ := h4 hn
  refine ⟨b, off, e, Nat.lt_of_lt_of_le hlt hb.size, fun i x hx => ?_⟩
  obtain ⟨q1, q2⟩ := hc i x hx
  exact ⟨(hb.cell (p := ⟨b, off + i * 2, none⟩) hlt).trans q1, (hb.cell (p := ⟨b, off + i * 2 + 1, none⟩) hlt).trans q2⟩
theorem RdC.alloc (h : RdC w A n c xs) (o : Obj) : RdC (w.alloc o) A n c xs := h.on ((Below.refl _ _).alloc (Nat.le_refl _) o)
theorem RdC.drew (h : RdC w A n c xs) : RdC w.drew A n c xs := h
theorem RdC.drewN (h : RdC w A n c xs) (q : Nat) : RdC (w.drewN q) A n c xs := h
theorem RdC.len (h : RdC w A n c xs) : xs.length = n := h.1
theorem RdC.at (h : RdC w A n c xs) (k : Nat) (hk : k < xs.length) : ∃ b off, A = some ⟨b, off, none⟩ ∧ b < w.heap.size ∧
    w.cell? ⟨b, off + k * 2, none⟩ = some (.int .i64 xs[k].b) ∧ w.cell? ⟨b, off + k * 2 + 1, none⟩ = some (.int .i64 xs[k].p) := by
  obtain ⟨h1, h2, h3, h4⟩ := h
  obtain ⟨b, off, e, hlt, hc⟩ := h4 (by omega)
  exact ⟨b, off, e, hlt, hc k _ (List.getElem?_eq_getElem hk)⟩
theorem RdC.cells {b off : Nat} {k : Nat} {x : Cho} (h : RdC w (some ⟨b, off, none⟩) n c xs) (hx : xs[k]? = some x) : b < w.heap.size ∧
    w.cell? ⟨b, off + k * 2, none⟩ = some (.int .i64 x.b) ∧ w.cell? ⟨b, off + k * 2 + 1, none⟩ = some (.int .i64 x.p) := by
  have hk : k < xs.length := by
    rcases Nat.lt_or_ge k xs.length with h | h
    · exact h
    · rw [List.getElem?_eq_none h] at hx; cases hx
  obtain ⟨b', off', e, hlt, hc⟩ := h.2.2.2 (by have := h.1; omega)
  injection e with e
  injection e with e1 e2
  subst e1 e2
  exact ⟨hlt, hc k x hx⟩
end
/-- The fault of choices: a code and an index. -/
def COut (cs : List Cho) (code idx : Int) : Prop :=
  (8192 < cs.length ∧ code = 2 ∧ idx = -1) ∨ (cs.length ≤ 8192 ∧ (∃ i : Nat, ∃ h : i < cs.length, (∀ j (hj : j < i), (cs[j]'(by omega)).ok) ∧ ¬ cs[i].ok ∧ code = 4 ∧ idx = (i : Nat))) ∨
  (cs.length ≤ 8192 ∧ AllCho cs ∧ code = 0 ∧ idx = 0)
theorem cout_ex (cs : List Cho) : ∃ code idx, COut cs code idx := by
  rcases Nat.lt_or_ge 8192 cs.length with h | h
  · exact ⟨_, _, .inl ⟨h, rfl, rfl⟩⟩
  · have key : ∀ k, k ≤ cs.length → (∀ j (hj : j < cs.length), j < k → cs[j].ok) ∨ ∃ i : Nat, ∃ h : i < cs.length, (∀ j (hj : j < i), (cs[j]'(by omega)).ok) ∧ ¬ cs[i].ok := by
      intro k
      induction k with
      | zero => intro _; left; intro j _ hj; omega
      | succ k ih =>
        intro hk
        rcases ih (by omega) with h1 | h1
        · by_cases hc : (cs[k]'(by omega)).ok
          · left
            intro j hj hjk
            rcases (by omega : j < k ∨ j = k) with h2 | rfl
            · exact h1 j hj h2
            · exact hc
          · exact .inr ⟨k, by omega, fun j hj => h1 j (by omega) hj, hc⟩
        · exact .inr h1
    rcases key cs.length (Nat.le_refl _) with h1 | ⟨i, hi, h1, h2⟩
    · refine ⟨0, 0, .inr (.inr ⟨h, fun c hc => ?_, rfl, rfl⟩)⟩
      obtain ⟨j, hj, rfl⟩ := List.getElem_of_mem hc
      exact h1 j hj hj
    · exact ⟨4, (i : Nat), .inr (.inl ⟨h, i, hi, h1, h2, rfl, rfl⟩)⟩
theorem cho_split {c : Cho} (h : c.ok) : (((c.b != 0) = false ∧ c.b = 0) ∨ ((c.b != 0) = true ∧ (c.b != 1) = false)) ∧ (1 ≤ c.p ∧ c.p ≤ 4095) := by
  obtain ⟨h1, h2⟩ := h
  refine ⟨?_, h2⟩
  rcases h1 with h1 | h1
  · left; rw [h1]; exact ⟨rfl, rfl⟩
  · right; rw [h1]; exact ⟨rfl, rfl⟩
theorem cho_bad {c : Cho} (h : ¬ c.ok) : ((c.b != 0) = true ∧ (c.b != 1) = true) ∨ (((c.b != 0) = false ∨ ((c.b != 0) = true ∧ (c.b != 1) = false)) ∧ ¬ (1 ≤ c.p ∧ c.p ≤ 4095)) := by
  by_cases h0 : c.b = 0
  · right
    exact ⟨.inl (by rw [h0]; rfl), fun hp => h ⟨.inl h0, hp⟩⟩
  · by_cases h1 : c.b = 1
    · right
      exact ⟨.inr (by rw [h1]; exact ⟨rfl, rfl⟩), fun hp => h ⟨.inr h1, hp⟩⟩
    · left
      exact ⟨by simpa using h0, by simpa using h1⟩
set_option maxRecDepth 100000 in
set_option maxHeartbeats 600000 in
theorem cf_long {A : Option Addr} {n c : Nat} {cs : List Cho} {w : World} (h : RdC w A n c cs) (hl : 8192 < cs.length) :
    Calls Try.prog 12 #[.slice A n c] w fun e w' => e = .returned (.agg #[.int .i64 2, .int .i64 (-1)]) ∧ Below w.heap.size w w' := by
  have hn := h.len
  have hcap := h.2.1
  have hcm := h.2.2.1
  unfold maxLen at hcm
  have X0 := Two.new w 27 (.int .i64 0) (.int .i64 0)
  have y0 : Below w.heap.size w (w.alloc (.cells #[.int .i64 0, .int .i64 0] 27)) := (Below.refl _ _).alloc (Nat.le_refl _) _
  have k0 : decide ((8192 : Int) < (n : Int)) = true := by simp; omega
  clear hn hl
  go_enter Try.func12, Try.ntmps12
  go_wp2_with fail
  refine (refat_any _ _ _).mono ?_
  rintro e w1 ⟨rfl, y1⟩
  have X1 := X0.on y1
  have Y1 := y0.trans (y1.mono y0.size)
  have f0 := X1.f0
  have f1 := X1.f1
  have f2 := X1.c0
  have f3 := X1.c1
  go_wp2
  have r0 := ((X1.set0 (.int .i64 2)).set1 (.int .i64 (-1))).c0
  have r1 := ((X1.set0 (.int .i64 2)).set1 (.int .i64 (-1))).c1
  exact bodyPost_ret (v := .agg #[.int .i64 2, .int .i64 (-1)]) (by simp [results, Try.results12, go_sem, r0, r1]) rfl ⟨rfl, (Y1.setCell (by simp) _).setCell (by simp) _⟩
set_option maxRecDepth 100000 in
set_option maxHeartbeats 1600000 in
theorem cf_upto {A : Option Addr} {n c : Nat} {cs : List Cho} {w : World} (h : RdC w A n c cs) (hl : cs.length ≤ 8192) (q : Nat) (hq : q ≤ cs.length) (hall : ∀ j (hj : j < cs.length), j < q → cs[j].ok) (hbad : ∀ h : q < cs.length, ¬ cs[q].ok) (code idx : Int) (hc : code = if q < cs.length then 4 else 0) (hi : idx = if q < cs.length then (q : Int) else 0) :
    Calls Try.prog 12 #[.slice A n c] w fun e w' => e = .returned (.agg #[.int .i64 code, .int .i64 idx]) ∧ Below w.heap.size w w' := by
  have hn := h.len
  have hcap := h.2.1
  have hcm := h.2.2.1
  unfold maxLen at hcm
  obtain rfl := hn
  have X0 := Two.new w 27 (.int .i64 0) (.int .i64 0)
  have y0 : Below w.heap.size w (w.alloc (.cells #[.int .i64 0, .int .i64 0] 27)) := (Below.refl _ _).alloc (Nat.le_refl _) _
  have k0 : decide ((8192 : Int) < (cs.length : Int)) = false := by simp; omega
  have HA := Lib.hid hall
  have HB := Lib.hid hbad
  have HC := Lib.hid hc
  have HI := Lib.hid hi
  have hR := h.alloc (.cells #[.int .i64 0, .int .i64 0] 27)
  clear hall hbad hc hi h
  obtain ⟨W, hW⟩ : ∃ W, W = w.alloc (.cells #[.int .i64 0, .int .i64 0] 27) := ⟨_, rfl⟩
  go_enter Try.func12, Try.ntmps12
  go_wp2_with fail
  rw [← hW] at X0 y0 hR ⊢
  clear hW
  go_loopw [3] (fun i wr => ∃ k : Nat, k ≤ q ∧ i = .int .i64 (k : Nat) ∧ wr = W) (fun i _ => cs.length - (intOf i).toNat)
  case atStart => exact ⟨0, Nat.zero_le _, rfl, rfl⟩
  case round =>
    obtain ⟨k, hk, rfl, rfl⟩ := hrel
    by_cases hlt : k < cs.length
    · obtain ⟨g, off, rfl, hg, q1, q2⟩ := hR.at k hlt
      obtain ⟨x, hx⟩ : ∃ x, x = cs[k] := ⟨_, rfl⟩
      rw [← hx] at q1 q2
      obtain ⟨xb, xp⟩ := x
      dsimp only at q1 q2
      have i1 : (0 : Int) ≤ (k : Int) := by omega
      have i2 : (k : Int) < (cs.length : Int) := by omega
      by_cases hkq : k < q
      · have hok := HA.out k hlt hkq
        rw [← hx] at hok
        obtain ⟨hbits, hp1, hp2⟩ := cho_split hok
        dsimp only at hbits hp1 hp2
        have HP1 := Lib.hid hp1
        have HP2 := Lib.hid hp2
        clear hx hok hp1 hp2
        rcases hbits with ⟨e0, -⟩ | ⟨e0, e1⟩
        · go_wp2_with fail
          refine (in_yes _ _ _ _ HP1.out HP2.out).mono ?_
          rintro e w9 ⟨rfl, rfl⟩
          go_wp2_with fail
          go_roundw
          case rel => exact ⟨k + 1, by omega, by go_num, by first | rfl | trivial⟩
          case measure => simp [intOf] <;> omega
        · go_wp2_with fail
          refine (in_yes _ _ _ _ HP1.out HP2.out).mono ?_
          rintro e w9 ⟨rfl, rfl⟩
          go_wp2_with fail
          go_roundw
          case rel => exact ⟨k + 1, by omega, by go_num, by first | rfl | trivial⟩
          case measure => simp [intOf] <;> omega
      · obtain rfl : k = q := by omega
        have hno := HB.out hlt
        rw [← hx] at hno
        have e1 := HC.out
        have e2 := HI.out
        rw [if_pos hlt] at e1 e2
        subst e1 e2
        clear hx
        rcases cho_bad hno with ⟨e0, e1⟩ | ⟨hb, hp⟩
        · dsimp only at e0 e1
          clear hno
          go_wp2_with fail
          refine (refat_any _ _ _).mono ?_
          rintro e w1 ⟨rfl, y1⟩
          have X1 := X0.on y1
          have Y1 := y0.trans (y1.mono y0.size)
          have f0 := X1.f0
          have f1 := X1.f1
          have f2 := X1.c0
          have f3 := X1.c1
          go_wp2
          have r0 := ((X1.set0 (.int .i64 4)).set1 (.int .i64 (k : Nat))).c0
          have r1 := ((X1.set0 (.int .i64 4)).set1 (.int .i64 (k : Nat))).c1
          exact bodyPost_ret (v := .agg #[.int .i64 4, .int .i64 (k : Nat)]) (by simp [results, Try.results12, go_sem, r0, r1]) rfl ⟨rfl, (Y1.setCell (by simp) _).setCell (by simp) _⟩
        · dsimp only at hb hp
          have HP := Lib.hid (show xp < 1 ∨ 4095 < xp by omega)
          clear hno hp
          rcases hb with e0 | ⟨e0, e1⟩
          · go_wp2_with fail
            refine (in_no _ _ _ _ HP.out).mono ?_
            rintro e w9 ⟨rfl, rfl⟩
            go_wp2_with fail
            refine (refat_any _ _ _).mono ?_
            rintro e w1 ⟨rfl, y1⟩
            have X1 := X0.on y1
            have Y1 := y0.trans (y1.mono y0.size)
            have f0 := X1.f0
            have f1 := X1.f1
            have f2 := X1.c0
            have f3 := X1.c1
            go_wp2
            have r0 := ((X1.set0 (.int .i64 4)).set1 (.int .i64 (k : Nat))).c0
            have r1 := ((X1.set0 (.int .i64 4)).set1 (.int .i64 (k : Nat))).c1
            exact bodyPost_ret (v := .agg #[.int .i64 4, .int .i64 (k : Nat)]) (by simp [results, Try.results12, go_sem, r0, r1]) rfl ⟨rfl, (Y1.setCell (by simp) _).setCell (by simp) _⟩
          · go_wp2_with fail
            refine (in_no _ _ _ _ HP.out).mono ?_
            rintro e w9 ⟨rfl, rfl⟩
            go_wp2_with fail
            refine (refat_any _ _ _).mono ?_
            rintro e w1 ⟨rfl, y1⟩
            have X1 := X0.on y1
            have Y1 := y0.trans (y1.mono y0.size)
            have f0 := X1.f0
            have f1 := X1.f1
            have f2 := X1.c0
            have f3 := X1.c1
            go_wp2
            have r0 := ((X1.set0 (.int .i64 4)).set1 (.int .i64 (k : Nat))).c0
            have r1 := ((X1.set0 (.int .i64 4)).set1 (.int .i64 (k : Nat))).c1
            exact bodyPost_ret (v := .agg #[.int .i64 4, .int .i64 (k : Nat)]) (by simp [results, Try.results12, go_sem, r0, r1]) rfl ⟨rfl, (Y1.setCell (by simp) _).setCell (by simp) _⟩
    · obtain rfl : k = cs.length := by omega
      obtain rfl : q = cs.length := by omega
      have e1 := HC.out
      have e2 := HI.out
      rw [if_neg hlt] at e1 e2
      subst e1 e2
      have f0 := X0.f0
      have f1 := X0.f1
      have f2 := X0.c0
      have f3 := X0.c1
      go_wp2
      have r0 := ((X0.set0 (.int .i64 0)).set1 (.int .i64 0)).c0
      have r1 := ((X0.set0 (.int .i64 0)).set1 (.int .i64 0)).c1
      exact bodyPost_ret (v := .agg #[.int .i64 0, .int .i64 0]) (by simp [results, Try.results12, go_sem, r0, r1]) rfl ⟨rfl, (y0.setCell (by simp) _).setCell (by simp) _⟩
theorem choicefault_any {A : Option Addr} {n c : Nat} {cs : List Cho} {w : World} (h : RdC w A n c cs) (code idx : Int) (hC : COut cs code idx) :
    Calls Try.prog 12 #[.slice A n c] w fun e w' => e = .returned (.agg #[.int .i64 code, .int .i64 idx]) ∧ Below w.heap.size w w' := by
  rcases hC with ⟨h1, rfl, rfl⟩ | ⟨h1, i, hi, h2, h3, rfl, rfl⟩ | ⟨h1, h2, rfl, rfl⟩
  · exact cf_long h h1
  · exact cf_upto h h1 i (Nat.le_of_lt hi) (fun j hj hji => h2 j hji) (fun _ => h3) 4 _ (by rw [if_pos hi]) (by rw [if_pos hi])
  · exact cf_upto h h1 cs.length (Nat.le_refl _) (fun j hj _ => h2 _ (List.getElem_mem hj)) (fun h => absurd h (Nat.lt_irrefl _)) 0 0 (by rw [if_neg (Nat.lt_irrefl _)]) (by rw [if_neg (Nat.lt_irrefl _)])
end PB
end Go.Proofs.Ytnnpkajmheglgaa
