/-
  A slice of bit strings: what its cells hold; the joined bits. No walk stands in this text.
-/
import Derived.Test.YtnahmiglogddaaaBitsRef4
namespace Go.Proofs.Ytnahmiglogddaaa
open Go.RowKit
set_option linter.unusedVariables false
set_option linter.unusedSimpArgs false
namespace PB
/-- One bit string of a slice of bit strings. -/
structure BItem where
  A : Option Addr
  n : Nat
  c : Nat
  d : List Nat
  cnt : Int
/-- It is valid. -/
def BItem.ok (x : BItem) : Prop := Ok x.d x.cnt
/-- Its bits. -/
def BItem.bits (x : BItem) : List Nat := bitsOf x.d x.cnt.toNat
/-- Its bytes are bytes, its count is an int. -/
def BItem.wf (x : BItem) : Prop := (∀ k, x.d.getD k 0 < 256) ∧ -9223372036854775808 ≤ x.cnt ∧ x.cnt ≤ 9223372036854775807
theorem BItem.bits_01 (x : BItem) : Is01 x.bits := bitsOf_01 _ _
theorem BItem.bits_length (x : BItem) (h : x.ok) : ((x.bits.length : Nat) : Int) = x.cnt := by
  have := h.1
  unfold BItem.bits
  rw [bitsOf_length]; omega
theorem BItem.pack (x : BItem) (h : x.ok) (hw : x.wf) : x.d = PB.pack x.bits := by
  obtain ⟨l, h1, h2, h3, h4⟩ := Ok.list hw.1 h
  unfold BItem.bits
  rw [h4, Int.toNat_natCast, h3, bitsOf_pack h1]
theorem BItem.le (x : BItem) (h : x.ok) : x.bits.length ≤ 131072 := by
  have := BItem.bits_length x h
  have := h.2.1
  omega
/-- A slice of bit strings that can be read. -/
def RdB (w : World) (A : Option Addr) (n c : Nat) (xs : List BItem) : Prop :=
  xs.length = n ∧ n ≤ c ∧ c ≤ maxLen ∧ (0 < n → ∃ b off, A = some ⟨b, off, none⟩ ∧ b < w.heap.size ∧ ∀ i x, xs[i]? = some x →
    w.cell? ⟨b, off + i * 2, none⟩ = some (.slice x.A x.n x.c) ∧ w.cell? ⟨b, off + i * 2 + 1, none⟩ = some (.int .i64 x.cnt) ∧ Rd w x.A x.n x.c (bcells x.d))
theorem RdB.on {w w' : World} {A : Option Addr} {n c : Nat} {xs : List BItem} (h : RdB w A n c xs) (hb : Below w.heap.size w w') : RdB w' A n c xs := by
  obtain ⟨h1, h2, h3, h4⟩ := h
  refine ⟨h1, h2, h3, fun hn => ?_⟩
  obtain ⟨b, off, e, hlt, hc⟩ := h4 hn
  refine ⟨b, off, e, Nat.lt_of_lt_of_le hlt hb.size, fun i x hx => ?_⟩
  obtain ⟨q1, q2, q3⟩ := hc i x hx
  exact ⟨(hb.cell (p := ⟨b, off + i * 2, none⟩) hlt).trans q1, (hb.cell (p := ⟨b, off + i * 2 + 1, none⟩) hlt).trans q2, q3.on hb⟩
theorem RdB.alloc {w : World} {A : Option Addr} {n c : Nat} {xs : List BItem} (h : RdB w A n c xs) (o : Obj) : RdB (w.alloc o) A n c xs := h.on ((Below.refl _ _).alloc (Nat.le_refl _) o)
theorem RdB.drew {w : World} {A : Option Addr} {n c : Nat} {xs : List BItem} (h : RdB w A n c xs) : RdB w.drew A n c xs := h
theorem RdB.drewN {w : World} {A : Option Addr} {n c : Nat} {xs : List BItem} (h : RdB w A n c xs) (q : Nat) : RdB (w.drewN q) A n c xs := h
/-- The joined bits. -/
def joined (xs : List BItem) : List Nat := xs.flatMap BItem.bits
theorem joined_01 (xs : List BItem) : Is01 (joined xs) := by
  refine Is01.of_mem fun x hx => ?_
  obtain ⟨y, _, hy⟩ := List.mem_flatMap.1 hx
  exact (BItem.bits_01 y).mem hy
theorem joined_snoc (xs : List BItem) (x : BItem) : joined (xs ++ [x]) = joined xs ++ x.bits := by simp [joined]
theorem joined_take_succ (xs : List BItem) (k : Nat) (h : k < xs.length) : joined (xs.take (k + 1)) = joined (xs.take k) ++ xs[k].bits := by
  rw [List.take_succ_eq_append_getElem h, joined_snoc]
/-- The first q bit strings are valid. -/
def AllOk (xs : List BItem) (q : Nat) : Prop := ∀ i (h : i < xs.length), i < q → xs[i].ok
theorem joined_take_le (xs : List BItem) (q : Nat) (h : AllOk xs q) : ∀ k, k ≤ q → (joined (xs.take k)).length ≤ k * 131072 := by
  intro k
  induction k with
  | zero => intro _; rw [List.take_zero]; exact Nat.zero_le _
  | succ k ih =>
    intro hk
    have := ih (by omega)
    rcases Nat.lt_or_ge k xs.length with hl | hl
    · rw [joined_take_succ xs k hl, List.length_append]
      have := BItem.le xs[k] (h k hl (by omega))
      omega
    · have e : xs.take (k + 1) = xs.take k := by rw [List.take_of_length_le (by omega), List.take_of_length_le hl]
      have e2 : (joined (xs.take (k + 1))).length = (joined (xs.take k)).length := congrArg (fun y => (joined y).length) e
      omega
theorem joined_take_mono (xs : List BItem) (k : Nat) : (joined (xs.take k)).length ≤ (joined xs).length := by
  have : joined xs = joined (xs.take k) ++ joined (xs.drop k) := by
    unfold joined
    rw [← List.flatMap_append, List.take_append_drop]
  rw [this, List.length_append]; omega
/-- Where the walk over the bit strings stops: at the first one that is not valid, or behind the last one. -/
theorem stop_ex (xs : List BItem) : ∃ q, q ≤ xs.length ∧ AllOk xs q ∧ ∀ h : q < xs.length, ¬ xs[q].ok := by
  by_cases h : ∃ i, ∃ h : i < xs.length, ¬ xs[i].ok
  · obtain ⟨i0, h0⟩ := h
    induction i0 using Nat.strongRecOn with
    | _ i0 ih =>
      by_cases h1 : ∃ i, i < i0 ∧ ∃ h : i < xs.length, ¬ xs[i].ok
      · obtain ⟨i, hi, hh⟩ := h1
        exact ih i hi hh
      · obtain ⟨h2, h3⟩ := h0
        refine ⟨i0, by omega, fun i hi hlt => ?_, fun _ => h3⟩
        by_cases h4 : xs[i].ok
        · exact h4
        · exact absurd ⟨i, hlt, hi, h4⟩ h1
  · refine ⟨xs.length, Nat.le_refl _, fun i hi _ => ?_, fun h => absurd h (by omega)⟩
    by_cases h4 : xs[i].ok
    · exact h4
    · exact absurd ⟨i, hi, h4⟩ h
/-- What JoinFault says. -/
def JOut (xs : List BItem) (code idx : Int) : Prop :=
  (256 < xs.length ∧ code = 2 ∧ idx = -1) ∨
  (xs.length ≤ 256 ∧ ∃ q, ∃ h : q < xs.length, AllOk xs q ∧ ¬ xs[q].ok ∧ code = 6 ∧ idx = (q : Nat)) ∨
  (xs.length ≤ 256 ∧ AllOk xs xs.length ∧ 131072 < (joined xs).length ∧ code = 14 ∧ idx = -1) ∨
  (xs.length ≤ 256 ∧ AllOk xs xs.length ∧ (joined xs).length ≤ 131072 ∧ code = 0 ∧ idx = 0)
theorem jout_ex (xs : List BItem) : ∃ code idx, JOut xs code idx := by
  by_cases h1 : 256 < xs.length
  · exact ⟨_, _, .inl ⟨h1, rfl, rfl⟩⟩
  obtain ⟨q, hq, ha, hb⟩ := stop_ex xs
  by_cases h2 : q < xs.length
  · exact ⟨_, _, .inr (.inl ⟨by omega, q, h2, ha, hb h2, rfl, rfl⟩)⟩
  obtain rfl : q = xs.length := by omega
  by_cases h3 : 131072 < (joined xs).length
  · exact ⟨_, _, .inr (.inr (.inl ⟨by omega, ha, h3, rfl, rfl⟩))⟩
  · exact ⟨_, _, .inr (.inr (.inr ⟨by omega, ha, by omega, rfl, rfl⟩))⟩
end PB
end Go.Proofs.Ytnahmiglogddaaa
