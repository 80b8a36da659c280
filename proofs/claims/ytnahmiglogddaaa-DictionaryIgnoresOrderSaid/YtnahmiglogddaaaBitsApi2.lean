/-
  The contracts of bits.Join, bits.Slice and bits.AppendGamma as the laws use them.
-/
import Derived.Test.YtnahmiglogddaaaRows
import Derived.Test.YtnahmiglogddaaaBitsJoin
namespace Go.Proofs.Ytnahmiglogddaaa
open Go.RowKit
set_option linter.unusedVariables false
set_option linter.unusedSimpArgs false
namespace PB
theorem lit4 (w : World) (t : TypeId) (v0 v1 v2 v3 : Value) (i : Nat) : (w.alloc (.cells #[v0, v1, v2, v3] t)).cell? ⟨w.heap.size, i, none⟩ = #[v0, v1, v2, v3][i]? :=
  Blk.cell (Blk.new w t #[v0, v1, v2, v3]) i
theorem takeWhile_rep (k : Nat) (x : Nat) (t : List Nat) (hx : x ≠ 0) : (List.replicate k 0 ++ x :: t).takeWhile (· == 0) = List.replicate k 0 := by
  induction k with
  | zero => simp [hx]
  | succ k ih => simp [List.replicate_succ, ih]
/-- A gamma code that was added is read at its place. -/
theorem gat_gam (l r : List Nat) (x : Nat) (h1 : 1 ≤ x) (h2 : x ≤ 2147483647) : GAt (l ++ gam x ++ r) l.length x (l.length + gsz x) 0 := by
  obtain ⟨a, b, c⟩ := bitLen_bounds x h1 (by omega)
  have hL : Lib.bitLen x ≤ 31 := Lib.bitLen_le x 31 (by decide) (by omega)
  obtain ⟨K, hK⟩ : ∃ K, Lib.bitLen x = K + 1 := ⟨Lib.bitLen x - 1, by omega⟩
  have hg := gam_parts x h1 (by omega)
  rw [hK] at hg b c
  rw [Nat.add_sub_cancel] at b
  have htop : x / 2 ^ K % 2 = 1 := by
    have hp : 0 < 2 ^ K := Nat.two_pow_pos K
    have q1 : 1 ≤ x / 2 ^ K := (Nat.le_div_iff_mul_le hp).2 (by omega)
    have q2 : x / 2 ^ K < 2 := Nat.div_lt_of_lt_mul (by rw [Nat.pow_succ] at c; omega)
    omega
  rw [digs_cons, htop, Nat.add_sub_cancel] at hg
  have hgs : gsz x = 2 * K + 1 := by unfold gsz; omega
  have hz : zr (l ++ gam x ++ r) l.length = K := by
    unfold zr
    rw [List.append_assoc, List.drop_left, hg, List.append_assoc, List.cons_append, takeWhile_rep _ _ _ (by decide), List.length_replicate]
  refine .inr (.inr ⟨by omega, ?_, ?_, by omega, rfl⟩)
  · rw [hz, List.length_append, List.length_append, gam_length]; omega
  · rw [hz, List.append_assoc, ← List.drop_drop, List.drop_left, hg, List.append_assoc, List.drop_left' (by simp)]
    have e : (1 :: digs x K ++ r).take (K + 1) = 1 :: digs x K := by
      rw [List.take_left' (by simp [digs_length])]
    rw [e, ← htop, ← digs_cons, num_digs _ _ c]
/-- Which fault bits.AppendGamma tells. -/
def GErr (d : List Nat) (cnt x code idx : Int) : Prop :=
  (¬ Ok d cnt ∧ code = 6 ∧ idx = -1) ∨ (Ok d cnt ∧ (x < 1 ∨ 2147483647 < x) ∧ code = 4 ∧ idx = -2) ∨ (Ok d cnt ∧ 1 ≤ x ∧ x ≤ 2147483647 ∧ 131072 < cnt + (gsz x.toNat : Nat) ∧ code = 14 ∧ idx = -1)
theorem GErr.code {d : List Nat} {cnt x code idx : Int} (h : GErr d cnt x code idx) : (code != 0) = true := by
  rcases h with ⟨_, rfl, _⟩ | ⟨_, _, rfl, _⟩ | ⟨_, _, _, _, rfl, _⟩ <;> decide
theorem agamma_cases (d : List Nat) (cnt x : Int) (hd : ∀ k, d.getD k 0 < 256) : (∃ code idx, GErr d cnt x code idx) ∨ ∃ (l : List Nat) (y : Nat), Is01 l ∧ l.length ≤ 131072 ∧ d = pack l ∧ cnt = l.length ∧ x = (y : Nat) ∧ 1 ≤ y ∧ y ≤ 2147483647 ∧ l.length + gsz y ≤ 131072 := by
  by_cases h0 : Ok d cnt
  case neg => exact .inl ⟨6, -1, .inl ⟨h0, rfl, rfl⟩⟩
  by_cases h1 : x < 1 ∨ 2147483647 < x
  · exact .inl ⟨4, -2, .inr (.inl ⟨h0, h1, rfl, rfl⟩)⟩
  by_cases h2 : 131072 < cnt + (gsz x.toNat : Nat)
  · exact .inl ⟨14, -1, .inr (.inr ⟨h0, by omega, by omega, h2, rfl, rfl⟩)⟩
  · obtain ⟨l, g1, g2, g3, g4⟩ := h0.list hd
    obtain ⟨y, rfl⟩ := Int.eq_ofNat_of_zero_le (show 0 ≤ x by omega)
    rw [Int.toNat_natCast] at h2
    exact .inr ⟨l, y, g1, g2, g3, g4, rfl, by omega, by omega, by omega⟩
/-- Which fault bits.Slice tells. -/
def SErr (d : List Nat) (cnt f t code idx : Int) : Prop :=
  (¬ Ok d cnt ∧ code = 6 ∧ idx = -1) ∨ (Ok d cnt ∧ (f < 0 ∨ cnt < f) ∧ code = 4 ∧ idx = -2) ∨ (Ok d cnt ∧ 0 ≤ f ∧ f ≤ cnt ∧ (t < f ∨ cnt < t) ∧ code = 4 ∧ idx = -3)
end PB
end Go.Proofs.Ytnahmiglogddaaa
