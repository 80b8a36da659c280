/-
  The reference's functions on bits: Digits, Number, Gamma, GammaAt.
-/
import Derived.Test.YtnahmiglogddaaaRows
import Derived.Test.YtnahmiglogddaaaKit
namespace Go.Proofs.Ytnahmiglogddaaa
open Go.RowKit
set_option linter.unusedVariables false
set_option linter.unusedSimpArgs false
namespace PB
theorem digs_cons (k : Nat) : ∀ v, digs v (k + 1) = (v / 2 ^ k % 2) :: digs v k := by
  induction k with
  | zero => intro v; simp [digs]
  | succ k ih =>
    intro v
    show digs (v / 2) (k + 1) ++ [v % 2] = _
    rw [ih (v / 2), Nat.div_div_eq_div_mul, ← Nat.pow_succ']
    rfl
theorem digs_pad (a : Nat) : ∀ x b, x < 2 ^ b → digs x (a + b) = List.replicate a 0 ++ digs x b := by
  induction a with
  | zero => intro x b h; simp
  | succ a ih =>
    intro x b h
    rw [show a + 1 + b = (a + b) + 1 by omega, digs_cons, ih x b h]
    have : x < 2 ^ (a + b) := Nat.lt_of_lt_of_le h (Nat.pow_le_pow_right (by decide) (by omega))
    rw [Nat.div_eq_of_lt this]
    rfl
/-- What Digits has made behind k rounds. -/
def dgs (v m k : Nat) : List Nat := List.replicate (m - k) 0 ++ digs v k
theorem dgs_length (v m k : Nat) (h : k ≤ m) : (dgs v m k).length = m := by simp [dgs, digs_length]; omega
theorem dgs_step (v m k : Nat) (h : k < m) : ncells (dgs v m (k + 1)) = (ncells (dgs v m k)).set (m - k - 1) (.int .i64 ((v / 2 ^ k % 2 : Nat) : Int)) := by
  have e : (ncells (dgs v m k)).set (m - k - 1) (.int .i64 ((v / 2 ^ k % 2 : Nat) : Int)) = ncells ((dgs v m k).set (m - k - 1) (v / 2 ^ k % 2)) := by simp [ncells, List.map_set]
  rw [e]
  congr 1
  unfold dgs
  rw [digs_cons, show m - k = (m - (k + 1)) + 1 by omega, List.replicate_succ', List.append_assoc, List.set_append_right _ _ (by simp)]
  simp
theorem dgs_zeros (v m : Nat) : List.replicate m (Value.int .i64 0) = ncells (dgs v m 0) := by simp [dgs, digs, ncells]
theorem num_take_lt {l : List Nat} (h01 : Is01 l) (hl : l.length ≤ 61) (k : Nat) : num (l.take k) < 2305843009213693952 := by
  have h1 := num_lt (h01.take k)
  have h2 : 2 ^ (l.take k).length ≤ 2 ^ 61 := Nat.pow_le_pow_right (by decide) (by rw [List.length_take]; omega)
  omega
/-- The gamma code of a number from 1 on. -/
def gam (x : Nat) : List Nat := digs x (gsz x)
theorem gam_length (x : Nat) : (gam x).length = gsz x := digs_length _ _
theorem gam_parts (x : Nat) (h1 : 1 ≤ x) (h2 : x < 9223372036854775808) : gam x = List.replicate (Lib.bitLen x - 1) 0 ++ digs x (Lib.bitLen x) := by
  obtain ⟨a, b, c⟩ := bitLen_bounds x h1 (by omega)
  unfold gam gsz
  rw [show 2 * Lib.bitLen x - 1 = (Lib.bitLen x - 1) + Lib.bitLen x by omega]
  exact digs_pad _ _ _ c
theorem div_pow_pos (x k : Nat) (h1 : 1 ≤ x) (h2 : x < 9223372036854775808) : 0 < x / 2 ^ k ↔ k < Lib.bitLen x := by
  obtain ⟨a, b, c⟩ := bitLen_bounds x h1 (by omega)
  constructor
  · intro h
    rcases Nat.lt_or_ge k (Lib.bitLen x) with h3 | h3
    · exact h3
    · have : x < 2 ^ k := Nat.lt_of_lt_of_le c (Nat.pow_le_pow_right (by decide) h3)
      rw [Nat.div_eq_of_lt this] at h; omega
  · intro h
    exact Nat.div_pos (Nat.le_trans (Nat.pow_le_pow_right (by decide) (by omega)) b) (Nat.two_pow_pos _)
/-- What GammaAt hands back: the number, the position behind it, the code of an error. -/
def GAt (l : List Nat) (f : Nat) (v e c : Nat) : Prop :=
  (31 ≤ zr l f ∧ v = 0 ∧ e = 0 ∧ c = 16) ∨ (zr l f ≤ 30 ∧ l.length < f + 2 * zr l f + 1 ∧ v = 0 ∧ e = 0 ∧ c = 15) ∨
  (zr l f ≤ 30 ∧ f + 2 * zr l f + 1 ≤ l.length ∧ v = num ((l.drop (f + zr l f)).take (zr l f + 1)) ∧ e = f + 2 * zr l f + 1 ∧ c = 0)
theorem gat_ex (l : List Nat) (f : Nat) : ∃ v e c, GAt l f v e c := by
  by_cases h1 : 31 ≤ zr l f
  · exact ⟨_, _, _, .inl ⟨h1, rfl, rfl, rfl⟩⟩
  · by_cases h2 : l.length < f + 2 * zr l f + 1
    · exact ⟨_, _, _, .inr (.inl ⟨by omega, h2, rfl, rfl, rfl⟩)⟩
    · exact ⟨_, _, _, .inr (.inr ⟨by omega, by omega, rfl, rfl, rfl⟩)⟩
theorem Rd.slice {w : World} {A : Option Addr} {n c : Nat} {l : List Nat} (h : Rd w A n c (ncells l)) (f t : Nat) (hf : f < t) (ht : t ≤ l.length) :
    ∃ b off, A = some ⟨b, off, none⟩ ∧ Rd w (some ⟨b, off + f, none⟩) (t - f) (c - f) (ncells ((l.drop f).take (t - f))) := by
  have hn := h.len
  rw [ncells_length] at hn
  obtain ⟨h1, h2, h3, h4⟩ := h
  obtain ⟨b, off, e, hb, hc⟩ := h4 (by omega)
  refine ⟨b, off, e, by rw [ncells_length, List.length_take, List.length_drop]; omega, by omega, by omega, fun _ => ⟨b, off + f, rfl, hb, fun j u hu => ?_⟩⟩
  have hj : j < t - f := by
    rcases Nat.lt_or_ge j (t - f) with h | h
    · exact h
    · rw [List.getElem?_eq_none (by rw [ncells_length, List.length_take, List.length_drop]; omega)] at hu; cases hu
  have := hc (f + j) u (by
    rw [← hu]
    unfold ncells
    rw [List.getElem?_map, List.getElem?_map, List.getElem?_take, if_pos hj, List.getElem?_drop])
  rw [Nat.add_assoc]
  exact this
end PB
end Go.Proofs.Ytnahmiglogddaaa
