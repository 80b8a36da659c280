/-
  Plain facts on tokens: the bytes for which they stand, what they cost. No walk stands in this text.
-/
import Derived.Test.YtnahmiglogddaaaLzTok3
namespace Go.Proofs.Ytnahmiglogddaaa
open Go.RowKit
set_option linter.unusedVariables false
set_option linter.unusedSimpArgs false
namespace PB
/-- k bytes more, each the one at the distance d. -/
def copyN (d : Nat) : Nat → List Nat → List Nat
  | 0, w => w
  | k + 1, w => copyN d k (w ++ [w.getD (w.length - d) 0])
theorem copyN_snoc (d : Nat) : ∀ k w, copyN d (k + 1) w = copyN d k w ++ [(copyN d k w).getD ((copyN d k w).length - d) 0] := by
  intro k
  induction k with
  | zero => intro w; rfl
  | succ k ih =>
    intro w
    show copyN d (k + 1) (w ++ [w.getD (w.length - d) 0]) = _
    rw [ih]
    rfl
theorem copyN_length (d : Nat) : ∀ k w, (copyN d k w).length = w.length + k := by
  intro k
  induction k with
  | zero => intro w; rfl
  | succ k ih => intro w; show (copyN d k _).length = _; rw [ih, List.length_append]; simp; omega
/-- The bytes behind a token. -/
def ext (w : List Nat) (t : Tok) : List Nat := if t.d = 0 then w ++ [t.lit] else copyN t.d.toNat t.n.toNat w
/-- How many bytes a token stands for. -/
def tlen (t : Tok) : Nat := if t.d = 0 then 1 else t.n.toNat
theorem ext_length (w : List Nat) (t : Tok) : (ext w t).length = w.length + tlen t := by
  unfold ext tlen
  split
  · simp
  · exact copyN_length _ _ _
theorem tlen_max (t : Tok) (h : t.ok) : ((tlen t : Nat) : Int) = max t.n 1 := by
  unfold tlen
  rcases h with ⟨h1, h2⟩ | ⟨_, h1, _, h3, _⟩
  · rw [if_pos h1, h2]; rfl
  · rw [if_neg (by omega)]; omega
theorem tlen_pos (t : Tok) (h : t.ok) : 1 ≤ tlen t ∧ tlen t ≤ 1024 := by
  unfold tlen
  rcases h with ⟨h1, h2⟩ | ⟨_, h1, _, h3, h4⟩
  · rw [if_pos h1]; omega
  · rw [if_neg (by omega)]; omega
/-- What lz.Expand does with valid tokens from the k-th one on, behind the window w, dl bytes of which are the dictionary: a code, an index, a window. -/
def expf (dl : Nat) : List Tok → Nat → List Nat → Int × Int × List Nat
  | [], _, w => (0, 0, w)
  | t :: ts, k, w => if (w.length : Int) < t.d then (4, (k : Nat), w) else if 1024 < w.length - dl + tlen t then (14, (k : Nat), w) else expf dl ts (k + 1) (ext w t)
theorem expf_code (dl : Nat) : ∀ xs k w, (expf dl xs k w).1 = 0 ∨ (expf dl xs k w).1 = 4 ∨ (expf dl xs k w).1 = 14 := by
  intro xs
  induction xs with
  | nil => intro k w; exact .inl rfl
  | cons t ts ih =>
    intro k w
    rw [expf]
    split
    · exact .inr (.inl rfl)
    · split
      · exact .inr (.inr rfl)
      · exact ih _ _
theorem expf_idx (dl : Nat) : ∀ xs k w, (expf dl xs k w).1 = 0 → (expf dl xs k w).2.1 = 0 := by
  intro xs
  induction xs with
  | nil => intro k w h; rfl
  | cons t ts ih =>
    intro k w h
    rw [expf] at h ⊢
    split at h
    · simp at h
    · split at h
      · simp at h
      · rename_i h1 h2
        rw [if_neg h1, if_neg h2]
        exact ih _ _ h
theorem copyN_bytes (d : Nat) : ∀ k w, (∀ i, w.getD i 0 < 256) → ∀ i, (copyN d k w).getD i 0 < 256 := by
  intro k
  induction k with
  | zero => intro w h; exact h
  | succ k ih =>
    intro w h
    refine ih _ fun i => ?_
    rcases Nat.lt_or_ge i w.length with hi | hi
    · rw [getD_append_lt hi]; exact h i
    · rw [getD_append_ge hi]
      rcases Nat.eq_zero_or_pos (i - w.length) with h0 | h0
      · rw [h0]; exact h _
      · rw [getD_ge (by simp; omega)]; decide
theorem ext_bytes (w : List Nat) (t : Tok) (ht : t.lit < 256) (h : ∀ i, w.getD i 0 < 256) : ∀ i, (ext w t).getD i 0 < 256 := by
  unfold ext
  split
  · intro i
    rcases Nat.lt_or_ge i w.length with hi | hi
    · rw [getD_append_lt hi]; exact h i
    · rw [getD_append_ge hi]
      rcases Nat.eq_zero_or_pos (i - w.length) with h0 | h0
      · rw [h0]; exact ht
      · rw [getD_ge (by simp; omega)]; decide
  · exact copyN_bytes _ _ _ h
theorem expf_bytes (dl : Nat) : ∀ xs k w, (∀ t ∈ xs, t.lit < 256) → (∀ i, w.getD i 0 < 256) → ∀ i, (expf dl xs k w).2.2.getD i 0 < 256 := by
  intro xs
  induction xs with
  | nil => intro k w _ h; exact h
  | cons t ts ih =>
    intro k w ht h
    rw [expf]
    split
    · exact h
    · split
      · exact h
      · exact ih _ _ (fun x hx => ht x (List.mem_cons_of_mem _ hx)) (ext_bytes w t (ht t (List.mem_cons_self ..)) h)
/-- The window only grows. -/
theorem expf_len (dl : Nat) : ∀ xs k w, w.length ≤ (expf dl xs k w).2.2.length ∧ (w.length ≤ dl + 1024 → (expf dl xs k w).2.2.length ≤ dl + 1024) := by
  intro xs
  induction xs with
  | nil => intro k w; exact ⟨Nat.le_refl _, id⟩
  | cons t ts ih =>
    intro k w
    rw [expf]
    split
    · exact ⟨Nat.le_refl _, id⟩
    · split
      · exact ⟨Nat.le_refl _, id⟩
      · rename_i h1 h2
        obtain ⟨a, b⟩ := ih (k + 1) (ext w t)
        rw [ext_length] at a b
        exact ⟨by omega, fun h => b (by omega)⟩
/-- What tokens cost together. -/
def costs (xs : List Tok) : Nat := (xs.map tcost).sum
theorem costs_take_succ (xs : List Tok) (k : Nat) (h : k < xs.length) : costs (xs.take (k + 1)) = costs (xs.take k) + tcost xs[k] := by
  unfold costs
  rw [List.take_succ_eq_append_getElem h, List.map_append, List.sum_append]; simp
theorem costs_take_le (xs : List Tok) (h : AllTok xs xs.length) : ∀ k, costs (xs.take k) ≤ k * 400 := by
  intro k
  induction k with
  | zero => exact Nat.zero_le _
  | succ k ih =>
    rcases Nat.lt_or_ge k xs.length with hl | hl
    · rw [costs_take_succ xs k hl]
      have := tcost_le xs[k] (h k hl hl)
      omega
    · have e : xs.take (k + 1) = xs.take k := by rw [List.take_of_length_le (by omega), List.take_of_length_le hl]
      have e2 : costs (xs.take (k + 1)) = costs (xs.take k) := congrArg costs e
      omega
end PB
end Go.Proofs.Ytnahmiglogddaaa
