/-
  Plain facts on ranks: the ones before a position, the sums at every 64th position, the position of the k-th bit with a value. Nothing of Go and no program stands in this text.
-/
import Derived.Test.YtckimocmppdecaaBitsPlain
namespace Go.Proofs.Ytckimocmppdecaa
set_option linter.unusedVariables false
set_option linter.unusedSimpArgs false
namespace PB
/-- The sum of some numbers. -/
def ones (l : List Nat) : Nat := l.foldl (· + ·) 0
theorem ones_snoc (l : List Nat) (x : Nat) : ones (l ++ [x]) = ones l + x := by simp [ones]
theorem ones_foldl (l : List Nat) : ∀ a, l.foldl (· + ·) a = a + ones l := by
  induction l with
  | nil => intro a; simp [ones]
  | cons x l ih =>
    intro a
    unfold ones
    rw [List.foldl_cons, List.foldl_cons, ih, ih (0 + x)]
    omega
theorem ones_append (a b : List Nat) : ones (a ++ b) = ones a + ones b := by
  unfold ones
  rw [List.foldl_append, ones_foldl]; rfl
theorem ones_take_succ (l : List Nat) (k : Nat) (h : k < l.length) : ones (l.take (k + 1)) = ones (l.take k) + l.getD k 0 := by
  rw [List.take_succ_eq_append_getElem h, ones_snoc, getD_lt h]
theorem ones_le {l : List Nat} (h : Is01 l) : ones l ≤ l.length := by
  induction l with
  | nil => simp [ones]
  | cons x l ih =>
    have hx : x < 2 := h.mem (by simp)
    have := ih (Is01.of_mem fun _ hy => h.mem (List.mem_cons_of_mem _ hy))
    unfold ones
    rw [List.foldl_cons, ones_foldl, List.length_cons]
    omega
theorem ones_take_le {l : List Nat} (h : Is01 l) (k : Nat) : ones (l.take k) ≤ k := by
  have := ones_le (h.take k)
  rw [List.length_take] at this
  omega
theorem ones_take_le2 {l : List Nat} (h : Is01 l) (k : Nat) : ones (l.take k) ≤ l.length := by
  have := ones_le (h.take k)
  rw [List.length_take] at this
  omega
/-- The numbers of ones before every 64th position. -/
def sumsL (l : List Nat) : List Nat := (List.range (l.length / 64 + 1)).map fun j => ones (l.take (64 * j))
theorem sumsL_length (l : List Nat) : (sumsL l).length = l.length / 64 + 1 := by simp [sumsL]
theorem sumsL_getD (l : List Nat) (j : Nat) (h : j ≤ l.length / 64) : (sumsL l).getD j 0 = ones (l.take (64 * j)) := by
  unfold sumsL
  exact getD_map_range _ _ _ (by omega)
theorem sumsL_take_succ (l : List Nat) (j : Nat) (h : j ≤ l.length / 64) : (sumsL l).take (j + 1) = (sumsL l).take j ++ [ones (l.take (64 * j))] := by
  have hj : j < (sumsL l).length := by rw [sumsL_length]; omega
  rw [List.take_succ_eq_append_getElem hj, ← getD_lt hj, sumsL_getD l j h]
/-- How many bits with a value there are. -/
def cntv (v : Nat) (l : List Nat) : Nat := (l.filter (· == v)).length
theorem cntv_snoc (v : Nat) (l : List Nat) (x : Nat) : cntv v (l ++ [x]) = cntv v l + if x = v then 1 else 0 := by
  unfold cntv
  rw [List.filter_append, List.length_append]
  by_cases h : x = v <;> simp [h]
theorem cntv_take_succ (v : Nat) (l : List Nat) (k : Nat) (h : k < l.length) : cntv v (l.take (k + 1)) = cntv v (l.take k) + if l.getD k 0 = v then 1 else 0 := by
  rw [List.take_succ_eq_append_getElem h, cntv_snoc, getD_lt h]
theorem cntv_one {l : List Nat} (h : Is01 l) : cntv 1 l = ones l := by
  induction l with
  | nil => rfl
  | cons x l ih =>
    have hx : x < 2 := h.mem (by simp)
    have := ih (Is01.of_mem fun _ hy => h.mem (List.mem_cons_of_mem _ hy))
    unfold ones
    rw [List.foldl_cons, ones_foldl, ← this]
    unfold cntv
    rcases (by omega : x = 0 ∨ x = 1) with rfl | rfl <;> simp <;> omega
theorem cntv_zero {l : List Nat} (h : Is01 l) : cntv 0 l + ones l = l.length := by
  induction l with
  | nil => rfl
  | cons x l ih =>
    have hx : x < 2 := h.mem (by simp)
    have := ih (Is01.of_mem fun _ hy => h.mem (List.mem_cons_of_mem _ hy))
    unfold ones
    rw [List.foldl_cons, ones_foldl, List.length_cons]
    unfold cntv at *
    rcases (by omega : x = 0 ∨ x = 1) with rfl | rfl <;> simp <;> omega
theorem cntv_mono (v : Nat) (l : List Nat) (i j : Nat) (h : i ≤ j) : cntv v (l.take i) ≤ cntv v (l.take j) := by
  have e : l.take j = l.take i ++ (l.take j).drop i := by
    have := (List.take_append_drop i (l.take j)).symm
    rwa [List.take_take, Nat.min_eq_left h] at this
  rw [e]
  unfold cntv
  rw [List.filter_append, List.length_append]; omega
/-- The k-th bit with a value stands at p. -/
def PlaceAt (l : List Nat) (k v p : Nat) : Prop := p < l.length ∧ l.getD p 0 = v ∧ cntv v (l.take p) = k
/-- There is no k-th bit with a value. -/
def NoPlace (l : List Nat) (k v : Nat) : Prop := cntv v l ≤ k
theorem place_or (l : List Nat) (k v : Nat) : NoPlace l k v ∨ ∃ p, PlaceAt l k v p := by
  by_cases h : cntv v l ≤ k
  · exact .inl h
  right
  have key : ∀ n, n ≤ l.length → k < cntv v (l.take n) → ∃ p, p < n ∧ l.getD p 0 = v ∧ cntv v (l.take p) = k := by
    intro n
    induction n with
    | zero => intro _ h; simp [cntv] at h
    | succ n ih =>
      intro hn hk
      rw [cntv_take_succ v l n (by omega)] at hk
      by_cases h1 : k < cntv v (l.take n)
      · obtain ⟨p, hp, h2, h3⟩ := ih (by omega) h1
        exact ⟨p, by omega, h2, h3⟩
      · by_cases h2 : l.getD n 0 = v
        · rw [if_pos h2] at hk
          exact ⟨n, by omega, h2, by omega⟩
        · rw [if_neg h2] at hk
          omega
  obtain ⟨p, h1, h2, h3⟩ := key l.length (Nat.le_refl _) (by rw [List.take_of_length_le (Nat.le_refl _)]; omega)
  exact ⟨p, h1, h2, h3⟩
theorem NoPlace.at {l : List Nat} {k v : Nat} (h : NoPlace l k v) (i : Nat) : cntv v (l.take i) ≤ k := by
  have := cntv_mono v l i (max i l.length) (by omega)
  rw [List.take_of_length_le (by omega : l.length ≤ max i l.length)] at this
  exact Nat.le_trans this h
/-- Before the place, a bit with the value is one of the first k. -/
theorem PlaceAt.before {l : List Nat} {k v p : Nat} (h : PlaceAt l k v p) (i : Nat) (hi : i < p) (hv : l.getD i 0 = v) : cntv v (l.take i) < k := by
  obtain ⟨h1, h2, h3⟩ := h
  have := cntv_take_succ v l i (by omega)
  rw [if_pos hv] at this
  have := cntv_mono v l (i + 1) p (by omega)
  omega
theorem PlaceAt.le {l : List Nat} {k v p : Nat} (h : PlaceAt l k v p) (i : Nat) (hi : i ≤ p) : cntv v (l.take i) ≤ k := by
  have := cntv_mono v l i p hi
  rw [h.2.2] at this; exact this
end PB
end Go.Proofs.Ytckimocmppdecaa
