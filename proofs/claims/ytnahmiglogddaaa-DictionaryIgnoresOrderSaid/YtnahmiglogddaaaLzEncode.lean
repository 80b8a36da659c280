/-
  lz.Encode: the code of tokens.
-/
import Derived.Test.YtnahmiglogddaaaLzCost
import Derived.Test.YtnahmiglogddaaaBitsApi2
namespace Go.Proofs.Ytnahmiglogddaaa
open Go.RowKit
attribute [local go_sem ↓] Go.wp_at_zero Go.wp_at_succ
set_option linter.unusedVariables false
set_option linter.unusedSimpArgs false
namespace PB
/-- The code of a valid token. -/
def tokbits (t : Tok) : List Nat := if t.d = 0 then digs t.lit 9 else 1 :: (gam t.d.toNat ++ gam (t.n.toNat - 2))
theorem tokbits_01 (t : Tok) : Is01 (tokbits t) := by
  unfold tokbits
  split
  · exact digs_01 _ _
  · exact Is01.append (a := [1]) (Is01.of_mem (by simp)) ((digs_01 _ _).append (digs_01 _ _))
theorem tokbits_length (t : Tok) (h : t.ok) : (tokbits t).length = tcost t := by
  unfold tokbits tcost
  split
  · exact digs_length _ _
  · simp only [List.length_cons, List.length_append, gam_length]
    unfold mcost
    omega
theorem tcost_le2 (t : Tok) (h : t.ok) : tcost t ≤ 50 := by
  unfold tcost
  split
  · omega
  · rename_i hd
    rcases h with h | ⟨_, h1, h2, h3, h4⟩
    · exact absurd h.1 hd
    · have a := Lib.bitLen_le t.d.toNat 11 (by decide) (by omega)
      have b := Lib.bitLen_le (t.n.toNat - 2) 11 (by decide) (by omega)
      unfold mcost gsz
      omega
/-- The code of tokens. -/
def codeOf (xs : List Tok) : List Nat := xs.flatMap tokbits
theorem codeOf_01 (xs : List Tok) : Is01 (codeOf xs) := by
  refine Is01.of_mem fun x hx => ?_
  obtain ⟨y, _, hy⟩ := List.mem_flatMap.1 hx
  exact (tokbits_01 y).mem hy
theorem codeOf_take_succ (xs : List Tok) (k : Nat) (h : k < xs.length) : codeOf (xs.take (k + 1)) = codeOf (xs.take k) ++ tokbits xs[k] := by
  rw [List.take_succ_eq_append_getElem h]; unfold codeOf; rw [List.flatMap_append, List.flatMap_singleton]
theorem codeOf_take_le (xs : List Tok) (h : AllTok xs xs.length) : ∀ k, (codeOf (xs.take k)).length ≤ k * 50 := by
  intro k
  induction k with
  | zero => exact Nat.zero_le _
  | succ k ih =>
    rcases Nat.lt_or_ge k xs.length with hl | hl
    · rw [codeOf_take_succ xs k hl, List.length_append, tokbits_length _ (h k hl hl)]
      have := tcost_le2 xs[k] (h k hl hl)
      omega
    · have e : xs.take (k + 1) = xs.take k := by rw [List.take_of_length_le (by omega), List.take_of_length_le hl]
      have e2 : (codeOf (xs.take (k + 1))).length = (codeOf (xs.take k)).length := congrArg (fun y => (codeOf y).length) e
      omega
theorem codeOf_length (xs : List Tok) (h : AllTok xs xs.length) : (codeOf xs).length = costs xs := by
  have : ∀ k, k ≤ xs.length → (codeOf (xs.take k)).length = costs (xs.take k) := by
    intro k
    induction k with
    | zero => intro _; rfl
    | succ k ih =>
      intro hk
      rw [codeOf_take_succ xs k (by omega), costs_take_succ xs k (by omega), List.length_append, ih (by omega), tokbits_length _ (h k (by omega) (by omega))]
  have := this xs.length (Nat.le_refl _)
  rwa [List.take_of_length_le (Nat.le_refl _)] at this
section
variable {w0 w w' : World} {gb gf n c m : Nat} {A : Option Addr} {L : List Nat}
end
end PB
end Go.Proofs.Ytnahmiglogddaaa
