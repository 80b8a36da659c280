/-
  lz.next: the token at a position of a code.
-/
import Derived.Test.YtnahmiglogddaaaLzEncode
import Derived.Test.YtnahmiglogddaaaBitsRef4
namespace Go.Proofs.Ytnahmiglogddaaa
open Go.RowKit
attribute [local go_sem ↓] Go.wp_at_zero Go.wp_at_succ
set_option linter.unusedVariables false
set_option linter.unusedSimpArgs false
namespace PB
/-- The token at a position can't be read: the code of the fault. -/
def NBad (l : List Nat) (p mis c : Nat) : Prop :=
  (l.length ≤ p ∧ c = 15) ∨ (p < l.length ∧ l.getD p 0 = 0 ∧ l.length < p + 9 ∧ c = 15) ∨
  (p < l.length ∧ l.getD p 0 = 1 ∧ ((∃ cd, GAt l (p + 1) 0 0 cd ∧ cd ≠ 0 ∧ c = cd) ∨ (∃ d e, GAt l (p + 1) d e 0 ∧ 1536 < d ∧ c = 16) ∨
    (∃ d e cd, GAt l (p + 1) d e 0 ∧ d ≤ 1536 ∧ GAt l e 0 0 cd ∧ cd ≠ 0 ∧ c = cd) ∨ (∃ d e n e2, GAt l (p + 1) d e 0 ∧ d ≤ 1536 ∧ GAt l e n e2 0 ∧ mis < n + 2 ∧ c = 16)))
/-- The token at a position, and the position behind it. -/
def NOk (l : List Nat) (p mis : Nat) (t : Tok) (e : Nat) : Prop :=
  (p < l.length ∧ l.getD p 0 = 0 ∧ p + 9 ≤ l.length ∧ t = ⟨0, 0, num ((l.drop (p + 1)).take 8)⟩ ∧ e = p + 9) ∨
  (p < l.length ∧ l.getD p 0 = 1 ∧ ∃ d e1 n, GAt l (p + 1) d e1 0 ∧ d ≤ 1536 ∧ GAt l e1 n e 0 ∧ n + 2 ≤ mis ∧ t = ⟨(d : Nat), ((n + 2 : Nat) : Int), 0⟩)
theorem gat_end {l : List Nat} {f v e : Nat} (h : GAt l f v e 0) : e ≤ l.length ∧ f < e := by
  rcases h with ⟨_, _, _, h3⟩ | ⟨_, _, _, _, h3⟩ | ⟨h1, h2, _, rfl, _⟩
  · cases h3
  · cases h3
  · exact ⟨h2, by omega⟩
theorem gat_val {l : List Nat} {f v e c : Nat} (h01 : Is01 l) (h : GAt l f v e c) : v < 2147483648 := by
  rcases h with ⟨_, rfl, _⟩ | ⟨_, _, rfl, _⟩ | ⟨h1, _, rfl, _⟩
  · decide
  · decide
  · have a := num_lt ((h01.drop (f + zr l f)).take (zr l f + 1))
    have b : 2 ^ ((l.drop (f + zr l f)).take (zr l f + 1)).length ≤ 2 ^ 31 := Nat.pow_le_pow_right (by decide) (by rw [List.length_take]; omega)
    omega
theorem gat_pos {l : List Nat} {f v e : Nat} (h01 : Is01 l) (h : GAt l f v e 0) : 1 ≤ v := by
  rcases h with ⟨_, _, _, h3⟩ | ⟨_, _, _, _, h3⟩ | ⟨h1, h2, rfl, _, _⟩
  · cases h3
  · cases h3
  · have hz := zr_stop l f (by omega)
    have h1 := h01 (f + zr l f)
    have hd : (l.drop (f + zr l f)).take (zr l f + 1) = l.getD (f + zr l f) 0 :: (l.drop (f + zr l f + 1)).take (zr l f) := by
      rw [List.drop_eq_getElem_cons (by omega), List.take_succ_cons, getD_lt (by omega)]
    rw [hd]
    have e1 : l.getD (f + zr l f) 0 = 1 := by omega
    rw [e1, num_cons]
    have := Nat.two_pow_pos ((l.drop (f + zr l f + 1)).take (zr l f)).length
    omega
theorem next_ex {l : List Nat} (h01 : Is01 l) (p mis : Nat) (hp : p ≤ l.length) : (∃ c, NBad l p mis c) ∨ ∃ t e, NOk l p mis t e := by
  rcases Nat.lt_or_ge p l.length with h1 | h1
  · rcases (by have := h01 p; omega : l.getD p 0 = 0 ∨ l.getD p 0 = 1) with h2 | h2
    · rcases Nat.lt_or_ge l.length (p + 9) with h3 | h3
      · exact .inl ⟨15, .inr (.inl ⟨h1, h2, h3, rfl⟩)⟩
      · exact .inr ⟨_, _, .inl ⟨h1, h2, h3, rfl, rfl⟩⟩
    · obtain ⟨d, e, c, hg⟩ := gat_ex l (p + 1)
      by_cases hc : c = 0
      · subst hc
        by_cases hd : d ≤ 1536
        · obtain ⟨n, e2, c2, hg2⟩ := gat_ex l e
          by_cases hc2 : c2 = 0
          · subst hc2
            by_cases hm : n + 2 ≤ mis
            · exact .inr ⟨_, e2, .inr ⟨h1, h2, d, e, n, hg, hd, hg2, hm, rfl⟩⟩
            · exact .inl ⟨16, .inr (.inr ⟨h1, h2, .inr (.inr (.inr ⟨d, e, n, e2, hg, hd, hg2, by omega, rfl⟩))⟩)⟩
          · have hz : GAt l e 0 0 c2 := by
              rcases hg2 with ⟨a, rfl, rfl, b⟩ | ⟨a, b, rfl, rfl, c⟩ | ⟨_, _, _, _, a⟩
              · exact .inl ⟨a, rfl, rfl, b⟩
              · exact .inr (.inl ⟨a, b, rfl, rfl, c⟩)
              · exact absurd a hc2
            exact .inl ⟨c2, .inr (.inr ⟨h1, h2, .inr (.inr (.inl ⟨d, e, c2, hg, hd, hz, hc2, rfl⟩))⟩)⟩
        · exact .inl ⟨16, .inr (.inr ⟨h1, h2, .inr (.inl ⟨d, e, hg, by omega, rfl⟩)⟩)⟩
      · have hz : GAt l (p + 1) 0 0 c := by
          rcases hg with ⟨a, rfl, rfl, b⟩ | ⟨a, b, rfl, rfl, c⟩ | ⟨_, _, _, _, a⟩
          · exact .inl ⟨a, rfl, rfl, b⟩
          · exact .inr (.inl ⟨a, b, rfl, rfl, c⟩)
          · exact absurd a hc
        exact .inl ⟨c, .inr (.inr ⟨h1, h2, .inl ⟨c, hz, hc, rfl⟩⟩)⟩
  · exact .inl ⟨15, .inl ⟨h1, rfl⟩⟩
theorem num_one {l : List Nat} {p : Nat} (h : p < l.length) : num ((l.drop p).take 1) = l.getD p 0 := by
  rw [List.drop_eq_getElem_cons h, List.take_succ_cons, List.take_zero, getD_lt h]
  simp [num]
theorem Rd.keepBox {w : World} {A : Option Addr} {n c g : Nat} {xs : List Value} (h : Rd w A n c xs) (hA : ∀ b off, A = some ⟨b, off, none⟩ → 0 < n → b < g) (u0 u1 : Value) : Rd ((w.setCell ⟨g, 0, none⟩ u0).setCell ⟨g, 1, none⟩ u1) A n c xs := by
  obtain ⟨h1, h2, h3, h4⟩ := h
  refine ⟨h1, h2, h3, fun hn => ?_⟩
  obtain ⟨b, off, e, hb, hc⟩ := h4 hn
  have hlt := hA b off e hn
  refine ⟨b, off, e, by simpa [World.setCell] using hb, fun j u hu => ?_⟩
  rw [World.cell?_setCell_other _ _ _ _ (fun e => by injection e with e; omega), World.cell?_setCell_other _ _ _ _ (fun e => by injection e with e; omega)]
  exact hc j u hu
end PB
end Go.Proofs.Ytnahmiglogddaaa
