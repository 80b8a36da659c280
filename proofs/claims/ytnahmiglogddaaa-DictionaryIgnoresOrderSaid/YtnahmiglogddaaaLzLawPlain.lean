/-
  Plain facts for the laws of package lz: the tokens of a parse stand for the data, cost least, are valid; a code is decoded. No walk stands in this text.
-/
import Derived.Test.YtnahmiglogddaaaLzDecode
import Derived.Test.YtnahmiglogddaaaLzParse
namespace Go.Proofs.Ytnahmiglogddaaa
open Go.RowKit
set_option linter.unusedVariables false
set_option linter.unusedSimpArgs false
namespace PB
section
variable {all : List Nat} {f : Nat} {L nn dd : Nat → Nat}
/-- A token of a parse is valid. -/
theorem tokOf_ok (h : Tab gsz all f L nn dd) (hN : all.length ≤ 1536) (hf : all.length ≤ f + 1024) {i : Nat} (hi : f ≤ i) (hl : i < all.length) : (tokOf all nn dd i).ok ∧ tlen (tokOf all nn dd i) = max (nn i) 1 ∧ tcost (tokOf all nn dd i) + L (i + max (nn i) 1) = L i ∧ i + max (nn i) 1 ≤ all.length := by
  rcases h.nn0 hi hl with ⟨h1, h2, h3⟩ | ⟨h1, h3⟩
  · have e : tokOf all nn dd i = ⟨0, 0, all.getD i 0⟩ := by unfold tokOf; rw [if_pos h1]
    rw [e, h1]
    exact ⟨.inl ⟨rfl, rfl⟩, rfl, by rw [h3]; rfl, by omega⟩
  · obtain ⟨a1, a2, a3, a4⟩ := h1
    have hr := rep_le (all := all) (i := i) (d := dd i)
    have e : tokOf all nn dd i = ⟨(dd i : Nat), (nn i : Nat), 0⟩ := by unfold tokOf; rw [if_neg (by omega)]
    rw [e, show max (nn i) 1 = nn i by omega]
    refine ⟨.inr ⟨rfl, by dsimp only; omega, by dsimp only; omega, by dsimp only; omega, by dsimp only; omega⟩, ?_, ?_, by omega⟩
    · unfold tlen; dsimp only; rw [if_neg (by omega)]; omega
    · unfold tcost; dsimp only; rw [if_neg (by omega), h3]; rfl
theorem tokens_all (h : Tab gsz all f L nn dd) (hN : all.length ≤ 1536) (hf : all.length ≤ f + 1024) : ∀ k i, f ≤ i → i ≤ all.length → all.length ≤ i + k →
    (∀ t ∈ tokens all nn dd i, t.ok) ∧ ((tokens all nn dd i).map tlen).sum = all.length - i ∧ costs (tokens all nn dd i) = L i ∧ (tokens all nn dd i).length ≤ all.length - i := by
  intro k
  induction k with
  | zero =>
    intro i h1 h2 h3
    obtain rfl : i = all.length := by omega
    rw [tokens_end (Nat.le_refl _)]
    exact ⟨(fun t ht => by cases ht), by simp, by rw [h.1]; rfl, by simp⟩
  | succ k ih =>
    intro i h1 h2 h3
    rcases Nat.lt_or_ge i all.length with hl | hl
    · obtain ⟨b1, b2, b3, b4⟩ := tokOf_ok h hN hf h1 hl
      obtain ⟨c1, c2, c3, c4⟩ := ih (i + max (nn i) 1) (by omega) b4 (by omega)
      rw [tokens_step hl]
      refine ⟨fun t ht => ?_, ?_, ?_, ?_⟩
      · rcases List.mem_cons.1 ht with rfl | ht
        · exact b1
        · exact c1 t ht
      · rw [List.map_cons, List.sum_cons, b2, c2]; omega
      · unfold costs at c3 ⊢
        rw [List.map_cons, List.sum_cons, c3]; omega
      · rw [List.length_cons]; omega
    · obtain rfl : i = all.length := by omega
      rw [tokens_end (Nat.le_refl _)]
      exact ⟨(fun t ht => by cases ht), by simp, by rw [h.1]; rfl, by simp⟩
theorem AllTok.of (xs : List Tok) (h : ∀ t ∈ xs, t.ok) : AllTok xs xs.length := fun i hi _ => h _ (List.getElem_mem hi)
/-- The window at a position: the bytes before it. -/
theorem copyN_take (d n : Nat) : ∀ k i, 1 ≤ d → d ≤ i → k ≤ rep all i d → copyN d k (all.take i) = all.take (i + k) := by
  intro k
  induction k with
  | zero => intro i _ _ _; rfl
  | succ k ih =>
    intro i h1 h2 h3
    have hr := rep_le (all := all) (i := i) (d := d)
    rw [copyN_snoc, ih i h1 h2 (by omega)]
    have e : all.take (i + (k + 1)) = all.take (i + k) ++ [all.getD (i + k) 0] := by
      rw [← Nat.add_assoc, List.take_succ_eq_append_getElem (by omega), getD_lt (by omega)]
    rw [e, List.length_take, show min (i + k) all.length = i + k by omega]
    congr 2
    rw [rep_at (d := d) (by omega)]
    rw [List.getD_eq_getElem?_getD, List.getD_eq_getElem?_getD, List.getElem?_take_of_lt (by omega)]
theorem expf_parse (h : Tab gsz all f L nn dd) (hN : all.length ≤ 1536) (hf : all.length ≤ f + 1024) : ∀ k i q, f ≤ i → i ≤ all.length → all.length ≤ i + k → expf f (tokens all nn dd i) q (all.take i) = (0, 0, all) := by
  intro k
  induction k with
  | zero =>
    intro i q h1 h2 h3
    obtain rfl : i = all.length := by omega
    rw [tokens_end (Nat.le_refl _), List.take_length]; rfl
  | succ k ih =>
    intro i q h1 h2 h3
    rcases Nat.lt_or_ge i all.length with hl | hl
    · obtain ⟨b1, b2, b3, b4⟩ := tokOf_ok h hN hf h1 hl
      have hlen : (all.take i).length = i := by rw [List.length_take]; omega
      have hd : (tokOf all nn dd i).d ≤ (i : Nat) := by
        rcases h.nn0 h1 hl with ⟨e1, _⟩ | ⟨⟨a1, a2, a3, a4⟩, _⟩
        · unfold tokOf; rw [if_pos e1]; exact Int.natCast_nonneg _
        · unfold tokOf; rw [if_neg (by omega)]; dsimp only; omega
      have hx : ext (all.take i) (tokOf all nn dd i) = all.take (i + max (nn i) 1) := by
        rcases h.nn0 h1 hl with ⟨e1, _⟩ | ⟨⟨a1, a2, a3, a4⟩, _⟩
        · have e : tokOf all nn dd i = ⟨0, 0, all.getD i 0⟩ := by unfold tokOf; rw [if_pos e1]
          rw [e, e1]
          show all.take i ++ [all.getD i 0] = all.take (i + 1)
          rw [List.take_succ_eq_append_getElem hl, getD_lt hl]
        · have e : tokOf all nn dd i = ⟨(dd i : Nat), (nn i : Nat), 0⟩ := by unfold tokOf; rw [if_neg (by omega)]
          rw [e, show max (nn i) 1 = nn i by omega]
          unfold ext
          dsimp only
          rw [if_neg (by omega), Int.toNat_natCast, Int.toNat_natCast]
          exact copyN_take _ 0 _ _ a2 a3 a4
      rw [tokens_step hl, expf, hlen, if_neg (by omega), if_neg (by rw [b2]; omega), hx]
      exact ih _ _ (by omega) b4 (by omega)
    · obtain rfl : i = all.length := by omega
      rw [tokens_end (Nat.le_refl _), List.take_length]; rfl
theorem tokens_lit (hb : ∀ i, all.getD i 0 < 256) : ∀ k i, ∀ t ∈ toks all nn dd k i, t.lit < 256 := by
  intro k
  induction k with
  | zero => intro i t ht; cases ht
  | succ k ih =>
    intro i t ht
    rw [toks] at ht
    split at ht
    · rcases List.mem_cons.1 ht with rfl | ht
      · unfold tokOf
        split
        · exact hb i
        · exact (by decide : (0 : Nat) < 256)
      · exact ih _ t ht
    · cases ht
end
/-- The code of tokens is decoded, whatever follows it. -/
theorem dec_code : ∀ (xs : List Tok) (pre rest : List Nat), (∀ t ∈ xs, t.ok ∧ t.lit < 256) → Dec (pre ++ codeOf xs ++ rest) pre.length (xs.map tlen).sum 0 0 xs (pre.length + (codeOf xs).length) := by
  intro xs
  induction xs with
  | nil => intro pre rest _; exact .nil _
  | cons t ts ih =>
    intro pre rest h
    obtain ⟨hok, hlit⟩ := h t (List.mem_cons_self ..)
    have hc : codeOf (t :: ts) = tokbits t ++ codeOf ts := by simp [codeOf]
    have hrec := ih (pre ++ tokbits t) rest (fun x hx => h x (List.mem_cons_of_mem _ hx))
    have hl := tlen_pos t hok
    have e1 : (pre ++ tokbits t).length + (codeOf ts).length = pre.length + (codeOf (t :: ts)).length := by rw [hc, List.length_append, List.length_append]; omega
    have e2 : pre ++ tokbits t ++ codeOf ts ++ rest = pre ++ codeOf (t :: ts) ++ rest := by rw [hc]; simp [List.append_assoc]
    rw [e1, e2] at hrec
    have e3 : (ts.map tlen).sum = ((t :: ts).map tlen).sum - tlen t := by rw [List.map_cons, List.sum_cons]; omega
    rw [e3] at hrec
    refine .cons _ _ t (pre ++ tokbits t).length _ _ _ _ (by rw [List.map_cons, List.sum_cons]; omega) ?_ hrec
    rw [hc]
    obtain ⟨d, n, lit⟩ := t
    rcases hok with ⟨h1, h2⟩ | ⟨h0, h1, h2, h3, h4⟩
    · dsimp only at h1 h2 hlit
      subst h1 h2
      have hb : tokbits ⟨0, 0, lit⟩ = 0 :: digs lit 8 := by
        show digs lit 9 = _
        rw [digs_cons, Nat.div_eq_of_lt (by omega)]
      rw [hb]
      refine .inl ⟨by simp <;> omega, ?_, by simp [digs_length] <;> omega, ?_, by simp [digs_length]⟩
      · simp [List.getD_eq_getElem?_getD]
      · congr 1
        have e : ((pre ++ (0 :: digs lit 8 ++ codeOf ts) ++ rest).drop (pre.length + 1)).take 8 = digs lit 8 := by
          rw [show pre ++ (0 :: digs lit 8 ++ codeOf ts) ++ rest = (pre ++ [0]) ++ (digs lit 8 ++ (codeOf ts ++ rest)) by simp [List.append_assoc], List.drop_left' (by simp), List.take_left' (by rw [digs_length])]
        rw [e, num_digs 8 lit (by omega)]
    · dsimp only at h0 h1 h2 h3 h4
      obtain ⟨d, rfl⟩ := Int.eq_ofNat_of_zero_le (show 0 ≤ d by omega)
      obtain ⟨n, rfl⟩ := Int.eq_ofNat_of_zero_le (show 0 ≤ n by omega)
      have hl0 : lit = 0 := by omega
      subst hl0
      have hb : tokbits ⟨(d : Nat), (n : Nat), 0⟩ = 1 :: (gam d ++ gam (n - 2)) := by unfold tokbits; dsimp only; rw [if_neg (by omega)]; rfl
      rw [hb]
      have g1 := gat_gam (pre ++ [1]) (gam (n - 2) ++ codeOf ts ++ rest) d (by omega) (by omega)
      have g2 := gat_gam (pre ++ [1] ++ gam d) (codeOf ts ++ rest) (n - 2) (by omega) (by omega)
      have q1 : pre ++ [1] ++ gam d ++ (gam (n - 2) ++ codeOf ts ++ rest) = pre ++ (1 :: (gam d ++ gam (n - 2)) ++ codeOf ts) ++ rest := by simp [List.append_assoc]
      have q2 : pre ++ [1] ++ gam d ++ gam (n - 2) ++ (codeOf ts ++ rest) = pre ++ (1 :: (gam d ++ gam (n - 2)) ++ codeOf ts) ++ rest := by simp [List.append_assoc]
      have ep : (pre ++ [1]).length = pre.length + 1 := by simp
      have ep2 : (pre ++ [1] ++ gam d).length = pre.length + 1 + gsz d := by rw [List.length_append, gam_length, ep]
      rw [q1, ep] at g1
      rw [q2, ep2] at g2
      refine .inr ⟨by simp <;> omega, by simp [List.getD_eq_getElem?_getD], d, pre.length + 1 + gsz d, n - 2, g1, by omega, ?_, ?_, ?_⟩
      · have e : (pre ++ 1 :: (gam d ++ gam (n - 2))).length = pre.length + 1 + gsz d + gsz (n - 2) := by
          rw [List.length_append, List.length_cons, List.length_append, gam_length, gam_length]; omega
        rw [e]; exact g2
      · rw [List.map_cons, List.sum_cons]
        have e : tlen ⟨(d : Nat), (n : Nat), 0⟩ = n := by unfold tlen; dsimp only; rw [if_neg (by omega)]; rfl
        rw [e]; omega
      · rw [show n - 2 + 2 = n by omega]
end PB
end Go.Proofs.Ytnahmiglogddaaa
