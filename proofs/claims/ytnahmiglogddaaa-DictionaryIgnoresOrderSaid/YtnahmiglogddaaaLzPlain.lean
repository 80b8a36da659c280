/-
  Plain facts on matches: how many bytes repeat at a distance, the cheapest tokens at each position of a window. Nothing of Go and no program stands in this text.
-/
import Derived.WalkKit
namespace Go.Proofs.Ytnahmiglogddaaa
set_option linter.unusedVariables false
set_option linter.unusedSimpArgs false
namespace PB
/-- A token: distance, length, literal. -/
structure Tok where
  d : Int
  n : Int
  lit : Nat
/-- How many of the f bytes from i on are those at the distance d. -/
def repf (all : List Nat) (d : Nat) : Nat → Nat → Nat
  | 0, _ => 0
  | f + 1, i => if all.getD i 0 = all.getD (i - d) 0 then repf all d f (i + 1) + 1 else 0
/-- How many bytes from i on are those at the distance d. -/
def rep (all : List Nat) (i d : Nat) : Nat := repf all d (all.length - i) i
section
variable {all : List Nat} {i d : Nat}
theorem rep_end (h : all.length ≤ i) : rep all i d = 0 := by
  unfold rep
  rw [show all.length - i = 0 by omega]; rfl
theorem rep_yes (h : i < all.length) (he : all.getD i 0 = all.getD (i - d) 0) : rep all i d = rep all (i + 1) d + 1 := by
  unfold rep
  rw [show all.length - i = (all.length - (i + 1)) + 1 by omega, repf, if_pos he]
theorem rep_no (he : all.getD i 0 ≠ all.getD (i - d) 0) : rep all i d = 0 := by
  unfold rep
  rcases Nat.eq_zero_or_pos (all.length - i) with h | h
  · rw [h]; rfl
  · rw [show all.length - i = (all.length - i - 1) + 1 by omega, repf, if_neg he]
theorem repf_le (f : Nat) : ∀ i, repf all d f i ≤ f := by
  induction f with
  | zero => intro i; exact Nat.le_refl _
  | succ f ih =>
    intro i
    rw [repf]
    split
    · have := ih (i + 1); omega
    · omega
theorem rep_le : rep all i d ≤ all.length - i := repf_le _ _
theorem repf_at (f : Nat) : ∀ i k, k < repf all d f i → all.getD (i + k) 0 = all.getD (i + k - d) 0 := by
  induction f with
  | zero => intro i k h; exact absurd h (Nat.not_lt_zero _)
  | succ f ih =>
    intro i k h
    rw [repf] at h
    split at h
    · rename_i he
      rcases Nat.eq_zero_or_pos k with rfl | hk
      · exact he
      · have := ih (i + 1) (k - 1) (by omega)
        rwa [show i + 1 + (k - 1) = i + k by omega] at this
    · omega
theorem rep_at {k : Nat} (h : k < rep all i d) : all.getD (i + k) 0 = all.getD (i + k - d) 0 := repf_at _ _ _ h
theorem rep_lt {k : Nat} (h : k < rep all i d) : i + k < all.length := by
  have := rep_le (all := all) (i := i) (d := d); omega
theorem rep_ge {n : Nat} (h : ∀ k, k < n → i + k < all.length ∧ all.getD (i + k) 0 = all.getD (i + k - d) 0) : n ≤ rep all i d := by
  induction n generalizing i with
  | zero => exact Nat.zero_le _
  | succ n ih =>
    have h0 := h 0 (by omega)
    simp only [Nat.add_zero] at h0
    rw [rep_yes h0.1 h0.2]
    have := ih (i := i + 1) (fun k hk => by
      have := h (k + 1) (by omega)
      rwa [show i + (k + 1) = i + 1 + k by omega] at this)
    omega
end
section
variable (g : Nat → Nat) (all : List Nat)
/-- The cost of a match. -/
def mcost (d n : Nat) : Nat := 1 + g d + g (n - 2)
/-- A match that fits at i. -/
def Cand (i n d : Nat) : Prop := 3 ≤ n ∧ 1 ≤ d ∧ d ≤ i ∧ n ≤ rep all i d
/-- Of the literal and the matches of S at i, length n at distance d (0, 0: the literal) costs least, c; of those that cost as much it is the longest one, of these the one at the least distance. -/
structure Good (L : Nat → Nat) (i : Nat) (S : Nat → Nat → Prop) (c n d : Nat) : Prop where
  one : (n = 0 ∧ d = 0 ∧ c = 9 + L (i + 1)) ∨ (Cand all i n d ∧ c = mcost g d n + L (i + n))
  lit : c ≤ 9 + L (i + 1)
  opt : ∀ n' d', Cand all i n' d' → S n' d' → c < mcost g d' n' + L (i + n') ∨ (c = mcost g d' n' + L (i + n') ∧ (n' < n ∨ (n' = n ∧ d ≤ d')))
def Any (_ _ : Nat) : Prop := True
variable {g all} {L L' : Nat → Nat} {i c n d : Nat} {S S' : Nat → Nat → Prop}
theorem Good.start (h : ∀ n' d', Cand all i n' d' → ¬ S n' d') : Good g all L i S (9 + L (i + 1)) 0 0 :=
  ⟨.inl ⟨rfl, rfl, rfl⟩, Nat.le_refl _, fun n' d' h1 h2 => absurd h2 (h n' d' h1)⟩
theorem Good.more (h : Good g all L i S c n d) (hS : ∀ n' d', Cand all i n' d' → S' n' d' → S n' d') : Good g all L i S' c n d :=
  ⟨h.one, h.lit, fun n' d' h1 h2 => h.opt n' d' h1 (hS n' d' h1 h2)⟩
theorem Good.uniq {c' n' d' : Nat} (h : Good g all L i Any c n d) (h' : Good g all L i Any c' n' d') : c = c' ∧ n = n' ∧ d = d' := by
  rcases h.one with ⟨rfl, rfl, e⟩ | ⟨hc, e⟩ <;> rcases h'.one with ⟨rfl, rfl, e'⟩ | ⟨hc', e'⟩
  · exact ⟨by omega, rfl, rfl⟩
  · have h1 := h.opt _ _ hc' trivial
    have h2 := h'.lit
    have := hc'.1
    omega
  · have h1 := h'.opt _ _ hc trivial
    have h2 := h.lit
    have := hc.1
    omega
  · have h1 := h.opt _ _ hc' trivial
    have h2 := h'.opt _ _ hc trivial
    omega
theorem Good.congr (h : Good g all L i S c n d) (hL : ∀ j, i < j → j ≤ all.length → L j = L' j) (hi : i < all.length) : Good g all L' i S c n d := by
  have e1 : L (i + 1) = L' (i + 1) := hL _ (by omega) (by omega)
  have e2 : ∀ n d, Cand all i n d → L (i + n) = L' (i + n) := fun n d hc => by
    have := hc.1
    have := hc.2.2.2
    have := rep_le (all := all) (i := i) (d := d)
    exact hL _ (by omega) (by omega)
  refine ⟨?_, by rw [← e1]; exact h.lit, fun n' d' h1 h2 => by rw [← e2 _ _ h1]; exact h.opt n' d' h1 h2⟩
  rcases h.one with ⟨h1, h2, h3⟩ | ⟨h1, h2⟩
  · exact .inl ⟨h1, h2, by rw [← e1]; exact h3⟩
  · exact .inr ⟨h1, by rw [← e2 _ _ h1]; exact h2⟩
/-- The program's order: lengths rise; the first distance at which a length occurs is the least one. -/
theorem Good.take {len D : Nat} (hg : ∀ a b, 1 ≤ a → a ≤ b → b ≤ i → g a ≤ g b) (h : Good g all L i (fun n' _ => n' ≤ len) c n d) (hc : Cand all i (len + 1) D) (hD : ∀ d', 1 ≤ d' → d' < D → rep all i d' ≤ len)
    (hle : mcost g D (len + 1) + L (i + (len + 1)) ≤ c) : Good g all L i (fun n' _ => n' ≤ len + 1) (mcost g D (len + 1) + L (i + (len + 1))) (len + 1) D := by
  refine ⟨.inr ⟨hc, rfl⟩, Nat.le_trans hle h.lit, fun n' d' h1 h2 => ?_⟩
  rcases Nat.lt_or_ge n' (len + 1) with h3 | h3
  · have := h.opt n' d' h1 (by show n' ≤ len; omega)
    omega
  · obtain rfl : n' = len + 1 := by omega
    have hd : D ≤ d' := by
      rcases Nat.lt_or_ge d' D with h4 | h4
      · have := hD d' h1.2.1 h4
        have := h1.2.2.2
        omega
      · exact h4
    have := hg D d' hc.2.1 hd h1.2.2.1
    unfold mcost
    omega
theorem Good.pass {len D : Nat} (hg : ∀ a b, 1 ≤ a → a ≤ b → b ≤ i → g a ≤ g b) (h : Good g all L i (fun n' _ => n' ≤ len) c n d) (hc : Cand all i (len + 1) D) (hD : ∀ d', 1 ≤ d' → d' < D → rep all i d' ≤ len)
    (hlt : c < mcost g D (len + 1) + L (i + (len + 1))) : Good g all L i (fun n' _ => n' ≤ len + 1) c n d := by
  refine ⟨h.one, h.lit, fun n' d' h1 h2 => ?_⟩
  rcases Nat.lt_or_ge n' (len + 1) with h3 | h3
  · exact h.opt n' d' h1 (by show n' ≤ len; omega)
  · obtain rfl : n' = len + 1 := by omega
    have hd : D ≤ d' := by
      rcases Nat.lt_or_ge d' D with h4 | h4
      · have := hD d' h1.2.1 h4
        have := h1.2.2.2
        omega
      · exact h4
    have := hg D d' hc.2.1 hd h1.2.2.1
    left
    unfold mcost at hlt ⊢
    omega
theorem Good.all_ {len : Nat} (h : Good g all L i (fun n' _ => n' ≤ len) c n d) (hD : ∀ d', 1 ≤ d' → d' ≤ i → rep all i d' ≤ len) : Good g all L i Any c n d :=
  h.more fun n' d' h1 _ => Nat.le_trans h1.2.2.2 (hD d' h1.2.1 h1.2.2.1)
/-- The reference's order: distances fall, lengths rise. -/
def Seen (d m : Nat) (n' d' : Nat) : Prop := d < d' ∨ (d' = d ∧ n' < m)
theorem Good.rtake {D m : Nat} (h : Good g all L i (Seen D m) c n d) (hc : Cand all i m D)
    (hle : mcost g D m + L (i + m) < c ∨ (mcost g D m + L (i + m) = c ∧ n ≤ m)) : Good g all L i (Seen D (m + 1)) (mcost g D m + L (i + m)) m D := by
  refine ⟨.inr ⟨hc, rfl⟩, by have := h.lit; omega, fun n' d' h1 h2 => ?_⟩
  by_cases he : d' = D ∧ n' = m
  · obtain ⟨rfl, rfl⟩ := he
    exact .inr ⟨rfl, .inr ⟨rfl, Nat.le_refl _⟩⟩
  · have hs : Seen D m n' d' := by
      rcases h2 with h2 | ⟨h2, h3⟩
      · exact .inl h2
      · exact .inr ⟨h2, by omega⟩
    have h3 := h.opt n' d' h1 hs
    unfold Seen at hs
    omega
theorem Good.rpass {D m : Nat} (h : Good g all L i (Seen D m) c n d)
    (hle : c < mcost g D m + L (i + m) ∨ (mcost g D m + L (i + m) = c ∧ m < n)) : Good g all L i (Seen D (m + 1)) c n d := by
  refine ⟨h.one, h.lit, fun n' d' h1 h2 => ?_⟩
  by_cases he : d' = D ∧ n' = m
  · obtain ⟨rfl, rfl⟩ := he
    omega
  · refine h.opt n' d' h1 ?_
    rcases h2 with h2 | ⟨h2, h3⟩
    · exact .inl h2
    · exact .inr ⟨h2, by omega⟩
theorem Good.rdown {D m : Nat} (h : Good g all L i (Seen (D + 1) m) c n d) (hm : rep all i (D + 1) < m) : Good g all L i (Seen D 3) c n d :=
  h.more fun n' d' h1 h2 => by
    have a1 := h1.1
    have a2 := h1.2.2.2
    rcases h2 with h2 | ⟨h2, h3⟩
    · by_cases e : d' = D + 1
      · subst e; exact .inr ⟨rfl, by omega⟩
      · exact .inl (by omega)
    · omega
theorem Good.rall (h : Good g all L i (Seen 0 3) c n d) : Good g all L i Any c n d :=
  h.more fun n' d' h1 _ => .inl h1.2.1
theorem Good.rstart : Good g all L i (Seen i 3) (9 + L (i + 1)) 0 0 :=
  Good.start fun n' d' h1 h2 => by
    have a1 := h1.1
    have a2 := h1.2.2.1
    rcases h2 with h2 | ⟨_, h3⟩ <;> omega
end
section
variable (g : Nat → Nat) (all : List Nat)
/-- The cheapest tokens from each position on. -/
def Tab (i : Nat) (L nn dd : Nat → Nat) : Prop := L all.length = 0 ∧ ∀ j, i ≤ j → j < all.length → Good g all L j Any (L j) (nn j) (dd j)
variable {g all}
theorem Tab.uniq {i : Nat} {L nn dd L' nn' dd' : Nat → Nat} (h : Tab g all i L nn dd) (h' : Tab g all i L' nn' dd') :
    ∀ k j, i ≤ j → j + k = all.length → L j = L' j ∧ (j < all.length → nn j = nn' j ∧ dd j = dd' j) := by
  intro k
  induction k using Nat.strongRecOn with
  | _ k ih =>
    intro j hj hk
    rcases Nat.eq_zero_or_pos k with rfl | hpos
    · obtain rfl : j = all.length := by omega
      exact ⟨by rw [h.1, h'.1], fun h => absurd h (by omega)⟩
    · have hlt : j < all.length := by omega
      have e := ((h.2 j hj hlt).congr (L' := L') (fun q hq hq2 => (ih (all.length - q) (by omega) q (by omega) (by omega)).1) hlt).uniq (h'.2 j hj hlt)
      exact ⟨e.1, fun _ => e.2⟩
/-- The token at a position. -/
def tokOf (all : List Nat) (nn dd : Nat → Nat) (i : Nat) : Tok := if nn i = 0 then ⟨0, 0, all.getD i 0⟩ else ⟨(dd i : Nat), (nn i : Nat), 0⟩
/-- The tokens from a position on. -/
def toks (all : List Nat) (nn dd : Nat → Nat) : Nat → Nat → List Tok
  | 0, _ => []
  | f + 1, i => if i < all.length then tokOf all nn dd i :: toks all nn dd f (i + max (nn i) 1) else []
theorem toks_end {nn dd : Nat → Nat} {f i : Nat} (h : all.length ≤ i) : toks all nn dd f i = [] := by
  cases f with
  | zero => rfl
  | succ f => rw [toks, if_neg (by omega)]
theorem toks_fuel {nn dd : Nat → Nat} : ∀ f f' i, all.length ≤ i + f → all.length ≤ i + f' → toks all nn dd f i = toks all nn dd f' i := by
  intro f
  induction f with
  | zero => intro f' i h h'; rw [toks_end (by omega), toks_end (by omega)]
  | succ f ih =>
    intro f' i h h'
    cases f' with
    | zero => rw [toks_end (by omega), toks_end (by omega)]
    | succ f' =>
      rw [toks, toks]
      split
      · rw [ih f' _ (by omega) (by omega)]
      · rfl
/-- The tokens from i on: those of Parse. -/
def tokens (all : List Nat) (nn dd : Nat → Nat) (i : Nat) : List Tok := toks all nn dd all.length i
theorem tokens_end {nn dd : Nat → Nat} {i : Nat} (h : all.length ≤ i) : tokens all nn dd i = [] := toks_end h
theorem tokens_step {nn dd : Nat → Nat} {i : Nat} (h : i < all.length) : tokens all nn dd i = tokOf all nn dd i :: tokens all nn dd (i + max (nn i) 1) := by
  unfold tokens
  obtain ⟨f, hf⟩ : ∃ f, all.length = f + 1 := ⟨all.length - 1, by omega⟩
  conv => lhs; rw [hf, toks, if_pos h]
  rw [toks_fuel f all.length _ (by omega) (by omega)]
theorem tokens_congr {nn dd nn' dd' : Nat → Nat} {i : Nat} (h : ∀ j, i ≤ j → j < all.length → nn j = nn' j ∧ dd j = dd' j) : ∀ k j, i ≤ j → all.length ≤ j + k → tokens all nn dd j = tokens all nn' dd' j := by
  intro k
  induction k with
  | zero => intro j hj hk; rw [tokens_end (by omega), tokens_end (by omega)]
  | succ k ih =>
    intro j hj hk
    rcases Nat.lt_or_ge j all.length with hlt | hge
    · obtain ⟨e1, e2⟩ := h j hj hlt
      rw [tokens_step hlt, tokens_step hlt, ← e1, ih (j + max (nn j) 1) (by omega) (by omega)]
      unfold tokOf
      rw [e1, e2]
    · rw [tokens_end hge, tokens_end hge]
/-- Two tables give the same tokens. -/
theorem Tab.tokens {i : Nat} {L nn dd L' nn' dd' : Nat → Nat} (h : Tab g all i L nn dd) (h' : Tab g all i L' nn' dd') : PB.tokens all nn dd i = PB.tokens all nn' dd' i :=
  tokens_congr (fun j hj hlt => (h.uniq h' (all.length - j) j hj (by omega)).2 hlt) all.length i (Nat.le_refl _) (by omega)
theorem Tab.nn0 {i : Nat} {L nn dd : Nat → Nat} (h : Tab g all i L nn dd) {j : Nat} (hj : i ≤ j) (hlt : j < all.length) : nn j = 0 ∧ dd j = 0 ∧ L j = 9 + L (j + 1) ∨ Cand all j (nn j) (dd j) ∧ L j = mcost g (dd j) (nn j) + L (j + nn j) := (h.2 j hj hlt).one
end
section
variable {g : Nat → Nat} {all : List Nat}
/-- The cost from a position on is at most that of literals. -/
theorem Tab.le {i : Nat} {L nn dd : Nat → Nat} (h : Tab g all i L nn dd) : ∀ k j, i ≤ j → j + k = all.length → L j ≤ 9 * k := by
  intro k
  induction k with
  | zero =>
    intro j hj hk
    obtain rfl : j = all.length := by omega
    rw [h.1]; omega
  | succ k ih =>
    intro j hj hk
    have h1 := (h.2 j hj (by omega)).lit
    have h2 := ih (j + 1) (by omega) (by omega)
    omega
/-- The tables behind position i, as lists; all.length entries and one. -/
structure TabL (g : Nat → Nat) (all : List Nat) (i : Nat) (Ls : List Nat) (Bs : List Tok) (nn dd : Nat → Nat) : Prop where
  ll : Ls.length = all.length + 1
  bl : Bs.length = all.length
  tab : Tab g all i (fun j => Ls.getD j 0) nn dd
  tok : ∀ j, i ≤ j → j < all.length → Bs[j]? = some (tokOf all nn dd j)
theorem TabL.start : TabL g all all.length (List.replicate (all.length + 1) 0) (List.replicate all.length ⟨0, 0, 0⟩) (fun _ => 0) (fun _ => 0) :=
  ⟨by simp, by simp, ⟨by simp [List.getD_eq_getElem?_getD], fun j h1 h2 => absurd h2 (by omega)⟩, fun j h1 h2 => absurd h2 (by omega)⟩
/-- The token that is written: the literal at i, or a match. -/
def tk (all : List Nat) (i n d : Nat) : Tok := if n = 0 then ⟨0, 0, all.getD i 0⟩ else ⟨(d : Nat), (n : Nat), 0⟩
theorem getD_set_ne {l : List Nat} {i j x : Nat} (h : i ≠ j) : (l.set i x).getD j 0 = l.getD j 0 := by
  simp [List.getD_eq_getElem?_getD, List.getElem?_set, h]
theorem getD_set_eq {l : List Nat} {i x : Nat} (h : i < l.length) : (l.set i x).getD i 0 = x := by
  simp [List.getD_eq_getElem?_getD, List.getElem?_set, h]
theorem TabL.cons {i c n d : Nat} {Ls : List Nat} {Bs : List Tok} {nn dd : Nat → Nat} (h : TabL g all (i + 1) Ls Bs nn dd) (hi : i < all.length)
    (hG : Good g all (fun j => Ls.getD j 0) i Any c n d) : TabL g all i (Ls.set i c) (Bs.set i (tk all i n d)) (fun j => if j = i then n else nn j) (fun j => if j = i then d else dd j) := by
  have hll := h.ll
  refine ⟨by rw [List.length_set]; exact hll, by rw [List.length_set]; exact h.bl, ⟨?_, fun j h1 h2 => ?_⟩, fun j h1 h2 => ?_⟩
  · show (Ls.set i c).getD all.length 0 = 0
    rw [getD_set_ne (by omega)]; exact h.tab.1
  · have hc : ∀ q, j < q → q ≤ all.length → Ls.getD q 0 = (Ls.set i c).getD q 0 := fun q hq _ => by rw [getD_set_ne (by omega)]
    by_cases e : j = i
    · subst e
      simp only [if_true]
      rw [getD_set_eq (by omega)]
      exact hG.congr hc h2
    · simp only [if_neg e]
      rw [getD_set_ne (by omega)]
      exact (h.tab.2 j (by omega) h2).congr hc h2
  · by_cases e : j = i
    · subst e
      rw [List.getElem?_set_self (by rw [h.bl]; exact h2)]
      unfold tk tokOf
      simp
    · rw [List.getElem?_set_ne (by omega), h.tok j (by omega) h2]
      unfold tokOf
      simp [e]
/-- What 'same' holds: how many bytes repeat at each distance. -/
def SameL (all : List Nat) (i : Nat) (S : List Nat) (D : Nat) : Prop := S.length = all.length + 1 ∧ (∀ d, 1 ≤ d → d < D → S.getD d 0 = rep all i d) ∧ ∀ d, D ≤ d → d ≤ i + 1 → S.getD d 0 = rep all (i + 1) d
theorem SameL.start : SameL all all.length (List.replicate (all.length + 1) 0) (all.length + 1) := by
  have hz : ∀ d, (List.replicate (all.length + 1) 0).getD d 0 = 0 := by
    intro d
    simp only [List.getD_eq_getElem?_getD, List.getElem?_replicate]
    split <;> rfl
  exact ⟨by simp, fun d h1 h2 => by rw [hz, rep_end (Nat.le_refl _)], fun d h1 h2 => by rw [hz, rep_end (by omega)]⟩
theorem SameL.next {i D : Nat} {S : List Nat} (h : SameL all (i + 1) S D) (hD : i + 1 < D) : SameL all i S 1 :=
  ⟨h.1, fun d h1 h2 => absurd h2 (by omega), fun d h1 h2 => h.2.1 d h1 (by omega)⟩
theorem SameL.yes {i D : Nat} {S : List Nat} (h : SameL all i S D) (hD : 1 ≤ D) (hi : D ≤ i) (hl : i < all.length) (he : all.getD i 0 = all.getD (i - D) 0) : SameL all i (S.set D (S.getD D 0 + 1)) (D + 1) := by
  have hs := h.1
  refine ⟨by rw [List.length_set]; exact h.1, fun d h1 h2 => ?_, fun d h1 h2 => ?_⟩
  · by_cases e : d = D
    · subst e
      rw [getD_set_eq (by omega), h.2.2 d (Nat.le_refl _) (by omega), rep_yes hl he]
    · rw [getD_set_ne (by omega)]; exact h.2.1 d h1 (by omega)
  · rw [getD_set_ne (by omega)]; exact h.2.2 d (by omega) h2
theorem SameL.no {i D : Nat} {S : List Nat} (h : SameL all i S D) (hD : 1 ≤ D) (hi : D ≤ i) (hl : i < all.length) (he : all.getD i 0 ≠ all.getD (i - D) 0) : SameL all i (S.set D 0) (D + 1) := by
  have hs := h.1
  refine ⟨by rw [List.length_set]; exact h.1, fun d h1 h2 => ?_, fun d h1 h2 => ?_⟩
  · by_cases e : d = D
    · subst e
      rw [getD_set_eq (by omega), rep_no he]
    · rw [getD_set_ne (by omega)]; exact h.2.1 d h1 (by omega)
  · rw [getD_set_ne (by omega)]; exact h.2.2 d (by omega) h2
end
end PB
end Go.Proofs.Ytnahmiglogddaaa
