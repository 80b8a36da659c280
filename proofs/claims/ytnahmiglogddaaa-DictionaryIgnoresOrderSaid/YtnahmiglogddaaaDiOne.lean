/-
  Plain facts on dictionaries: segments of samples, how often they occur, their order; overlaps, joining, training. Nothing of Go and no program stands in this text.
  Maps from texts to numbers and to bools, as functions on texts; parts of rows; comparing texts.
  cmp.Compare at strings, cmp.Or at ints, the comparing function of dictionary.segments.
  slices.SortFunc with the comparing function of dictionary.segments: the texts in their order.
  dictionary.segments: the segments that occur in two samples or more, in their order.
  bytes.Equal, bytes.Contains, a string made a []byte, dictionary.overlap, dictionary.join.
  dictionary.train, dictionary.check, dictionary.Train, dictionary.Next.
-/
import Derived.Test.YtnahmiglogddaaaBitsPlain
import Derived.Test.YtnahmiglogddaaaBoxes
import Derived.Test.YtnahmiglogddaaaKit
import Derived.Test.YtnahmiglogddaaaBitsStr
import Derived.Maps.OwnSet
import Derived.Maps.RangeWalk
import Derived.Sort.KeysCollected
import Derived.Sort.OwnSorted
import Derived.Deep.RegionHeld3
import Derived.Deep.QuietTactic
import Derived.Deep.Cut
import Derived.Sort.Grow
import Derived.Test.YtnahmiglogddaaaShelf
import Derived.Shelf.SlSortCmp.NoneTotal
import Derived.Test.YtnahmiglogddaaaSlices
import Derived.Laws.IdiomStrings
import Derived.BigQuiet
namespace Go.Proofs.Ytnahmiglogddaaa
set_option linter.unusedVariables false
set_option linter.unusedSimpArgs false
namespace PB
/-- A text, as the list of its bytes. -/
abbrev Txt := List UInt8
def utx (d : List Nat) : Txt := d.map UInt8.ofNat
def byt (x : Txt) : List Nat := x.map UInt8.toNat
theorem utx_byt (x : Txt) : utx (byt x) = x := by
  unfold utx byt
  rw [List.map_map]
  conv => rhs; rw [← List.map_id x]
  refine List.map_congr_left fun b _ => ?_
  simp
theorem byt_utx {d : List Nat} (h : ∀ b ∈ d, b < 256) : byt (utx d) = d := by
  unfold utx byt
  rw [List.map_map]
  conv => rhs; rw [← List.map_id d]
  refine List.map_congr_left fun b hb => ?_
  have := h b hb
  simp
  omega
theorem byt_length (x : Txt) : (byt x).length = x.length := by simp [byt]
theorem utx_length (d : List Nat) : (utx d).length = d.length := by simp [utx]
theorem byt_lt (x : Txt) : ∀ b ∈ byt x, b < 256 := by
  intro b hb
  obtain ⟨u, _, rfl⟩ := List.mem_map.1 hb
  exact u.toNat_lt
theorem byt_inj {x y : Txt} (h : byt x = byt y) : x = y := by rw [← utx_byt x, ← utx_byt y, h]
/-- The bytes of a list are bytes. -/
def ByteL (d : List Nat) : Prop := ∀ b ∈ d, b < 256
theorem ByteL.drop {d : List Nat} (h : ByteL d) (n : Nat) : ByteL (d.drop n) := fun b hb => h b (List.mem_of_mem_drop hb)
theorem ByteL.take {d : List Nat} (h : ByteL d) (n : Nat) : ByteL (d.take n) := fun b hb => h b (List.mem_of_mem_take hb)
theorem ByteL.append {d e : List Nat} (h : ByteL d) (k : ByteL e) : ByteL (d ++ e) := fun b hb => by
  rcases List.mem_append.1 hb with h1 | h1
  · exact h b h1
  · exact k b h1
theorem ByteL.nil : ByteL [] := fun b hb => by cases hb
theorem ByteL.getD {d : List Nat} (h : ByteL d) (k : Nat) : d.getD k 0 < 256 := by
  rw [List.getD_eq_getElem?_getD]
  rcases Nat.lt_or_ge k d.length with hk | hk
  · rw [List.getElem?_eq_getElem hk]; exact h _ (List.getElem_mem hk)
  · rw [List.getElem?_eq_none hk]; simp
theorem ByteL.of_getD {d : List Nat} (h : ∀ k, d.getD k 0 < 256) : ByteL d := fun b hb => by
  obtain ⟨i, hi, rfl⟩ := List.getElem_of_mem hb
  have := h i
  rwa [List.getD_eq_getElem?_getD, List.getElem?_eq_getElem hi] at this
/-! Segments. -/
/-- The segment at a place. -/
def seg (s : List Nat) (i : Nat) : Txt := utx ((s.drop i).take 8)
/-- All segments of a sample, in the order of their places. -/
def wins (s : List Nat) : List Txt := (List.range (s.length - 7)).map (seg s)
theorem seg_length {s : List Nat} {i : Nat} (h : i + 8 ≤ s.length) : (seg s i).length = 8 := by
  unfold seg
  rw [utx_length, List.length_take, List.length_drop]
  omega
theorem mem_wins {s : List Nat} {x : Txt} : x ∈ wins s ↔ ∃ i, i + 8 ≤ s.length ∧ x = seg s i := by
  unfold wins
  rw [List.mem_map]
  constructor
  · rintro ⟨i, hi, rfl⟩
    rw [List.mem_range] at hi
    exact ⟨i, by omega, rfl⟩
  · rintro ⟨i, hi, rfl⟩
    exact ⟨i, by rw [List.mem_range]; omega, rfl⟩
theorem wins_length_eight {s : List Nat} {x : Txt} (h : x ∈ wins s) : x.length = 8 := by
  obtain ⟨i, hi, rfl⟩ := mem_wins.1 h
  exact seg_length hi
/-- In how many samples a text is a segment. -/
def fr (S : List (List Nat)) (x : Txt) : Nat := S.countP fun s => decide (x ∈ wins s)
theorem fr_nil (x : Txt) : fr [] x = 0 := rfl
theorem fr_snoc (S : List (List Nat)) (s : List Nat) (x : Txt) : fr (S ++ [s]) x = fr S x + if x ∈ wins s then 1 else 0 := by
  unfold fr
  rw [List.countP_append]
  congr 1
  simp
theorem fr_le (S : List (List Nat)) (x : Txt) : fr S x ≤ S.length := List.countP_le_length
theorem fr_perm {S S' : List (List Nat)} (h : S.Perm S') (x : Txt) : fr S x = fr S' x := h.countP_eq _
theorem fr_pos {S : List (List Nat)} {x : Txt} (h : 0 < fr S x) : ∃ s ∈ S, x ∈ wins s := by
  obtain ⟨s, hs, h2⟩ := List.countP_pos_iff.1 h
  exact ⟨s, hs, of_decide_eq_true h2⟩
theorem fr_eight {S : List (List Nat)} {x : Txt} (h : 0 < fr S x) : x.length = 8 := by
  obtain ⟨s, _, h2⟩ := fr_pos h
  exact wins_length_eight h2
/-! The order of segments. -/
theorem u8_irrefl : ∀ a : UInt8, ¬ a < a := fun a => UInt8.lt_irrefl a
theorem utx_irrefl (x : Txt) : ¬ x < x := List.lt_irrefl x
theorem utx_trans {x y z : Txt} (h : x < y) (k : y < z) : x < z := List.lt_trans h k
theorem utx_tri (x y : Txt) : x < y ∨ x = y ∨ y < x := by
  by_cases h1 : x < y
  · exact .inl h1
  · by_cases h2 : y < x
    · exact .inr (.inr h2)
    · exact .inr (.inl (List.le_antisymm (List.not_lt.1 h2) (List.not_lt.1 h1)))
/-- Comes ahead of: oftener, or as often and smaller. -/
def tlt (f : Txt → Nat) (x y : Txt) : Prop := f y < f x ∨ (f x = f y ∧ x < y)
theorem tlt_irrefl (f : Txt → Nat) (x : Txt) : ¬ tlt f x x := by
  rintro (h | ⟨_, h⟩)
  · omega
  · exact utx_irrefl x h
theorem tlt_trans {f : Txt → Nat} {x y z : Txt} (h : tlt f x y) (k : tlt f y z) : tlt f x z := by
  rcases h with h | ⟨h, h'⟩ <;> rcases k with k | ⟨k, k'⟩
  · left; omega
  · left; omega
  · left; omega
  · right; exact ⟨by omega, utx_trans h' k'⟩
theorem tlt_tri (f : Txt → Nat) (x y : Txt) : tlt f x y ∨ x = y ∨ tlt f y x := by
  unfold tlt
  rcases Nat.lt_trichotomy (f x) (f y) with h | h | h
  · exact .inr (.inr (.inl h))
  · rcases utx_tri x y with k | k | k
    · exact .inl (.inr ⟨h, k⟩)
    · exact .inr (.inl k)
    · exact .inr (.inr (.inr ⟨h.symm, k⟩))
  · exact .inl (.inl h)
theorem tlt_asymm {f : Txt → Nat} {x y : Txt} (h : tlt f x y) : ¬ tlt f y x := fun k => tlt_irrefl f x (tlt_trans h k)
/-- Two lists in one strict order that have the same members are one. -/
theorem sorted_unique {f : Txt → Nat} : ∀ {l m : List Txt}, l.Pairwise (tlt f) → m.Pairwise (tlt f) → (∀ x, x ∈ l ↔ x ∈ m) → l = m
  | [], [], _, _, _ => rfl
  | [], b :: m, _, _, h => by have := (h b).2 List.mem_cons_self; cases this
  | a :: l, [], _, _, h => by have := (h a).1 List.mem_cons_self; cases this
  | a :: l, b :: m, hl, hm, h => by
    rw [List.pairwise_cons] at hl hm
    have hab : a = b := by
      have h1 : a ∈ b :: m := (h a).1 List.mem_cons_self
      have h2 : b ∈ a :: l := (h b).2 List.mem_cons_self
      rcases List.mem_cons.1 h1 with e | e
      · exact e
      · rcases List.mem_cons.1 h2 with e2 | e2
        · exact e2.symm
        · exact absurd (hl.1 b e2) (tlt_asymm (hm.1 a e))
    subst hab
    congr 1
    refine sorted_unique hl.2 hm.2 fun x => ?_
    have hx := h x
    rw [List.mem_cons, List.mem_cons] at hx
    constructor
    · intro k
      rcases hx.1 (.inr k) with e | e
      · subst e; exact absurd (hl.1 x k) (tlt_irrefl f x)
      · exact e
    · intro k
      rcases hx.2 (.inr k) with e | e
      · subst e; exact absurd (hm.1 x k) (tlt_irrefl f x)
      · exact e
/-- The segments of samples, in their order. -/
structure Segs (S : List (List Nat)) (l : List Txt) : Prop where
  sorted : l.Pairwise (tlt (fr S))
  mem : ∀ x, x ∈ l ↔ 2 ≤ fr S x
theorem Segs.unique {S S' : List (List Nat)} {l l' : List Txt} (h : Segs S l) (h' : Segs S' l') (hf : ∀ x, fr S x = fr S' x) : l = l' := by
  have e : fr S = fr S' := funext hf
  obtain ⟨h1, h2⟩ := h
  obtain ⟨h3, h4⟩ := h'
  rw [e] at h1 h2
  exact sorted_unique h1 h3 fun x => (h2 x).trans (h4 x).symm
theorem Segs.nodup {S : List (List Nat)} {l : List Txt} (h : Segs S l) : l.Nodup := h.sorted.imp fun hxy e => by subst e; exact tlt_irrefl _ _ hxy
theorem Segs.eight {S : List (List Nat)} {l : List Txt} (h : Segs S l) {x : Txt} (hx : x ∈ l) : x.length = 8 := fr_eight (S := S) (by have := (h.mem x).1 hx; omega)
/-! Overlaps, joining, training. -/
/-- The longest end of a, of at most n bytes, that is a beginning of b. -/
def ovf (a b : List Nat) : Nat → Nat
  | 0 => 0
  | n + 1 => if a.drop (a.length - (n + 1)) = b.take (n + 1) then n + 1 else ovf a b n
def ovl (a b : List Nat) : Nat := ovf a b (min a.length b.length)
theorem ovf_le (a b : List Nat) : ∀ n, ovf a b n ≤ n := by
  intro n
  induction n with
  | zero => exact Nat.le_refl _
  | succ n ih => unfold ovf; split <;> omega
theorem ovl_le (a b : List Nat) : ovl a b ≤ a.length ∧ ovl a b ≤ b.length := by
  have := ovf_le a b (min a.length b.length)
  unfold ovl
  omega
theorem ovf_is (a b : List Nat) : ∀ n, a.drop (a.length - ovf a b n) = b.take (ovf a b n) := by
  intro n
  induction n with
  | zero => simp [ovf]
  | succ n ih =>
    unfold ovf
    split
    · rename_i h; exact h
    · exact ih
theorem ovl_is (a b : List Nat) : a.drop (a.length - ovl a b) = b.take (ovl a b) := ovf_is a b _
theorem ovf_most (a b : List Nat) : ∀ n m, m ≤ n → a.drop (a.length - m) = b.take m → m ≤ ovf a b n := by
  intro n
  induction n with
  | zero => intro m hm _; omega
  | succ n ih =>
    intro m hm h
    unfold ovf
    split
    · exact hm
    · rename_i hne
      rcases Nat.lt_or_ge n m with h1 | h1
      · have : m = n + 1 := by omega
        subst this
        exact absurd h hne
      · exact ih m h1 h
def joind (dict s : List Nat) : List Nat := if ovl s dict < ovl dict s then dict ++ s.drop (ovl dict s) else s.take (s.length - ovl s dict) ++ dict
theorem joind_length (dict s : List Nat) : (joind dict s).length ≤ dict.length + s.length := by
  unfold joind
  have h1 := ovl_le s dict
  have h2 := ovl_le dict s
  split
  · rw [List.length_append, List.length_drop]; omega
  · rw [List.length_append, List.length_take]; omega
/-- A joined dictionary has both. -/
theorem joind_dict (dict s : List Nat) : dict <:+: joind dict s := by
  unfold joind
  split
  · exact ⟨[], s.drop (ovl dict s), by simp⟩
  · exact ⟨s.take (s.length - ovl s dict), [], by simp⟩
theorem joind_seg (dict s : List Nat) : s <:+: joind dict s := by
  unfold joind
  split
  · refine ⟨dict.take (dict.length - ovl dict s), [], ?_⟩
    have e := ovl_is dict s
    generalize ovl dict s = p at e
    rw [List.append_nil]
    calc dict.take (dict.length - p) ++ s = dict.take (dict.length - p) ++ (s.take p ++ s.drop p) := by rw [List.take_append_drop]
      _ = dict.take (dict.length - p) ++ dict.drop (dict.length - p) ++ s.drop p := by rw [← e, List.append_assoc]
      _ = dict ++ s.drop p := by rw [List.take_append_drop]
  · refine ⟨[], dict.drop (ovl s dict), ?_⟩
    have e := ovl_is s dict
    generalize ovl s dict = p at e
    rw [List.nil_append]
    calc s ++ dict.drop p = (s.take (s.length - p) ++ s.drop (s.length - p)) ++ dict.drop p := by rw [List.take_append_drop]
      _ = s.take (s.length - p) ++ (dict.take p ++ dict.drop p) := by rw [e, List.append_assoc]
      _ = s.take (s.length - p) ++ dict := by rw [List.take_append_drop]
/-- Does s occur in t? -/
def occb (s t : List Nat) : Bool := (List.range (t.length + 1)).any fun i => decide ((t.drop i).take s.length = s) && decide (i + s.length ≤ t.length)
theorem occb_iff (s t : List Nat) : occb s t = true ↔ s <:+: t := by
  unfold occb
  rw [List.any_eq_true]
  constructor
  · rintro ⟨i, _, h⟩
    rw [Bool.and_eq_true] at h
    have h1 := of_decide_eq_true h.1
    refine ⟨t.take i, (t.drop i).drop s.length, ?_⟩
    calc t.take i ++ s ++ (t.drop i).drop s.length = t.take i ++ (t.drop i).take s.length ++ (t.drop i).drop s.length := by rw [h1]
      _ = t := by rw [List.append_assoc, List.take_append_drop, List.take_append_drop]
  · rintro ⟨a, b, rfl⟩
    refine ⟨a.length, by rw [List.mem_range]; simp; omega, ?_⟩
    rw [Bool.and_eq_true]
    exact ⟨decide_eq_true (by rw [List.append_assoc, List.drop_left, List.take_left]), decide_eq_true (by simp)⟩
instance (s t : List Nat) : Decidable (s <:+: t) := decidable_of_iff _ (occb_iff s t)
def stepd (size : Nat) (dict : List Nat) (x : Txt) : List Nat := if byt x <:+: dict then dict else if (joind dict (byt x)).length ≤ size then joind dict (byt x) else dict
def traind (size : Nat) (l : List Txt) : List Nat := l.foldl (stepd size) []
theorem traind_snoc (size : Nat) (l : List Txt) (x : Txt) : traind size (l ++ [x]) = stepd size (traind size l) x := by
  unfold traind
  rw [List.foldl_append]
  rfl
theorem joind_byte {dict s : List Nat} (h : ByteL dict) (k : ByteL s) : ByteL (joind dict s) := by
  unfold joind
  split
  · exact h.append (k.drop _)
  · exact (k.take _).append h
theorem stepd_byte {size : Nat} {dict : List Nat} (h : ByteL dict) (x : Txt) : ByteL (stepd size dict x) := by
  unfold stepd
  split
  · exact h
  · split
    · exact joind_byte h (byt_lt x)
    · exact h
theorem stepd_size {size : Nat} {dict : List Nat} (h : dict.length ≤ size) (x : Txt) : (stepd size dict x).length ≤ size := by
  unfold stepd
  split
  · exact h
  · split
    · assumption
    · exact h
theorem foldl_facts (size : Nat) : ∀ (l : List Txt) (d : List Nat), ByteL d → d.length ≤ size → ByteL (l.foldl (stepd size) d) ∧ (l.foldl (stepd size) d).length ≤ size
  | [], d, h, k => ⟨h, k⟩
  | x :: l, d, h, k => foldl_facts size l _ (stepd_byte h x) (stepd_size k x)
theorem traind_byte (size : Nat) (l : List Txt) : ByteL (traind size l) := (foldl_facts size l [] ByteL.nil (Nat.zero_le _)).1
theorem traind_size (size : Nat) (l : List Txt) : (traind size l).length ≤ size := (foldl_facts size l [] ByteL.nil (Nat.zero_le _)).2
/-! A dictionary that is large enough has every segment. -/
theorem infix_trans {a b c : List Nat} (h : a <:+: b) (k : b <:+: c) : a <:+: c := by
  obtain ⟨p, q, rfl⟩ := h
  obtain ⟨r, s, rfl⟩ := k
  exact ⟨r ++ p, q ++ s, by simp⟩
theorem stepd_keeps (size : Nat) (dict : List Nat) (x : Txt) : dict <:+: stepd size dict x := by
  unfold stepd
  split
  · exact ⟨[], [], by simp⟩
  · split
    · exact joind_dict _ _
    · exact ⟨[], [], by simp⟩
theorem stepd_len (size : Nat) (dict : List Nat) (x : Txt) (hx : x.length = 8) : (stepd size dict x).length ≤ dict.length + 8 := by
  have := joind_length dict (byt x)
  rw [byt_length, hx] at this
  unfold stepd
  split
  · omega
  · split <;> omega
theorem stepd_has {size : Nat} {dict : List Nat} {x : Txt} (hx : x.length = 8) (h : dict.length + 8 ≤ size) : byt x <:+: stepd size dict x := by
  have hj := joind_length dict (byt x)
  rw [byt_length, hx] at hj
  unfold stepd
  split
  · assumption
  · rw [if_pos (by omega)]
    exact joind_seg _ _
theorem foldl_keeps (size : Nat) : ∀ (l : List Txt) (d : List Nat), d <:+: l.foldl (stepd size) d
  | [], d => ⟨[], [], by simp⟩
  | x :: l, d => infix_trans (stepd_keeps size d x) (foldl_keeps size l _)
theorem foldl_has (size : Nat) : ∀ (l : List Txt) (d : List Nat), (∀ x ∈ l, x.length = 8) → d.length + 8 * l.length ≤ size → ∀ x ∈ l, byt x <:+: l.foldl (stepd size) d
  | [], d, _, _ => by intro x hx; cases hx
  | y :: l, d, h8, hs => by
    intro x hx
    rw [List.length_cons] at hs
    have hy := h8 y List.mem_cons_self
    rcases List.mem_cons.1 hx with rfl | hx
    · exact infix_trans (stepd_has hy (by omega)) (foldl_keeps size l _)
    · have := stepd_len size d y hy
      exact foldl_has size l _ (fun z hz => h8 z (List.mem_cons_of_mem _ hz)) (by omega) x hx
theorem complete {S : List (List Nat)} {l : List Txt} (h : Segs S l) (size : Nat) (hs : 8 * l.length ≤ size) {x : Txt} (hx : 2 ≤ fr S x) : byt x <:+: traind size l :=
  foldl_has size l [] (fun y hy => h.eight hy) (by simpa using hs) x ((h.mem x).2 hx)
/-- How many segments there are, at most. -/
def many (S : List (List Nat)) : Nat := (S.map fun s => s.length - 7).sum
theorem nodup_len_le : ∀ {l w : List Txt}, l.Nodup → (∀ x ∈ l, x ∈ w) → l.length ≤ w.length
  | [], _, _, _ => Nat.zero_le _
  | a :: l, w, h, hs => by
    rw [List.nodup_cons] at h
    have ha := hs a List.mem_cons_self
    have := nodup_len_le (w := w.erase a) h.2 (fun x hx => (List.mem_erase_of_ne (fun e => by subst e; exact h.1 hx)).2 (hs x (List.mem_cons_of_mem _ hx)))
    rw [List.length_erase_of_mem ha] at this
    have := List.length_pos_of_mem ha
    rw [List.length_cons]
    omega
theorem nodup_filter_le {l : List Txt} (h : l.Nodup) (w : List Txt) : l.countP (fun x => decide (x ∈ w)) ≤ w.length := by
  rw [List.countP_eq_length_filter]
  have hn : (l.filter fun x => decide (x ∈ w)).Nodup := h.sublist List.filter_sublist
  have hs : ∀ x ∈ l.filter (fun x => decide (x ∈ w)), x ∈ w := fun x hx => by
    have := (List.mem_filter.1 hx).2
    exact of_decide_eq_true this
  exact nodup_len_le hn hs
theorem fr_sum {l : List Txt} (h : l.Nodup) : ∀ S : List (List Nat), (l.map (fr S)).sum ≤ many S := by
  intro S
  induction S with
  | nil =>
    have : (l.map (fr [])).sum = 0 := by
      clear h
      induction l with
      | nil => rfl
      | cons a l ih => rw [List.map_cons, List.sum_cons, ih]; rfl
    rw [this]; exact Nat.zero_le _
  | cons s S ih =>
    have e : (l.map (fr (s :: S))).sum = (l.map (fr S)).sum + l.countP (fun x => decide (x ∈ wins s)) := by
      clear ih h
      induction l with
      | nil => rfl
      | cons a l ih =>
        rw [List.map_cons, List.map_cons, List.sum_cons, List.sum_cons, ih, List.countP_cons]
        have : fr (s :: S) a = fr S a + if decide (a ∈ wins s) then 1 else 0 := by unfold fr; rw [List.countP_cons]
        rw [this]
        omega
    have hw : (wins s).length = s.length - 7 := by simp [wins]
    have := nodup_filter_le h (wins s)
    rw [e]
    unfold many at ih ⊢
    rw [List.map_cons, List.sum_cons]
    omega
theorem sum_ge {l : List Txt} {f : Txt → Nat} (h : ∀ x ∈ l, 2 ≤ f x) : 2 * l.length ≤ (l.map f).sum := by
  induction l with
  | nil => simp
  | cons a l ih =>
    have h1 := h a List.mem_cons_self
    have h2 := ih fun x hx => h x (List.mem_cons_of_mem _ hx)
    rw [List.map_cons, List.sum_cons, List.length_cons]
    omega
theorem Segs.few {S : List (List Nat)} {l : List Txt} (h : Segs S l) : 2 * l.length ≤ many S :=
  Nat.le_trans (sum_ge fun x hx => (h.mem x).1 hx) (fr_sum h.nodup S)
end PB
end Go.Proofs.Ytnahmiglogddaaa
namespace Go.Proofs.Ytnahmiglogddaaa
open Go.RowKit
attribute [local go_sem ↓] Go.wp_at_zero Go.wp_at_succ
set_option linter.unusedVariables false
set_option linter.unusedSimpArgs false
namespace PB
/-! Maps keyed by texts. -/
def intR (v : Value) : Option (DataW Unit × List MemPlace) :=
  match v with
  | .int .i64 z => some (.lit (.int .i64 z), [])
  | _ => none
def boolR (v : Value) : Option (DataW Unit × List MemPlace) :=
  match v with
  | .bool z => some (.lit (.bool z), [])
  | _ => none
theorem intR_inv {v : Value} {y : DataW Unit × List MemPlace} (h : intR v = some y) : ∃ z : Int, v = .int .i64 z ∧ y = (.lit (.int .i64 z), []) := by
  unfold intR at h
  split at h
  · cases h; exact ⟨_, rfl, rfl⟩
  · cases h
theorem boolR_inv {v : Value} {y : DataW Unit × List MemPlace} (h : boolR v = some y) : ∃ z : Bool, v = .bool z ∧ y = (.lit (.bool z), []) := by
  unfold boolR at h
  split at h
  · cases h; exact ⟨_, rfl, rfl⟩
  · cases h
theorem str_law : Go.Maps.Keyed Try.prog 9 := Go.Maps.string_keyed Try.underlying9
theorem key_utx {x : Txt} (h : x.length ≤ 100) : keyOf Try.prog 9 (encStr x) = some (.string x) := by
  have h2 : x.length ≤ maxLen := by unfold maxLen; omega
  have h3 : (⟨x.toArray⟩ : ByteArray).size = x.length := by simp [ByteArray.size]
  simp [keyOf, Try.underlying9, mapKey, encStr, h3, h2]
theorem zero_int (w : World) : (zeroValue 3).run Try.prog w = .ok (.int .i64 0) w := by kernel_rfl
theorem zero_bool (w : World) : (zeroValue 4).run Try.prog w = .ok (.bool false) w := by kernel_rfl
/-- Block b is a map of at most n texts; the number at a text is that of f. -/
def FM (w : World) (b n : Nat) (f : Txt → Nat) : Prop :=
  ∃ D, w.ownsMap Try.prog 9 intR b n D ∧ (∀ x : Txt, x.length ≤ 100 → D.atKey (.string x) (.lit (.int .i64 0)) = .lit (.int .i64 (f x : Nat))) ∧ ∀ x : Txt, Go.Maps.has D (.string x) = true → x.length ≤ 100
/-- Block b is a map of at most n texts; the bool at a text is that of f. -/
def SM (w : World) (b n : Nat) (f : Txt → Bool) : Prop :=
  ∃ D, w.ownsMap Try.prog 9 boolR b n D ∧ ∀ x : Txt, x.length ≤ 100 → D.atKey (.string x) (.lit (.bool false)) = .lit (.bool (f x))
def tset {β : Type} (f : Txt → β) (x : Txt) (v : β) (y : Txt) : β := if y = x then v else f y
section
variable {w w' : World} {b n : Nat} {f : Txt → Nat} {g : Txt → Bool}
theorem FM.made (w : World) : FM (w.alloc (.map #[] 0)) w.heap.size 0 (fun _ => 0) := ⟨_, World.ownsMap_made _ _ _ _, fun _ _ => rfl, fun x h => by cases h⟩
theorem SM.made (w : World) : SM (w.alloc (.map #[] 0)) w.heap.size 0 (fun _ => false) := ⟨_, World.ownsMap_made _ _ _ _, fun _ _ => rfl⟩
theorem FM.lt (h : FM w b n f) : b < w.heap.size := by obtain ⟨D, h, _⟩ := h; exact h.lt
theorem SM.lt (h : SM w b n g) : b < w.heap.size := by obtain ⟨D, h, _⟩ := h; exact h.lt
theorem FM.mono (h : FM w b n f) {m : Nat} (hm : n ≤ m) : FM w b m f := by obtain ⟨D, h, r⟩ := h; exact ⟨D, h.mono hm, r⟩
theorem SM.mono (h : SM w b n g) {m : Nat} (hm : n ≤ m) : SM w b m g := by obtain ⟨D, h, r⟩ := h; exact ⟨D, h.mono hm, r⟩
theorem FM.fn (h : FM w b n f) {f' : Txt → Nat} (he : ∀ x, f x = f' x) : FM w b n f' := by obtain rfl : f = f' := funext he; exact h
theorem SM.fn (h : SM w b n g) {g' : Txt → Bool} (he : ∀ x, g x = g' x) : SM w b n g' := by obtain rfl : g = g' := funext he; exact h
theorem FM.kept {row : Option Nat} (h : FM w b n f) (hg : w.grownBy w' row) (hne : some b ≠ row) : FM w' b n f := by obtain ⟨D, h, r⟩ := h; exact ⟨D, h.kept hg hne, r⟩
theorem SM.kept {row : Option Nat} (h : SM w b n g) (hg : w.grownBy w' row) (hne : some b ≠ row) : SM w' b n g := by obtain ⟨D, h, r⟩ := h; exact ⟨D, h.kept hg hne, r⟩
theorem FM.on (h : FM w b n f) (hb : Below w.heap.size w w') : FM w' b n f := by
  obtain ⟨D, ⟨es, clock, h1, h2⟩, r⟩ := h
  exact ⟨D, ⟨es, clock, (hb.block b (Array.getElem?_eq_some_iff.1 h1).1).trans h1, h2⟩, r⟩
theorem FM.alloc (h : FM w b n f) (o : Obj) : FM (w.alloc o) b n f := h.on ((Below.refl _ _).alloc (Nat.le_refl _) o)
theorem FM.drew (h : FM w b n f) : FM w.drew b n f := h
theorem FM.drewN (h : FM w b n f) (q : Nat) : FM (w.drewN q) b n f := h
theorem FM.blk_ne (h : FM w b n f) {t : TypeId} {k : Nat} {cs : Array Value} (hk : Blk w k t cs) : b ≠ k := by
  rintro rfl
  obtain ⟨D, ⟨es, clock, h1, _⟩, _⟩ := h
  unfold Blk at hk
  rw [h1] at hk
  cases hk
theorem SM.blk_ne (h : SM w b n g) {t : TypeId} {k : Nat} {cs : Array Value} (hk : Blk w k t cs) : b ≠ k := by
  rintro rfl
  obtain ⟨D, ⟨es, clock, h1, _⟩, _⟩ := h
  unfold Blk at hk
  rw [h1] at hk
  cases hk
theorem FM.look (h : FM w b n f) {x : Txt} (hx : x.length ≤ 100) : (Instr.lookup 64 (.map (some b)) (encStr x) false).run Try.prog w = .ok (.int .i64 (f x : Nat)) w := by
  obtain ⟨D, h, r, _⟩ := h
  obtain ⟨v, ps, hrun, hv⟩ := h.lookup (z := .int .i64 0) str_law Try.underlying64 (zero_int w) rfl (key_utx hx)
  rw [r x hx] at hv
  obtain ⟨z, rfl, hz⟩ := intR_inv hv
  simp only [Prod.mk.injEq, DataW.lit.injEq, Lit.int.injEq, true_and] at hz
  rw [hrun, ← hz.1]
theorem SM.look (h : SM w b n g) {x : Txt} (hx : x.length ≤ 100) : (Instr.lookup 65 (.map (some b)) (encStr x) false).run Try.prog w = .ok (.bool (g x)) w := by
  obtain ⟨D, h, r⟩ := h
  obtain ⟨v, ps, hrun, hv⟩ := h.lookup (z := .bool false) str_law Try.underlying65 (zero_bool w) rfl (key_utx hx)
  rw [r x hx] at hv
  obtain ⟨z, rfl, hz⟩ := boolR_inv hv
  simp only [Prod.mk.injEq, DataW.lit.injEq, Lit.bool.injEq] at hz
  rw [hrun, ← hz.1]
theorem FM.store (h : FM w b n f) {x : Txt} (hx : x.length ≤ 100) (hn : n < maxLen) (v : Nat) :
    ∃ w', (Instr.mapUpdate 64 (.map (some b)) (encStr x) (.int .i64 (v : Nat))).run Try.prog w = .ok () w' ∧ FM w' b (n + 1) (tset f x v) ∧ w.grownBy w' (some b) := by
  obtain ⟨D, h, r, r2⟩ := h
  obtain ⟨w', h1, h2, h3⟩ := h.update str_law Try.underlying64 hn (key_utx hx) (rfl : intR (.int .i64 (v : Nat)) = some _)
  refine ⟨w', h1, ⟨_, h2, fun y hy => ?_, fun y hy => ?_⟩, h3⟩
  · unfold tset
    by_cases e : y = x
    · subst e
      rw [if_pos rfl, Go.Maps.atKey_put_same h.isMap (str_law.key (key_utx hx))]
    · rw [if_neg e, Go.Maps.atKey_put_other (fun e2 : Lit.string y = Lit.string x => e (by injection e2))]
      exact r y hy
  · by_cases e : y = x
    · subst e; exact hx
    · rw [Go.Maps.has_put_other (fun e2 : Lit.string y = Lit.string x => e (by injection e2))] at hy
      exact r2 y hy
theorem SM.store (h : SM w b n g) {x : Txt} (hx : x.length ≤ 100) (hn : n < maxLen) (v : Bool) :
    ∃ w', (Instr.mapUpdate 65 (.map (some b)) (encStr x) (.bool v)).run Try.prog w = .ok () w' ∧ SM w' b (n + 1) (tset g x v) ∧ w.grownBy w' (some b) := by
  obtain ⟨D, h, r⟩ := h
  obtain ⟨w', h1, h2, h3⟩ := h.update str_law Try.underlying65 hn (key_utx hx) (rfl : boolR (.bool v) = some _)
  refine ⟨w', h1, ⟨_, h2, fun y hy => ?_⟩, h3⟩
  unfold tset
  by_cases e : y = x
  · subst e
    rw [if_pos rfl, Go.Maps.atKey_put_same h.isMap (str_law.key (key_utx hx))]
  · rw [if_neg e, Go.Maps.atKey_put_other (fun e2 : Lit.string y = Lit.string x => e (by injection e2))]
    exact r y hy
end
/-! Parts of rows. -/
/-- A part of a row: Go's slice expression with both bounds, and what its value reads as. -/
theorem Rd.mid {P : Program} {w : World} {A : Option Addr} {n c : Nat} {xs : List Value} (t e : TypeId) (i : TypeInfo) (ht : P.underlying t = some (.slice e)) (hi : P.info? e = some i) (hsize : i.size = 1) (h : Rd w A n c xs) (f fin : Nat) (hf : f ≤ fin) (hto : fin ≤ n) :
    ∃ A', (∀ W, (Instr.slice t (.slice A n c) (some (.int .i64 (f : Nat))) (some (.int .i64 (fin : Nat))) none).run P W = .ok (.slice A' (fin - f) (c - f)) W) ∧ Rd w A' (fin - f) (c - f) ((xs.drop f).take (fin - f)) := by
  have hn := h.len
  have hcap := Reads.cap h
  have hcm := Reads.capMax h
  have hrun : ∀ W, (Instr.slice t (.slice A n c) (some (.int .i64 (f : Nat))) (some (.int .i64 (fin : Nat))) none).run P W = .ok (.slice (if c = f then A else A.map (·.add (f * 1))) (fin - f) (c - f)) W := by
    intro W
    have h1 : fin ≤ c := by omega
    simp [Instr.slice, Instr.sliceBounds, Instr.sliceBound, asIntOf, run_underlying ht, sizeOf, typeInfo, hi, hsize, h1, hf, go_sem]
  refine ⟨_, hrun, ?_⟩
  obtain ⟨h1, h2, h3, h4⟩ := h
  by_cases hc : c = f
  · rw [if_pos hc]
    have h0 : fin - f = 0 := by omega
    rw [h0, List.take_zero]
    exact Reads.nil _ _ A _ (by omega)
  · rw [if_neg hc]
    refine ⟨by rw [List.length_take, List.length_drop]; omega, by omega, by omega, fun h0 => ?_⟩
    obtain ⟨b, off, e, hb, hcc⟩ := h4 (by omega)
    refine ⟨b, off + f, ?_, hb, fun j u hu => ?_⟩
    · rw [e]
      show some ((⟨b, off, none⟩ : Addr).add (f * 1)) = _
      unfold Addr.add
      by_cases hf : f = 0 <;> simp [hf]
    · have hj : j < fin - f := by
        rcases Nat.lt_or_ge j (fin - f) with h | h
        · exact h
        · rw [List.getElem?_eq_none (by rw [List.length_take, List.length_drop]; omega)] at hu; cases hu
      rw [List.getElem?_take, if_pos hj, List.getElem?_drop] at hu
      rw [Nat.add_assoc]
      exact hcc (f + j) u hu
/-- The first places of a row. -/
theorem Rd.first {P : Program} {w : World} {A : Option Addr} {n c : Nat} {xs : List Value} (t e : TypeId) (i : TypeInfo) (ht : P.underlying t = some (.slice e)) (hi : P.info? e = some i) (hsize : i.size = 1) (h : Rd w A n c xs) (m : Nat) (hm : m ≤ n) :
    ∃ A', (∀ W, (Instr.slice t (.slice A n c) none (some (.int .i64 (m : Nat))) none).run P W = .ok (.slice A' m c) W) ∧ Rd w A' m c (xs.take m) := by
  have hn := h.len
  have hcap := Reads.cap h
  have hcm := Reads.capMax h
  have hrun : ∀ W, (Instr.slice t (.slice A n c) none (some (.int .i64 (m : Nat))) none).run P W = .ok (.slice (if c = 0 then A else A.map (·.add 0)) m c) W := by
    intro W
    have h1 : m ≤ c := by omega
    simp [Instr.slice, Instr.sliceBounds, Instr.sliceBound, asIntOf, run_underlying ht, sizeOf, typeInfo, hi, hsize, h1, go_sem]
  refine ⟨_, hrun, ?_⟩
  obtain ⟨h1, h2, h3, h4⟩ := h
  refine ⟨by rw [List.length_take]; omega, by omega, h3, fun h0 => ?_⟩
  obtain ⟨b, off, e, hb, hcc⟩ := h4 (by omega)
  refine ⟨b, off, ?_, hb, fun j u hu => ?_⟩
  · rw [e]
    split
    · rfl
    · show some ((⟨b, off, none⟩ : Addr).add 0) = _
      unfold Addr.add
      simp
  · have hj : j < m := by
      rcases Nat.lt_or_ge j m with h | h
      · exact h
      · rw [List.getElem?_eq_none (by rw [List.length_take]; omega)] at hu; cases hu
    rw [List.getElem?_take, if_pos hj] at hu
    exact hcc j u hu
theorem bcells_take (d : List Nat) (n : Nat) : (bcells d).take n = bcells (d.take n) := by unfold bcells; rw [List.map_take]
theorem bcells_drop (d : List Nat) (n : Nat) : (bcells d).drop n = bcells (d.drop n) := by unfold bcells; rw [List.map_drop]
/-- A []byte made a string: the text. -/
theorem run_to_utx {w : World} {A : Option Addr} {n c : Nat} {d : List Nat} (h : Rd w A n c (bcells d)) : (convert 23 9 (.slice A n c)).run Try.prog w = .ok (encStr (utx d)) w :=
  run_bytes_str (P := Try.prog) 23 9 5 Try.underlying23 Try.underlying5 Try.underlying9 h
/-! Comparing texts. -/
def cmpt (x y : Txt) : Int := if x < y then -1 else if y < x then 1 else 0
theorem cmpt_lt {x y : Txt} : cmpt x y < 0 ↔ x < y := by
  unfold cmpt
  split
  · rename_i h; simp [h]
  · rename_i h
    split <;> simp [h]
theorem cmpt_zero {x y : Txt} : cmpt x y = 0 ↔ x = y := by
  unfold cmpt
  split
  · rename_i h
    constructor
    · intro e; cases e
    · rintro rfl; exact absurd h (utx_irrefl x)
  · rename_i h
    split
    · rename_i h2
      constructor
      · intro e; cases e
      · rintro rfl; exact absurd h2 (utx_irrefl x)
    · rename_i h2
      simp only [true_iff]
      rcases utx_tri x y with k | k | k
      · exact absurd k h
      · exact k
      · exact absurd k h2
end PB
end Go.Proofs.Ytnahmiglogddaaa
namespace Go.Proofs.Ytnahmiglogddaaa
open Go.RowKit
attribute [local go_sem ↓] Go.wp_at_zero Go.wp_at_succ
set_option linter.unusedVariables false
set_option linter.unusedSimpArgs false
namespace PB
theorem isnan_any (x : Txt) (w : World) :
    Calls Try.prog 49 #[encStr x] w fun e w' => e = .returned (.bool false) ∧ w' = w := by
  unfold encStr
  go_enter Try.func49, Try.ntmps49
  go_wp2
  go_ret
  exact ⟨by simp, rfl⟩
theorem less_iff (x y : Txt) : Op.bytesLess x y = decide (x < y) := by
  induction x generalizing y with
  | nil => cases y <;> simp [Op.bytesLess]
  | cons a x ih =>
    cases y with
    | nil => simp [Op.bytesLess]
    | cons b y =>
      unfold Op.bytesLess
      rw [ih, Bool.eq_iff_iff]
      simp [List.cons_lt_cons_iff]
theorem compare_any (x y : Txt) (w : World) :
    Calls Try.prog 44 #[encStr x, encStr y] w fun e w' => e = .returned (.int .i64 (cmpt x y)) ∧ w' = w := by
  have HN := Lib.hid (isnan_any x w)
  have HN2 := Lib.hid (isnan_any y w)
  have hcs : (Op.bytesLess x y = true ∧ cmpt x y = -1) ∨ (Op.bytesLess x y = false ∧ (x == y) = true ∧ cmpt x y = 0) ∨ (Op.bytesLess x y = false ∧ (x == y) = false ∧ cmpt x y = 1) := by
    rcases utx_tri x y with h | h | h
    · left; exact ⟨by rw [less_iff]; exact decide_eq_true h, by unfold cmpt; rw [if_pos h]⟩
    · subst h
      right; left
      exact ⟨by rw [less_iff]; exact decide_eq_false (utx_irrefl x), by simp, cmpt_zero.2 rfl⟩
    · right; right
      have hn : ¬ x < y := fun k => utx_irrefl x (utx_trans k h)
      exact ⟨by rw [less_iff]; exact decide_eq_false hn, by rw [beq_eq_false_iff_ne]; rintro rfl; exact utx_irrefl x h, by unfold cmpt; rw [if_neg hn, if_pos h]⟩
  unfold encStr at HN HN2 ⊢
  obtain ⟨c, hc⟩ : ∃ c, c = cmpt x y := ⟨_, rfl⟩
  rw [← hc] at hcs ⊢
  clear hc
  rcases hcs with ⟨h1, rfl⟩ | ⟨h1, h2, rfl⟩ | ⟨h1, h2, rfl⟩
  all_goals
    go_enter Try.func44, Try.ntmps44
    go_wp2_with fail
    refine HN.out.mono ?_
    rintro e w1 ⟨rfl, rfl⟩
    go_wp2_with fail
    refine HN2.out.mono ?_
    rintro e w2 ⟨rfl, rfl⟩
    go_wp2
    go_ret
    exact ⟨rfl, rfl⟩
set_option maxHeartbeats 800000 in
theorem or_any {A : Option Addr} {c : Nat} {a b : Int} {w : World} (h : Rd w A 2 c (icells [a, b])) (r : Int) (hr : r = if a = 0 then b else a) :
    Calls Try.prog 43 #[.slice A 2 c] w fun e w' => e = .returned (.int .i64 r) ∧ w' = w := by
  have hcm := Reads.capMax h
  have hcap := Reads.cap h
  unfold maxLen at hcm
  obtain ⟨g, off, rfl, hg, hc⟩ := h.2.2.2 (by omega)
  have c0 : w.cell? ⟨g, off, none⟩ = some (.int .i64 a) := hc 0 _ rfl
  have c1 : w.cell? ⟨g, off + 1, none⟩ = some (.int .i64 b) := hc 1 _ rfl
  clear hc
  have HR := Lib.hid hr
  clear hr
  go_enter Try.func43, Try.ntmps43
  go_wp2_with fail
  go_loop [8] (fun i => i = .int .i64 0 ∨ (i = .int .i64 1 ∧ a = 0) ∨ (i = .int .i64 2 ∧ a = 0 ∧ b = 0)) (fun i => 3 - (intOf i).toNat)
  case atStart => exact .inl rfl
  case round =>
    rcases hrel with rfl | ⟨rfl, ha⟩ | ⟨rfl, ha, hb⟩
    · by_cases ha : a = 0
      · subst ha
        go_wp2
        go_round
        case rel => exact .inr (.inl ⟨rfl, by simp⟩)
        case measure => simp [intOf]
      · have ha2 : (a != 0) = true := by rw [bne_iff_ne]; exact ha
        have HA := Lib.hid ha
        clear ha
        go_wp2
        go_ret
        exact ⟨by rw [HR.out, if_neg HA.out]; rfl, rfl⟩
    · subst ha
      by_cases hb : b = 0
      · subst hb
        go_wp2
        go_round
        case rel => exact .inr (.inr ⟨rfl, by simp, by simp⟩)
        case measure => simp [intOf]
      · have ha2 : (b != 0) = true := by rw [bne_iff_ne]; exact hb
        clear hb
        go_wp2
        go_ret
        exact ⟨by rw [HR.out]; simp, rfl⟩
    · subst ha hb
      go_wp2
      go_ret
      exact ⟨by rw [HR.out]; simp, rfl⟩
/-- What the comparing function of dictionary.segments answers. -/
def cfs (f : Txt → Nat) (x y : Txt) : Int := if (f y : Int) - (f x : Int) = 0 then cmpt x y else (f y : Int) - (f x : Int)
theorem Rd.lit2i (w : World) (a b : Int) (t : TypeId) : Rd (w.alloc (.cells #[.int .i64 a, .int .i64 b] t)) (some ⟨w.heap.size, 0, none⟩) 2 2 (icells [a, b]) := by
  have hB := Two.new w t (.int .i64 a) (.int .i64 b)
  refine ⟨rfl, Nat.le_refl _, by decide, fun _ => ⟨w.heap.size, 0, rfl, by simp, fun i y hy => ?_⟩⟩
  match i, hy with
  | 0, hy => obtain rfl : _ = y := by simpa [icells] using hy
             exact hB.c0
  | 1, hy => obtain rfl : _ = y := by simpa [icells] using hy
             exact hB.c1
  | i + 2, hy => simp [icells] at hy
set_option maxHeartbeats 1600000 in
set_option maxRecDepth 100000 in
theorem segcmp_any {fb b n : Nat} {f : Txt → Nat} {w : World} (h1 : One w fb 64 (.map (some b))) (h2 : FM w b n f) (hf : ∀ x, f x ≤ 1000) {x y : Txt} (hx : x.length ≤ 100) (hy : y.length ≤ 100) :
    Calls Try.prog 42 #[encStr x, encStr y, .pointer (some ⟨fb, 0, none⟩)] w fun e w' => e = .returned (.int .i64 (cfs f x y)) ∧ ∃ q os, w' = Sort.grow (w.drewN q) os := by
  have lx := FM.look h2.drew hx
  have ly := FM.look h2.drew hy
  have c0 := h1.c0
  have fx := hf x
  have fy := hf y
  obtain ⟨p, hp⟩ : ∃ p, p = f x := ⟨_, rfl⟩
  obtain ⟨q, hq⟩ : ∃ q, q = f y := ⟨_, rfl⟩
  obtain ⟨r, hr⟩ : ∃ r, r = cfs f x y := ⟨_, rfl⟩
  have hr2 : r = if (q : Int) - (p : Int) = 0 then cmpt x y else (q : Int) - (p : Int) := by rw [hr, hp, hq]; rfl
  rw [← hr]
  rw [← hp] at lx fx
  rw [← hq] at ly fy
  have HC := Lib.hid (compare_any x y w.drew)
  obtain ⟨c, hc⟩ : ∃ c, c = cmpt x y := ⟨_, rfl⟩
  rw [← hc] at HC hr2
  have HR := Lib.hid hr2
  have HO := Lib.hid (or_any (Rd.lit2i w.drew ((q : Int) - (p : Int)) c 3) r hr2)
  have hw1 : IntKind.i64.wrap ((q : Int) - (p : Int)) = (q : Int) - (p : Int) := IntWalk.i64_in _ (by omega)
  clear hp hq hr hc hr2
  unfold encStr at lx ly HC ⊢
  go_enter Try.func42, Try.ntmps42
  go_upto_region 1 with (fail)
  go_region_held3 (fun w' => w'.cell? ⟨fb, 0, none⟩ = some (.map (some b))) (go_keep) (first | (go_at_call 44; refine HC.out.mono ?_; rintro e w5 ⟨rfl, rfl⟩) | (go_at_call 43; refine HO.out.mono ?_; rintro e w5 ⟨rfl, rfl⟩))
  all_goals
    go_wp2
    go_ret
    exact ⟨rfl, 1, #[.cells #[.int .i64 ((q : Int) - (p : Int)), .int .i64 c] 3], by rw [Sort.alloc_eq_grow]; rfl⟩
end PB
end Go.Proofs.Ytnahmiglogddaaa
namespace Go.Proofs.Ytnahmiglogddaaa
open Go.RowKit Go.Sort
set_option linter.unusedVariables false
set_option linter.unusedSimpArgs false
namespace PB
/-- A text that is short. -/
abbrev STx := { x : Txt // x.length ≤ 100 }
instance : Inhabited STx := ⟨⟨[], by decide⟩⟩
def sEnc (x : STx) : Value := encStr x.1
def stx (x : Txt) : STx := if h : x.length ≤ 100 then ⟨x, h⟩ else default
theorem stx_val {x : Txt} (h : x.length ≤ 100) : (stx x).1 = x := by unfold stx; rw [dif_pos h]
theorem cfs_lt (f : Txt → Nat) (x y : Txt) : cfs f x y < 0 ↔ tlt f x y := by
  unfold cfs tlt
  split
  · rw [cmpt_lt]
    constructor
    · intro h; exact .inr ⟨by omega, h⟩
    · rintro (h | ⟨_, h⟩)
      · omega
      · exact h
  · constructor
    · intro h; left; omega
    · rintro (h | ⟨h, _⟩) <;> omega
theorem lt_iff (f : Txt → Nat) (a b : STx) : ltOf (fun a b : STx => cfs f a.1 b.1) a b = true ↔ tlt f a.1 b.1 := by
  unfold ltOf
  rw [decide_eq_true_eq]
  exact cfs_lt f a.1 b.1
theorem lt_false (f : Txt → Nat) (a b : STx) : ltOf (fun a b : STx => cfs f a.1 b.1) a b = false ↔ ¬ tlt f a.1 b.1 := by
  rw [← lt_iff]
  simp
theorem seg_swo (f : Txt → Nat) : SWO (ltOf fun a b : STx => cfs f a.1 b.1) where
  irrefl x := (lt_false f x x).2 (tlt_irrefl f x.1)
  trans x y z h1 h2 := (lt_iff f x z).2 (tlt_trans ((lt_iff f x y).1 h1) ((lt_iff f y z).1 h2))
  ntrans x y z h1 h2 := by
    rw [lt_false] at h1 h2 ⊢
    intro h
    rcases tlt_tri f x.1 y.1 with k | k | k
    · exact h1 k
    · exact h2 (k ▸ h)
    · exact h2 (tlt_trans k h)
theorem putCells_val (off : Nat) (d : Array STx) (c : Array Value) : putCells sEnc off d c = putCells encStr off (d.map fun x => x.1) c := by
  unfold putCells
  rw [Array.size_map]
  congr 1
  funext k x
  split
  · rename_i h
    have hk : k - off < d.size := by omega
    rw [getElem!_pos d _ hk, getElem!_pos (d.map fun x => x.1) _ (by simpa using hk), Array.getElem_map]
    rfl
  · rfl
theorem sortWorld_val (w : World) (blk off m : Nat) (d : Array STx) (os : Array Obj) : sortWorld sEnc w blk off m d os = sortWorld encStr w blk off m (d.map fun x => x.1) os := by
  unfold sortWorld putRow
  rw [show putCells sEnc off d = putCells encStr off (d.map fun x => x.1) from funext fun c => putCells_val off d c]
theorem sort_grown {w : World} {g n : Nat} {os : Array Obj} (d : Array STx) : w.grownBy (sortWorld sEnc w g 0 n d os) (some g) := by
  rw [sortWorld_val]
  exact grownBy_sorted _
set_option maxHeartbeats 800000 in
theorem sortsegs_any {v : Value} {base FB b n : Nat} {f : Txt → Nat} {l : List Txt} {w : World} (hrow : w.ownsRow base 9 1 v l.length (l.map encStr)) (h1 : One w FB 64 (.map (some b))) (h2 : FM w b n f)
    (hf : ∀ x, f x ≤ 1000) (hFB : FB < base) (hb : b < base) (hl : ∀ x ∈ l, x.length ≤ 100) (hnd : l.Nodup) (hlen : l.length < 1000000) :
    Calls Try.prog 41 #[v, .func (.func 42) #[] #[.pointer (some ⟨FB, 0, none⟩)]] w fun e w' => e = .returned (.tuple #[]) ∧
      ∃ l' : List Txt, l'.Perm l ∧ l'.Pairwise (tlt f) ∧ w'.ownsRow base 9 1 v l'.length (l'.map encStr) ∧ w.grownBy w' v.ownBlock := by
  rcases hrow.2 with ⟨rfl, hn0⟩ | ⟨g, cap, cur, rfl, hbase, hg, q1, q2, q3, q4⟩
  · obtain rfl : l = [] := List.eq_nil_of_length_eq_zero hn0
    have hs := AnyF.slices_SortFunc_none Try.sortS0 none 0 (.func (.func 42) #[] #[.pointer (some ⟨FB, 0, none⟩)]) w
    change Calls Try.prog 41 _ _ _ at hs
    refine hs.mono ?_
    rintro e w' ⟨rfl, rfl⟩
    exact ⟨rfl, [], List.Perm.refl _, List.Pairwise.nil, hrow, World.grownBy.refl _ _⟩
  · have hgl : g < w.heap.size := (Array.getElem?_eq_some_iff.1 hg).1
    have hmap : ((l.map stx).toArray.map fun x : STx => x.1).toList = l := by
      rw [Array.toList_map]
      show List.map (fun x : STx => x.1) (l.map stx) = l
      rw [List.map_map]
      conv => rhs; rw [← List.map_id l]
      exact List.map_congr_left fun x hx => stx_val (hl x hx)
    have hH0 : Holds encStr w g 0 l.toArray := holds_of_block hg (by simpa using q4)
    have hH : Holds sEnc w g 0 (l.map stx).toArray := by
      intro j hj
      have hj' : j < l.length := by simpa using hj
      have := hH0 j (by simpa using hj')
      refine ⟨?_, this.2⟩
      rw [this.1, getElem!_pos l.toArray j (by simpa using hj'), getElem!_pos (l.map stx).toArray j hj]
      simp only [List.getElem_toArray, List.getElem_map, sEnc]
      rw [stx_val (hl _ (List.getElem_mem hj'))]
    have eg : ∀ args w, (callFunc 42 args).run Try.prog w = .ok (.enter 42 args) w := enters_of Try.func42 (by kernel_rfl) rfl
    have hsz : (l.map stx).toArray.size = l.length := by simp
    have hcmp : CmpLays1 Try.prog 42 #[.pointer (some ⟨FB, 0, none⟩)] sEnc (fun a b : STx => cfs f a.1 b.1) g 0 (l.map stx).toArray.size w := by
      intro m os dk hdk x y
      have hgr := sort_grown (w := w) (g := g) (n := m) (os := os) dk
      exact segcmp_any (One.grown h1 hgr (by intro e; have := Option.some.inj e; omega)) (h2.kept hgr (by intro e; have := Option.some.inj e; omega)) hf x.2 y.2
    have hs := Any.slices_SortFunc Try.sortS sEnc (fun _ => rfl) (fun a b : STx => cfs f a.1 b.1) (seg_swo f) 42 #[.pointer (some ⟨FB, 0, none⟩)] g 0 cap (l.map stx).toArray w eg hcmp hH hgl (by rw [hsz]; omega)
    rw [hsz] at hs
    change Calls Try.prog 41 _ _ _ at hs
    refine hs.mono ?_
    rintro e w' ⟨rfl, d', nn, os, hp, hsd, rfl⟩
    have hds : d'.size = l.length := by rw [hp.1, hsz]
    have hperm : d'.toList.Perm (l.map stx) := by
      have := hp.2.2
      rw [← hsz, ← hp.1, Array.extract_size, hp.1, Array.extract_size] at this
      simpa using this
    have hpl : (d'.toList.map fun x : STx => x.1).Perm l := by
      have := hperm.map (fun x : STx => x.1)
      rw [List.map_map] at this
      have e : l.map ((fun x : STx => x.1) ∘ stx) = l := by
        conv => rhs; rw [← List.map_id l]
        exact List.map_congr_left fun x hx => stx_val (hl x hx)
      rwa [e] at this
    refine ⟨rfl, d'.toList.map fun x : STx => x.1, hpl, ?_, ?_, ?_⟩
    · have hnd' : (d'.toList.map fun x : STx => x.1).Nodup := hpl.symm.nodup hnd
      rw [List.pairwise_iff_getElem]
      intro i j hi hj hij
      have hi' : i < d'.size := by simpa using hi
      have hj' : j < d'.size := by simpa using hj
      have h0 := hsd i j (Nat.zero_le _) hij (by omega)
      rw [lt_false, getElem!_pos d' i hi', getElem!_pos d' j hj'] at h0
      have hne : (d'.toList.map fun x : STx => x.1)[i] ≠ (d'.toList.map fun x : STx => x.1)[j] := by
        intro e
        have := (List.nodup_iff_pairwise_ne.1 hnd')
        rw [List.pairwise_iff_getElem] at this
        exact this i j hi hj hij e
      simp only [List.getElem_map, Array.getElem_toList] at hne ⊢
      rcases tlt_tri f d'[i].1 d'[j].1 with k | k | k
      · exact k
      · exact absurd k hne
      · exact absurd k h0
    · rw [sortWorld_val]
      have hlen' : (d'.toList.map fun x : STx => x.1).length = l.length := by simp [hds]
      have := ownsRow_sorted (n := nn) (os := os) (ss := l) (ts := d'.toList.map fun x : STx => x.1) hlen' hbase hg q1 q2 q3
      rw [hlen']
      have e : (d'.map fun x : STx => x.1) = (d'.toList.map fun x : STx => x.1).toArray := by
        apply Array.toList_inj.1
        simp
      rw [e]
      exact this
    · exact sort_grown d'
end PB
end Go.Proofs.Ytnahmiglogddaaa
namespace Go.Proofs.Ytnahmiglogddaaa
open Go.RowKit
attribute [local go_sem ↓] Go.wp_at_zero Go.wp_at_succ
set_option linter.unusedVariables false
set_option linter.unusedSimpArgs false
namespace PB
/-- Samples that dictionary.check lets pass. -/
structure SamOk (xs : List SItem) : Prop where
  few : xs.length ≤ 64
  short : ∀ x ∈ xs, x.d.length ≤ 1024
def samd (xs : List SItem) : List (List Nat) := xs.map SItem.d
theorem samd_take_succ (xs : List SItem) (k : Nat) (h : k < xs.length) : samd (xs.take (k + 1)) = samd (xs.take k) ++ [xs[k].d] := by
  unfold samd
  rw [List.take_succ_eq_append_getElem h, List.map_append, List.map_singleton]
theorem wins_length (s : List Nat) : (wins s).length = s.length - 7 := by simp [wins]
theorem wins_take_succ (s : List Nat) (j : Nat) (h : j + 8 ≤ s.length) : (wins s).take (j + 1) = (wins s).take j ++ [seg s j] := by
  rw [List.take_succ_eq_append_getElem (by rw [wins_length]; omega)]
  congr 2
  unfold wins
  rw [List.getElem_map, List.getElem_range]
theorem infos_string : (Try.prog.info? 9).map (fun i => (i.zero, i.size, i.bytes)) = some (some (.string ⟨#[]⟩), 1, 16) := by kernel_rfl
/-- What the map holds within a sample: the count over the samples before, and one where a text has come. -/
def cntw (S : List (List Nat)) (s : List Nat) (j : Nat) (t : Txt) : Nat := fr S t + if t ∈ (wins s).take j then 1 else 0
theorem cntw_zero (S : List (List Nat)) (s : List Nat) (t : Txt) : fr S t = cntw S s 0 t := by simp [cntw]
theorem cntw_end (S : List (List Nat)) (s : List Nat) (j : Nat) (hj : s.length < j + 8) (t : Txt) : cntw S s j t = fr (S ++ [s]) t := by
  unfold cntw
  rw [fr_snoc, List.take_of_length_le (by rw [wins_length]; omega)]
theorem cntw_old (S : List (List Nat)) (s : List Nat) (j : Nat) (h : j + 8 ≤ s.length) (hin : seg s j ∈ (wins s).take j) (t : Txt) : cntw S s j t = cntw S s (j + 1) t := by
  unfold cntw
  rw [wins_take_succ s j h]
  congr 1
  by_cases e : t ∈ (wins s).take j
  · rw [if_pos e, if_pos (List.mem_append_left _ e)]
  · rw [if_neg e, if_neg]
    intro h2
    rcases List.mem_append.1 h2 with h3 | h3
    · exact e h3
    · rw [List.mem_singleton] at h3; subst h3; exact e hin
theorem cntw_new (S : List (List Nat)) (s : List Nat) (j : Nat) (h : j + 8 ≤ s.length) (hin : ¬ seg s j ∈ (wins s).take j) (t : Txt) : tset (cntw S s j) (seg s j) (fr S (seg s j) + 1) t = cntw S s (j + 1) t := by
  unfold tset cntw
  rw [wins_take_succ s j h]
  by_cases e : t = seg s j
  · subst e
    rw [if_pos rfl, if_pos (List.mem_append_right _ (List.mem_singleton.2 rfl))]
  · rw [if_neg e]
    congr 1
    by_cases e2 : t ∈ (wins s).take j
    · rw [if_pos e2, if_pos (List.mem_append_left _ e2)]
    · rw [if_neg e2, if_neg]
      intro h2
      rcases List.mem_append.1 h2 with h3 | h3
      · exact e2 h3
      · exact e (List.mem_singleton.1 h3)
theorem seen_old (s : List Nat) (j : Nat) (h : j + 8 ≤ s.length) (hin : seg s j ∈ (wins s).take j) (t : Txt) : decide (t ∈ (wins s).take j) = decide (t ∈ (wins s).take (j + 1)) := by
  rw [wins_take_succ s j h, decide_eq_decide]
  constructor
  · intro k; exact List.mem_append_left _ k
  · intro k
    rcases List.mem_append.1 k with h3 | h3
    · exact h3
    · rw [List.mem_singleton] at h3; subst h3; exact hin
theorem seen_new (s : List Nat) (j : Nat) (h : j + 8 ≤ s.length) (t : Txt) : tset (fun t => decide (t ∈ (wins s).take j)) (seg s j) true t = decide (t ∈ (wins s).take (j + 1)) := by
  unfold tset
  rw [wins_take_succ s j h]
  by_cases e : t = seg s j
  · subst e
    rw [if_pos rfl]
    exact (decide_eq_true (List.mem_append_right _ (List.mem_singleton.2 rfl))).symm
  · rw [if_neg e, decide_eq_decide]
    constructor
    · intro k; exact List.mem_append_left _ k
    · intro k
      rcases List.mem_append.1 k with h3 | h3
      · exact h3
      · exact absurd (List.mem_singleton.1 h3) e
/-- What has been collected: texts that occur in two samples, no longer to come. -/
structure Coll (D : DataW Unit) (left : Lit → Bool) (f : Txt → Nat) (l : List Txt) : Prop where
  nodup : l.Nodup
  mem : ∀ x, x ∈ l ↔ (Go.Maps.has D (.string x) = true ∧ left (.string x) = false ∧ 2 ≤ f x)
theorem Coll.start (D : DataW Unit) (f : Txt → Nat) : Coll D (Go.Maps.has D) f [] :=
  ⟨List.nodup_nil, fun x => ⟨fun h => (by cases h), fun h => by rw [h.1] at h; exact absurd h.2.1 (by simp)⟩⟩
theorem left_step (left : Lit → Bool) (x y : Txt) : (left (.string y) && !(Lit.string y).sameKey (.string x)) = if y = x then false else left (.string y) := by
  by_cases e : y = x
  · subst e; simp [Lit.sameKey]
  · rw [if_neg e, Go.Maps.sameKey_ne (fun h => e (by injection h))]; simp
theorem Coll.step {D : DataW Unit} {left : Lit → Bool} {f : Txt → Nat} {l : List Txt} (h : Coll D left f l) {x : Txt} (hl : left (.string x) = true) (hh : Go.Maps.has D (.string x) = true) (h2 : 2 ≤ f x) :
    Coll D (fun z => left z && !z.sameKey (.string x)) f (l ++ [x]) := by
  have hx : x ∉ l := fun hm => by have := ((h.mem x).1 hm).2.1; rw [hl] at this; cases this
  refine ⟨List.nodup_append.2 ⟨h.nodup, by simp, fun a ha b hb => by rw [List.mem_singleton] at hb; subst hb; rintro rfl; exact hx ha⟩, fun y => ?_⟩
  rw [left_step, List.mem_append, List.mem_singleton, h.mem y]
  by_cases e : y = x
  · subst e; simp [hh, h2]
  · rw [if_neg e]; simp [e]
theorem Coll.pass {D : DataW Unit} {left : Lit → Bool} {f : Txt → Nat} {l : List Txt} (h : Coll D left f l) {x : Txt} (h2 : ¬ 2 ≤ f x) :
    Coll D (fun z => left z && !z.sameKey (.string x)) f l := by
  refine ⟨h.nodup, fun y => ?_⟩
  rw [left_step, h.mem y]
  by_cases e : y = x
  · subst e; simp [h2]
  · rw [if_neg e]
theorem own_size_le {w : World} {b n : Nat} {D : DataW Unit} {R : Value → Option (DataW Unit × List MemPlace)} {k : TypeId} (h : w.ownsMap Try.prog k R b n D) : Go.Maps.size D ≤ n := by
  obtain ⟨es, clock, hb, F, hs, rfl⟩ := h
  rw [Go.Maps.size_eq, length_sorted]
  simpa using hs
theorem one_ne_iter {w : World} {t : TypeId} {v : Value} {k : TypeId} {R : Value → Option (DataW Unit × List MemPlace)} {b r n cnt : Nat} {D : DataW Unit} {left : Lit → Bool} (h : One w r t v) (hr : w.ranges Try.prog k R b r n D left cnt) : False := by
  obtain ⟨_, _, _, _, _, _, _, _, _, hit, _⟩ := hr
  unfold One Blk at h
  rw [h] at hit
  cases hit
set_option maxRecDepth 100000 in
set_option maxHeartbeats 3200000 in
theorem segments_any {A : Option Addr} {n c : Nat} {xs : List SItem} {w : World} (h : RdSS w A n c xs) (hok : SamOk xs) :
    Calls Try.prog 33 #[.slice A n c] w fun e w' => ∃ A' c' l, e = .returned (.slice A' l.length c') ∧ Segs (samd xs) l ∧ w'.ownsRow w.heap.size 9 1 (.slice A' l.length c') l.length (l.map encStr) ∧ Below w.heap.size w w' := by
  have hmm := @run_makeMap Try.prog
  obtain ⟨i0, bi, bz0, bz1, bz2⟩ := info_parts byte_info
  obtain ⟨s0, si, sz0, sz1, sz2⟩ := info_parts infos_string
  have hn := h.1
  have hcap := h.2.1
  have hcm := h.2.2.1
  unfold maxLen at hcm
  obtain rfl := hn
  have hfew := hok.few
  have HOK := Lib.hid hok
  have BZ1 := Lib.hid bz1
  clear hok
  obtain ⟨FB, hFB⟩ : ∃ FB, FB = w.heap.size + 1 := ⟨_, rfl⟩
  have M1 := (FM.made w).alloc (.cells #[.map (some w.heap.size)] 64)
  have X1 := One.new1 w (.map #[] 0) 64 (.map (some w.heap.size))
  have y1 := ((Below.refl w.heap.size w).alloc (Nat.le_refl _) (.map #[] 0)).alloc (by simp) (.cells #[.map (some w.heap.size)] 64)
  go_enter Try.func33, Try.ntmps33
  go_upto_region 2 with (fail)
  rw [← hFB] at X1 ⊢
  generalize ((w.alloc (.map #[] 0)).alloc (.cells #[.map (some w.heap.size)] 64)) = w1 at M1 X1 y1 ⊢
  have HM1 := Lib.hid M1
  have HX1 := Lib.hid X1
  have HY1 := Lib.hid y1
  have HFB := Lib.hid hFB
  clear M1 X1 y1 hFB
  go_wp2_with fail
  go_loopw [15] (fun iv wr => ∃ k : Nat, k ≤ xs.length ∧ iv = .int .i64 (k : Nat) ∧ FM wr w.heap.size (1100 * k) (fr (samd (xs.take k))) ∧ One wr FB 64 (.map (some w.heap.size)) ∧ Below w.heap.size w wr) (fun iv _ => xs.length - (intOf iv).toNat)
  case atStart => exact ⟨0, Nat.zero_le _, rfl, HM1.out, HX1.out, HY1.out⟩
  case round =>
    obtain ⟨k, hk, rfl, M, X, yr⟩ := hrel
    have HM := Lib.hid M
    have HX := Lib.hid X
    have HY := Lib.hid yr
    clear M X yr HM1 HX1 HY1
    by_cases hlt : k < xs.length
    · obtain ⟨b, off, rfl, hb, q1, R⟩ := (h.on HY.out).at k hlt
      obtain ⟨x, hx⟩ : ∃ x, x = xs[k] := ⟨_, rfl⟩
      rw [← hx] at q1 R
      have hsh : x.d.length ≤ 1024 := HOK.out.short x (by rw [hx]; exact List.getElem_mem hlt)
      have hxn : x.d.length = x.n := by have := R.len; rwa [bcells_length] at this
      have hxc := Reads.cap R
      have hxm := Reads.capMax R
      unfold maxLen at hxm
      have HSD := Lib.hid (samd_take_succ xs k hlt)
      rw [← hx] at HSD
      have HRX := Lib.hid (fun (W : World) (hW : Below w.heap.size w W) => by
        obtain ⟨_, _, _, _, _, R'⟩ := (h.on hW).at k hlt
        rw [← hx] at R'
        exact R')
      obtain ⟨xA, xn, xc, d⟩ := x
      dsimp only at q1 R hsh hxn hxc hxm HSD HRX
      subst hxn
      obtain ⟨S, hS⟩ : ∃ S, S = samd (xs.take k) := ⟨_, rfl⟩
      have hSl : S.length ≤ 64 := by rw [hS]; unfold samd; rw [List.length_map, List.length_take]; omega
      have HFL := Lib.hid (fun t => Nat.le_trans (fr_le S t) hSl)
      rw [← hS] at HM HSD
      clear hx hS R hSl
      have SM1 := SM.made wr
      have yr := HY.out
      have Y2 := yr.alloc yr.size (.map #[] 0)
      have X2 := HX.out.alloc (.map #[] 0)
      have M2 := HM.out.alloc (.map #[] 0)
      have hM2 := HM.out.lt
      have hX2 := HX.out.lt
      go_upto_region 6 with (fail)
      obtain ⟨sb, hsb⟩ : ∃ sb, sb = wr.heap.size := ⟨_, rfl⟩
      rw [← hsb] at SM1 hM2 hX2 ⊢
      have hbs : w.heap.size ≤ sb := by rw [hsb]; exact yr.size
      generalize wr.alloc (.map #[] 0) = w2 at SM1 Y2 X2 M2 ⊢
      have HS2 := Lib.hid SM1
      have HY2 := Lib.hid Y2
      have HX2 := Lib.hid X2
      have HM2 := Lib.hid M2
      clear SM1 Y2 X2 M2 yr hsb HM HX q1 hb
      go_wp2_with fail
      go_loopw [7] (fun jv wr => ∃ j : Nat, j ≤ d.length - 7 ∧ jv = .int .i64 (j : Nat) ∧ SM wr sb j (fun t => decide (t ∈ (wins d).take j)) ∧ FM wr w.heap.size (1100 * k + j) (cntw S d j) ∧ One wr FB 64 (.map (some w.heap.size)) ∧ Below w.heap.size w wr) (fun jv _ => d.length + 1 - (intOf jv).toNat)
      case atStart => exact ⟨0, Nat.zero_le _, rfl, HS2.out.fn (fun t => by simp), HM2.out.fn (cntw_zero S d), HX2.out, HY2.out⟩
      case round =>
        obtain ⟨j, hj, rfl, Sj, Mj, Xj, yj⟩ := hrel
        have HSj := Lib.hid Sj
        have HMj := Lib.hid Mj
        have HYj := Lib.hid yj
        clear HS2 HY2 HX2 HM2 Sj Mj yj
        by_cases hj8 : j + 8 ≤ d.length
        · have hrd0 := HRX.out _ HYj.out
          obtain ⟨A8, hrun, hrd⟩ := Rd.mid (P := Try.prog) 23 5 i0 Try.underlying23 bi BZ1.out hrd0 j (j + 8) (by omega) hj8
          rw [show j + 8 - j = 8 by omega] at hrun hrd
          rw [bcells_drop, bcells_take] at hrd
          have hconv := run_to_utx hrd
          obtain ⟨X, hX⟩ : ∃ X, X = seg d j := ⟨_, rfl⟩
          have hX8 : X.length = 8 := by rw [hX]; exact seg_length hj8
          have hconv2 : (convert 23 9 (.slice A8 8 (xc - j))).run Try.prog wr = .ok (.string ⟨X.toArray⟩) wr := by rw [hX]; exact hconv
          have hrun2 : ∀ W, (Instr.slice 23 (.slice xA d.length xc) (some (.int .i64 (j : Nat))) (some (.int .i64 ((j : Int) + 8))) none).run Try.prog W = .ok (.slice A8 8 (xc - j)) W := hrun
          have hlook := HSj.out.look (x := X) (by omega)
          have hxc0 := Xj.c0
          clear hrun hrd hconv hrd0
          by_cases hin : X ∈ (wins d).take j
          · have hlook2 : (Instr.lookup 65 (.map (some sb)) (.string ⟨X.toArray⟩) false).run Try.prog wr = .ok (.bool true) wr := by
              have := hlook
              rw [decide_eq_true hin] at this
              exact this
            have HIN := Lib.hid hin
            have HXX := Lib.hid hX
            clear hlook hin hX
            go_wp2_with fail
            go_roundw
            case rel => exact ⟨j + 1, by omega, by go_num, (HSj.out.mono (Nat.le_succ j)).fn (seen_old d j hj8 (by rw [← HXX.out]; exact HIN.out)), (HMj.out.mono (Nat.le_succ _)).fn (cntw_old S d j hj8 (by rw [← HXX.out]; exact HIN.out)), Xj, HYj.out⟩
            case measure => simp [intOf] <;> omega
          · have hlook2 : (Instr.lookup 65 (.map (some sb)) (.string ⟨X.toArray⟩) false).run Try.prog wr = .ok (.bool false) wr := by
              have := hlook
              rw [decide_eq_false hin] at this
              exact this
            obtain ⟨w3, hup, S3, g3⟩ := HSj.out.store (x := X) (by omega) (by unfold maxLen; omega) true
            have X3 := One.grown Xj g3 (by simp; omega)
            have M3 := HMj.out.kept g3 (by intro e; have := Option.some.inj e; omega)
            have Y3 := HYj.out.grown g3 HYj.out.size (fun q hq => by cases hq; exact hbs)
            have hl3 := M3.look (x := X) (by omega)
            have hcn : cntw S d j X = fr S X := by unfold cntw; rw [if_neg hin]; rfl
            obtain ⟨p, hp⟩ : ∃ p, p = fr S X := ⟨_, rfl⟩
            have hpb : p ≤ 64 := by rw [hp]; exact HFL.out X
            rw [hcn, ← hp] at hl3
            obtain ⟨w4, hup4, M4, g4⟩ := M3.store (x := X) (by omega) (by unfold maxLen; omega) (p + 1)
            have X4 := Lib.hid (One.grown X3 g4 (by have := HFB.out; simp; omega))
            have S4 := Lib.hid (S3.kept g4 (by simp; omega))
            have Y4 := Lib.hid (Y3.grown g4 Y3.size (fun q hq => by cases hq; exact Nat.le_refl _))
            have hc3 := X3.c0
            have HM4 := Lib.hid M4
            have HIN := Lib.hid hin
            have HXX := Lib.hid hX
            have HP := Lib.hid hp
            have hup' : (Instr.mapUpdate 65 (.map (some sb)) (.string ⟨X.toArray⟩) (.bool true)).run Try.prog wr = .ok () w3 := hup
            have hup4' : (Instr.mapUpdate 64 (.map (some w.heap.size)) (.string ⟨X.toArray⟩) (.int .i64 ((p : Int) + 1))).run Try.prog w3 = .ok () w4 := hup4
            have hl3' : (Instr.lookup 64 (.map (some w.heap.size)) (.string ⟨X.toArray⟩) false).run Try.prog w3 = .ok (.int .i64 (p : Nat)) w3 := hl3
            clear hlook hin hX hup hup4 hl3 hcn hp M3 S3 g3 g4 M4 Y3
            go_wp2_with fail
            go_roundw
            case rel => exact ⟨j + 1, by omega, by go_num, S4.out.fn (fun t => by rw [HXX.out]; exact seen_new d j hj8 t), HM4.out.fn (fun t => by rw [HP.out, HXX.out]; exact cntw_new S d j hj8 (by rw [← HXX.out]; exact HIN.out) t), X4.out, Y4.out⟩
            case measure => simp [intOf] <;> omega
        · have HXj := Lib.hid Xj
          clear Xj
          go_wp2_with fail
          go_roundw
          case rel => exact ⟨k + 1, by omega, by go_num, (HMj.out.mono (by omega)).fn (fun t => by rw [HSD.out]; exact cntw_end S d j (by omega) t), HXj.out, HYj.out⟩
          case measure => simp [intOf] <;> omega
    · obtain rfl : k = xs.length := by omega
      have hM := HM.out
      rw [List.take_of_length_le (Nat.le_refl _)] at hM
      obtain ⟨f, hf⟩ : ∃ f, f = fr (samd xs) := ⟨_, rfl⟩
      rw [← hf] at hM
      have hfb : ∀ x, f x ≤ 64 := fun x => by rw [hf]; refine Nat.le_trans (fr_le _ x) ?_; unfold samd; rw [List.length_map]; exact hfew
      have hf8 : ∀ x, 0 < f x → x.length = 8 := fun x hx => fr_eight (S := samd xs) (by rw [← hf]; exact hx)
      obtain ⟨D, hown, hat, hkeys⟩ := hM
      have hDs := own_size_le hown
      have HF := Lib.hid hf
      have HFB2 := Lib.hid hfb
      have HF8 := Lib.hid hf8
      have HAT := Lib.hid hat
      have HKY := Lib.hid hkeys
      have Xr := HX.out
      have hcX := Xr.c0
      have hXl := Xr.lt
      have hwl := HY.out.size
      clear hf hfb hf8 hat hkeys HM
      go_wp2_with (at_range; refine wpList_range_own _ rfl _ 64 rfl 9 3 str_law Try.underlying64 _ w.heap.size _ _ rfl hown ?_; intro w0 hrg0 hg0 hs0)
      go_frame
      have X0 := One.grown Xr hg0 (by simp)
      have Y0 := HY.out.grown hg0 hwl (fun q hq => by cases hq)
      obtain ⟨RB, hRB⟩ : ∃ RB, RB = wr.heap.size := ⟨_, rfl⟩
      rw [← hRB] at hrg0 ⊢
      have HX0 := Lib.hid X0
      have HY0 := Lib.hid Y0
      have HRG0 := Lib.hid hrg0
      have hRw : w.heap.size ≤ RB := by rw [hRB]; exact hwl
      have hFBR : FB < RB := by rw [hRB]; exact hXl
      have hbR : w.heap.size < RB := by have := HFB.out; omega
      clear X0 Y0 hrg0 hg0 hs0 Xr hcX hXl hwl HX HY hown hRB
      go_loopw [9] (fun v wr => ∃ (left : Lit → Bool) (cnt : Nat) (l : List Txt), wr.ranges Try.prog 9 intR w.heap.size RB (1100 * xs.length) D left cnt ∧ l.length + cnt ≤ Go.Maps.size D ∧ wr.ownsRow (RB + 1) 9 1 v l.length (l.map encStr) ∧ Coll D left f l ∧ One wr FB 64 (.map (some w.heap.size)) ∧ Below w.heap.size w wr) (fun _ wr => wr.rangeLeft w.heap.size RB)
      case atStart => exact ⟨_, _, [], HRG0.out, by simp, World.ownsRow_nil _ _ _ _, Coll.start D f, HX0.out, HY0.out⟩
      case round =>
        obtain ⟨left, cnt, l, hrg, hcs, hrow, hC, Xr, yr⟩ := hrel
        have HRG := Lib.hid hrg
        have HROW := Lib.hid hrow
        have HC := Lib.hid hC
        have HX := Lib.hid Xr
        have HY := Lib.hid yr
        clear hrg hrow hC Xr yr HX0 HY0 HRG0
        go_wp2_with (at_next; refine wpList_next_ranges _ rfl _ rfl 9 str_law intR encStr (Value.int .i64) (fun key kl hk => by obtain ⟨x, hx, _⟩ := Maps.keyOf_str Try.underlying9 hk; exact ⟨x, hx⟩) (fun v y hv => by obtain ⟨c, rfl, _⟩ := intR_inv hv; exact ⟨c, rfl⟩) w.heap.size RB _ _ _ _ rfl HRG.out ?_ ?_)
        · intro hc0 hl0
          have hlx : ∀ x ∈ l, x.length ≤ 100 := fun x hx => HKY.out x ((HC.out.mem x).1 hx).1
          have hll : l.length ≤ 70400 := by omega
          have HSO := Lib.hid (sortsegs_any HROW.out HX.out ⟨D, HRG.out.owns, HAT.out, HKY.out⟩ (fun x => Nat.le_trans (HFB2.out x) (by decide)) (by omega) (by omega) hlx HC.out.nodup (by omega))
          have HL0 := Lib.hid hl0
          have HLX := Lib.hid hlx
          clear hl0 hlx hc0
          go_wp2_with fail
          refine HSO.out.mono ?_
          rintro e w5 ⟨rfl, l', hpl, hpw, hr5, hg5⟩
          have Y5 := below_grown HY.out HROW.out hg5 (by omega) HY.out.size
          have HPL := Lib.hid hpl
          have HPW := Lib.hid hpw
          have HR5 := Lib.hid hr5
          have HY5 := Lib.hid Y5
          clear hpl hpw hr5 hg5 Y5 HSO
          go_wp2
          go_ret
          have hseg : Segs (samd xs) l' := by
            refine ⟨by rw [← HF.out]; exact HPW.out, fun x => ?_⟩
            rw [HPL.out.mem_iff, HC.out.mem x, ← HF.out]
            constructor
            · exact fun h => h.2.2
            · intro h2
              refine ⟨?_, HL0.out _, h2⟩
              by_cases hh : Go.Maps.has D (.string x) = true
              · exact hh
              · have e := Go.Maps.atKey_of_not_has (by simpa using hh) (.lit (.int .i64 0))
                rw [HAT.out x (by have := HF8.out x (by omega); omega)] at e
                simp at e
                omega
          rcases HR5.out.2 with ⟨hv, hn0⟩ | ⟨g, cap, cur, hv, _⟩
          · obtain rfl : l' = [] := List.eq_nil_of_length_eq_zero hn0
            exact ⟨none, 0, [], congrArg Ending.returned hv, hseg, World.ownsRow_nil _ _ _ _, HY5.out⟩
          · exact ⟨some ⟨g, 0, none⟩, cap, l', congrArg Ending.returned hv, hseg, own_less (by rw [← hv]; exact HR5.out) (by omega), HY5.out⟩
        · intro x c kl yd yp w2 cnt2 hkey hlk hv hat2 hrg2 hlt2 hg2 hs2 hen
          obtain ⟨x', ex, rfl, -⟩ := Maps.keyOf_str Try.underlying9 hkey
          obtain rfl : x = x' := encStr_inj ex
          have hhas := Go.Maps.has_true_of_atKey hat2
          have hxl := HKY.out x hhas
          have hce : c = ((f x : Nat) : Int) := by
            have e1 := hat2 (.lit (.int .i64 0))
            rw [HAT.out x hxl] at e1
            cases hv
            simpa using e1.symm
          subst hce
          have hfx := HFB2.out x
          obtain ⟨p, hp⟩ : ∃ p, p = f x := ⟨_, rfl⟩
          rw [← hp] at hen hfx
          have HP := Lib.hid hp
          have HLK := Lib.hid hlk
          have HHAS := Lib.hid hhas
          have row2 := HROW.out.kept hg2 (Or.inr (row_ne_iter HROW.out HRG.out).symm)
          have X2 := One.grown HX.out hg2 (by intro e; have e2 := Option.some.inj e; have := HX.out; rw [e2] at this; exact one_ne_iter this HRG.out)
          have Y2 := HY.out.grown hg2 HY.out.size (fun q hq => by cases hq; exact hRw)
          have HRG2 := Lib.hid hrg2
          have hs2' : wr.heap.size ≤ w2.heap.size := by omega
          have Y2s := Y2.size
          have hRB2 : RB + 1 ≤ w2.heap.size := hrg2.lt
          have HME := Lib.hid (show w2.rangeLeft w.heap.size RB < wr.rangeLeft w.heap.size RB by rw [hrg2.left_eq, HRG.out.left_eq]; exact hlt2)
          have HX2 := Lib.hid X2
          have HY2 := Lib.hid Y2
          have HROW2 := Lib.hid row2
          have HG2 := Lib.hid hg2
          unfold encStr at hen
          clear hp hlk hhas row2 X2 Y2 hrg2 hs2 hg2 hkey hv hat2 ex
          by_cases h2 : 2 ≤ p
          · have hd : decide ((2 : Int) ≤ (p : Int)) = true := by simp; omega
            go_wp2_with (at_builtin; refine wpList_app1 _ rfl _ _ _ rfl (RB + 1) 9 s0 _ 16 Try.underlying57 si sz0 sz1 sz2 rfl _ _ _ rfl HROW2.out (.string ⟨x.toArray⟩) rfl rfl ?g1 ?g2 hRB2 ?_)
            case g1 => unfold maxLen; omega
            case g2 => omega
            intro A4 c4 w4 o4 g4
            have Y4 := below_grown HY2.out HROW2.out g4 (by omega) Y2s
            have hrg4 := HRG2.out.kept g4 (row_ne_low HROW2.out (by omega)) (row_ne_low HROW2.out (by omega))
            have X4 := One.grown HX2.out g4 (row_ne_low HROW2.out (by omega))
            have HRG4 := Lib.hid hrg4
            have HX4 := Lib.hid X4
            have HY4 := Lib.hid Y4
            have HO4 := Lib.hid o4
            have HME4 := Lib.hid (show w4.rangeLeft w.heap.size RB < wr.rangeLeft w.heap.size RB by rw [hrg4.left_eq, HRG.out.left_eq]; exact hlt2)
            clear hrg4 X4 Y4 o4 g4
            go_wp2_with fail
            go_roundw
            case rel => exact ⟨_, cnt2, l ++ [x], HRG4.out, by rw [List.length_append, List.length_singleton]; omega, by rw [List.length_append, List.length_singleton, List.map_append]; exact HO4.out, HC.out.step HLK.out HHAS.out (by rw [← HP.out]; exact h2), HX4.out, HY4.out⟩
            case measure => exact HME4.out
          · have hd : decide ((2 : Int) ≤ (p : Int)) = false := by simp; omega
            go_wp2_with fail
            go_roundw
            case rel => exact ⟨_, cnt2, l, HRG2.out, by omega, HROW2.out, HC.out.pass (by rw [← HP.out]; exact h2), HX2.out, HY2.out⟩
            case measure => exact HME.out
end PB
end Go.Proofs.Ytnahmiglogddaaa
namespace Go.Proofs.Ytnahmiglogddaaa
open Go.RowKit
attribute [local go_sem ↓] Go.wp_at_zero Go.wp_at_succ
set_option linter.unusedVariables false
set_option linter.unusedSimpArgs false
namespace PB
theorem utx_inj {a b : List Nat} (ha : ByteL a) (hb : ByteL b) (h : utx a = utx b) : a = b := by rw [← byt_utx ha, ← byt_utx hb, h]
theorem bequal_any {A B : Option Addr} {n c m d : Nat} {a b : List Nat} {w : World} (h : Rd w A n c (bcells a)) (h2 : Rd w B m d (bcells b)) (ha : ByteL a) (hb : ByteL b) (r : Bool) (hr : r = decide (a = b)) :
    Calls Try.prog 51 #[.slice A n c, .slice B m d] w fun e w' => e = .returned (.bool r) ∧ w' = w := by
  have hcv := run_to_utx h
  have hcv2 := run_to_utx h2
  have HR := Lib.hid (show (utx a == utx b) = r by
    rw [hr, Bool.eq_iff_iff]
    simp only [beq_iff_eq, decide_eq_true_eq]
    exact ⟨utx_inj ha hb, fun e => by rw [e]⟩)
  unfold encStr at hcv hcv2
  clear hr
  go_enter Try.func51, Try.ntmps51
  go_wp2
  go_ret
  exact ⟨ret_bool HR.out, rfl⟩
/-- A string made a []byte: new bytes. -/
theorem str_to_bytes (w : World) (x : Txt) (hx : x.length ≤ 1000) : ∃ A c w2, (convert 9 23 (encStr x)).run Try.prog w = .ok (.slice A x.length c) w2 ∧ Rd w2 A x.length c (bcells (byt x)) ∧ Below w.heap.size w w2 := by
  have hrun := run_bytes_of_string (P := Try.prog) w 9 23 5 ⟨x.toArray⟩ Try.underlying9 Try.underlying23 Try.underlying5
  have hs : (⟨x.toArray⟩ : ByteArray).size = x.length := by simp [ByteArray.size]
  rw [hs] at hrun
  refine ⟨_, _, _, hrun, ?_, ?_⟩
  · have hge := grownCap_ge w x.length 0 5
    have hle := grownCap_le_maxLen w x.length 0 5 (by unfold maxLen; omega)
    refine ⟨by rw [bcells_length, byt_length], hge, hle, fun _ => ⟨w.heap.size, 0, rfl, by simp, fun i u hu => ?_⟩⟩
    have hi : i < x.length := by
      rcases Nat.lt_or_ge i x.length with h | h
      · exact h
      · rw [List.getElem?_eq_none (by rw [bcells_length, byt_length]; exact h)] at hu; cases hu
    generalize grownCap w x.length 0 5 = G at *
    have hcell : (w.drew.alloc (.cells (bytesRow ⟨x.toArray⟩ G) 5 ((bytesRow ⟨x.toArray⟩ G).size, (bytesRow ⟨x.toArray⟩ G).size + 1))).cell? ⟨w.heap.size, 0 + i, none⟩ = (bytesRow ⟨x.toArray⟩ G)[0 + i]? := by
      exact cell_of_row _ _ _ _ 5 _ (heap_alloc_new w.drew _)
    rw [hcell, Nat.zero_add]
    unfold bytesRow
    rw [Array.getElem?_append_left (by simp; exact hi)]
    rw [← hu]
    unfold bcells byt
    simp [hi]
  · exact (belowD (Below.refl _ _)).alloc (Nat.le_refl _) _
theorem overlap_any {A B : Option Addr} {n c m d : Nat} {a b : List Nat} {w : World} (h : Rd w A n c (bcells a)) (h2 : Rd w B m d (bcells b)) (ha : ByteL a) (hb : ByteL b) :
    Calls Try.prog 46 #[.slice A n c, .slice B m d] w fun e w' => e = .returned (.int .i64 (ovl a b : Nat)) ∧ ∃ q, w' = w.drewN q := by
  obtain ⟨j0, bi, bz0, bz1, bz2⟩ := info_parts byte_info
  have hn := h.len
  have hm := h2.len
  rw [bcells_length] at hn hm
  subst hn hm
  have hc := Reads.cap h
  have hc2 := Reads.cap h2
  have hcm := Reads.capMax h
  have hcm2 := Reads.capMax h2
  unfold maxLen at hcm hcm2
  have HA := Lib.hid ha
  have HB := Lib.hid hb
  have BZ := Lib.hid bz1
  obtain ⟨M, hM⟩ : ∃ M, M = min a.length b.length := ⟨_, rfl⟩
  have hMa : M ≤ a.length := by omega
  have hMb : M ≤ b.length := by omega
  have HV := Lib.hid (show ovl a b = ovf a b M by rw [hM]; rfl)
  have HMI := Lib.hid (show min (a.length : Int) (b.length : Int) = ((M : Nat) : Int) by omega)
  clear ha hb hM
  go_enter Try.func46, Try.ntmps46
  go_upto_region 2 with (fail)
  rw [HMI.out]
  go_loopw [5] (fun nv wr => ∃ k q : Nat, k ≤ M ∧ nv = .int .i64 (k : Nat) ∧ ovf a b M = ovf a b k ∧ wr = w.drewN q) (fun nv _ => (intOf nv).toNat)
  case atStart => exact ⟨M, 0, Nat.le_refl _, rfl, rfl, rfl⟩
  case round =>
    obtain ⟨k, q, hk, rfl, hov, rfl⟩ := hrel
    have HOV := Lib.hid hov
    clear hov
    rcases Nat.eq_zero_or_pos k with rfl | hpos
    · go_wp2
      go_ret
      exact ⟨by rw [HV.out, HOV.out]; rfl, q, rfl⟩
    · obtain ⟨k', hk'⟩ : ∃ k', k = k' + 1 := ⟨k - 1, by omega⟩
      obtain ⟨F, hF⟩ : ∃ F, F = a.length - k := ⟨_, rfl⟩
      have hsub : (a.length : Int) - (k : Int) = (F : Int) := by omega
      have hwF : IntKind.i64.wrap (F : Int) = (F : Int) := IntWalk.i64_in _ (by omega)
      obtain ⟨A1, hrun1, hr1⟩ := Rd.tail (P := Try.prog) (A := A) (c := c) 23 5 j0 Try.underlying23 bi BZ.out hc F (by omega)
      obtain ⟨B1, hrun2, hr2⟩ := Rd.first (P := Try.prog) 23 5 j0 Try.underlying23 bi BZ.out h2 k (by omega)
      have hr3 := hr1 w _ h
      rw [bcells_drop] at hr3
      rw [bcells_take] at hr2
      obtain ⟨W, hW⟩ : ∃ W, W = w.drewN q := ⟨_, rfl⟩
      have HR2 := Lib.hid (show Rd W B1 k d (bcells (b.take k)) by rw [hW]; exact hr2)
      have HR3 := Lib.hid (show Rd W A1 (a.length - F) (c - F) (bcells (a.drop F)) by rw [hW]; exact hr3)
      rw [← hW]
      have HW := Lib.hid hW
      have HF := Lib.hid hF
      have HK := Lib.hid hk'
      have hkI : (0 : Int) < (k : Int) := by omega
      have hk1 : (0 : Int) ≤ (k : Int) := by omega
      have hk2 : (k : Int) ≤ (b.length : Int) := by omega
      clear hr1 hr2 hr3 hF hk' hpos hW
      by_cases heq : a.drop F = b.take k
      · have HEQ := Lib.hid (fun W (h1 : Rd W A1 (a.length - F) (c - F) (bcells (a.drop F))) (h2 : Rd W B1 k d (bcells (b.take k))) => bequal_any h1 h2 (HA.out.drop F) (HB.out.take k) true (decide_eq_true heq).symm)
        have HE := Lib.hid heq
        clear heq
        go_upto_region 4 with (fail)
        go_quiet ((go_at_call 51; exact Calls.quiet_of_same (HEQ.out _ (HR3.out.drewN _) (HR2.out.drewN _))))
        go_wp2
        go_ret
        refine ⟨?_, q + nq, by rw [HW.out]; exact World.drewN_drewN _ _ _⟩
        rw [HV.out, HOV.out, HK.out]
        unfold ovf
        rw [if_pos (by rw [← HK.out, ← HF.out]; exact HE.out)]
        rfl
      · have HEQ := Lib.hid (fun W (h1 : Rd W A1 (a.length - F) (c - F) (bcells (a.drop F))) (h2 : Rd W B1 k d (bcells (b.take k))) => bequal_any h1 h2 (HA.out.drop F) (HB.out.take k) false (decide_eq_false heq).symm)
        have HE := Lib.hid heq
        clear heq
        go_upto_region 4 with (fail)
        go_quiet ((go_at_call 51; exact Calls.quiet_of_same (HEQ.out _ (HR3.out.drewN _) (HR2.out.drewN _))))
        go_wp2_with fail
        refine ⟨⟨k', q + nq, by have := HK.out; omega, congrArg (Value.int .i64) (by have := HK.out; omega), ?_, by rw [HW.out]; exact World.drewN_drewN _ _ _⟩, by have := HK.out; simp [intOf]; omega⟩
        rw [HOV.out, HK.out]
        conv => lhs; unfold ovf
        rw [if_neg (by rw [← HK.out, ← HF.out]; exact HE.out)]
theorem belowDN {B : Nat} {a w : World} (h : Below B a w) (q : Nat) : Below B a (w.drewN q) := ⟨h.os, h.tape, h.output, h.size, h.block⟩
set_option maxHeartbeats 800000 in
theorem join_any {A B : Option Addr} {n c m d : Nat} {dict s : List Nat} {w : World} (h : Rd w A n c (bcells dict)) (h2 : Rd w B m d (bcells s)) (ha : ByteL dict) (hb : ByteL s) (hl : n ≤ 100000) (hl2 : m ≤ 100000) :
    Calls Try.prog 35 #[.slice A n c, .slice B m d] w fun e w' => ∃ A' c', e = .returned (.slice A' (joind dict s).length c') ∧ w'.ownsRow w.heap.size 5 1 (.slice A' (joind dict s).length c') (joind dict s).length (bcells (joind dict s)) ∧ Below w.heap.size w w' := by
  obtain ⟨j0, bi, bz0, bz1, bz2⟩ := info_parts byte_info
  have hn := h.len
  have hm := h2.len
  rw [bcells_length] at hn hm
  subst hn hm
  have hc := Reads.cap h
  have hc2 := Reads.cap h2
  have hcm := Reads.capMax h
  have hcm2 := Reads.capMax h2
  unfold maxLen at hcm hcm2
  have BZ := Lib.hid bz1
  have HO1 := Lib.hid (overlap_any h2 h hb ha)
  have HO2 := Lib.hid (fun q => overlap_any (w := w.drewN q) (h.drewN q) (h2.drewN q) ha hb)
  obtain ⟨f1, f2⟩ := ovl_le s dict
  obtain ⟨g1, g2⟩ := ovl_le dict s
  obtain ⟨J, hJ⟩ : ∃ J, J = joind dict s := ⟨_, rfl⟩
  have hJ2 : J = if ovl s dict < ovl dict s then dict ++ s.drop (ovl dict s) else s.take (s.length - ovl s dict) ++ dict := hJ
  rw [← hJ]
  obtain ⟨F, hF⟩ : ∃ F, F = ovl s dict := ⟨_, rfl⟩
  obtain ⟨G, hG⟩ : ∃ G, G = ovl dict s := ⟨_, rfl⟩
  rw [← hF] at f1 f2 hJ2 HO1
  rw [← hG] at g1 g2 hJ2 HO2
  have HJ := Lib.hid hJ2
  clear hF hG hJ hJ2 ha hb
  go_enter Try.func35, Try.ntmps35
  go_wp2_with fail
  refine HO1.out.mono ?_
  rintro e w1 ⟨rfl, q1, rfl⟩
  go_wp2_with fail
  refine (HO2.out q1).mono ?_
  rintro e w2 ⟨rfl, q2, rfl⟩
  have R1 := (h.drewN q1).drewN q2
  have R2 := (h2.drewN q1).drewN q2
  have Y2 := belowDN (belowDN (Below.refl w.heap.size w) q1) q2
  obtain ⟨W, hW⟩ : ∃ W, W = (w.drewN q1).drewN q2 := ⟨_, rfl⟩
  have hW2 : w.drewN (q1 + q2) = W := by rw [hW, World.drewN_drewN]
  rw [← hW] at R1 R2 Y2 ⊢
  have HR1 := Lib.hid R1
  have HR2 := Lib.hid R2
  have HY2 := Lib.hid Y2
  clear R1 R2 Y2 hW hW2
  by_cases hlt : F < G
  · have hJe := HJ.out
    rw [if_pos hlt] at hJe
    obtain ⟨A1, hrun1, hr1⟩ := Rd.tail (P := Try.prog) (A := B) (c := d) 23 5 j0 Try.underlying23 bi BZ.out hc2 G (by omega)
    have hr3 := hr1 W _ HR2.out
    rw [bcells_drop] at hr3
    have HC := Lib.hid (concat_two 23 HR1.out hr3 (by omega) W.heap.size rfl)
    have hJl : dict.length + (s.length - G) = J.length := by rw [hJe, List.length_append, List.length_drop]
    rw [← hJe, hJl] at HC
    clear hr1 hr3 hJe hJl
    go_wp2_with fail
    refine HC.out.mono ?_
    rintro e w5 ⟨A5, c5, rfl, o5, y5⟩
    have HR5 := Lib.hid (own_less o5 HY2.out.size)
    have HY5 := Lib.hid (HY2.out.trans (y5.mono HY2.out.size))
    clear o5 y5
    go_wp2
    go_ret
    exact ⟨A5, c5, rfl, HR5.out, HY5.out⟩
  · have hJe := HJ.out
    rw [if_neg hlt] at hJe
    obtain ⟨T, hT⟩ : ∃ T, T = s.length - F := ⟨_, rfl⟩
    have hsub : (s.length : Int) - (F : Int) = (T : Int) := by omega
    have hwT : IntKind.i64.wrap (T : Int) = (T : Int) := IntWalk.i64_in _ (by omega)
    obtain ⟨A1, hrun1, hr1⟩ := Rd.first (P := Try.prog) 23 5 j0 Try.underlying23 bi BZ.out HR2.out T (by omega)
    rw [bcells_take] at hr1
    have HC := Lib.hid (concat_two 23 hr1 HR1.out (by omega) W.heap.size rfl)
    rw [← hT] at hJe
    have hJl : T + dict.length = J.length := by rw [hJe, List.length_append, List.length_take]; omega
    rw [← hJe, hJl] at HC
    clear hr1 hJe hJl hT
    go_wp2_with fail
    refine HC.out.mono ?_
    rintro e w5 ⟨A5, c5, rfl, o5, y5⟩
    have HR5 := Lib.hid (own_less o5 HY2.out.size)
    have HY5 := Lib.hid (HY2.out.trans (y5.mono HY2.out.size))
    clear o5 y5
    go_wp2
    go_ret
    exact ⟨A5, c5, rfl, HR5.out, HY5.out⟩
/-! Contains. -/
theorem index_iff : ∀ (t s : List UInt8), 0 ≤ Lib.index t s ↔ s <:+: t
  | [], s => by
    unfold Lib.index
    cases s with
    | nil => simp
    | cons a s => simp
  | b :: t, s => by
    have ih := index_iff t s
    have hge := Lib.index_ge t s
    unfold Lib.index
    by_cases hp : s.isPrefixOf (b :: t) = true
    · rw [if_pos hp]
      simp only [Int.le_refl, true_iff]
      exact (List.isPrefixOf_iff_prefix.1 hp).isInfix
    · rw [if_neg hp, List.infix_cons_iff, ← ih]
      have hp2 : ¬ s <+: b :: t := fun h => hp (List.isPrefixOf_iff_prefix.2 h)
      by_cases he : Lib.index t s = -1
      · rw [if_pos (by simpa using he)]
        simp [hp2, he]
      · rw [if_neg (by simpa using he)]
        constructor
        · intro h; right; omega
        · rintro (h | h)
          · exact absurd h hp2
          · omega
theorem infix_utx {a b : List Nat} (ha : ByteL a) (hb : ByteL b) : utx a <:+: utx b ↔ a <:+: b := by
  constructor
  · rintro ⟨p, q, e⟩
    refine ⟨byt p, byt q, ?_⟩
    have := congrArg byt e
    rw [byt_utx hb] at this
    rw [← this]
    unfold byt
    rw [List.map_append, List.map_append]
    congr 2
    exact (byt_utx ha).symm
  · rintro ⟨p, q, rfl⟩
    exact ⟨utx p, utx q, by unfold utx; rw [List.map_append, List.map_append]⟩
theorem rd_at {w : World} {A : Option Addr} {n c : Nat} {t : List Nat} (h : Rd w A n c (bcells t)) (hpos : 0 < n) : ∃ a : Addr, A = some a ∧ ∀ i, i < n → w.cell? (a.add i) = some (.int .u8 ((t.map fun x : Nat => (x : Int)).getD i 0)) := by
  have hn := h.len
  rw [bcells_length] at hn
  obtain ⟨b, off, rfl, hb, hc⟩ := h.2.2.2 hpos
  refine ⟨⟨b, off, none⟩, rfl, fun i hi => ?_⟩
  have e : (⟨b, off, none⟩ : Addr).add i = ⟨b, off + i, none⟩ := by
    unfold Addr.add
    by_cases h0 : i = 0 <;> simp [h0]
  rw [e, hc i _ (bcells_get t i (by omega))]
  congr 2
  rw [List.getD_eq_getElem?_getD, List.getD_eq_getElem?_getD, List.getElem?_map]
  cases t[i]? <;> rfl
theorem bytesOf_nat {t : List Nat} : Lib.bytesOf (t.map fun x : Nat => (x : Int)) = utx t := by
  unfold Lib.bytesOf utx
  rw [List.map_map]
  rfl
theorem contains_any {A B : Option Addr} {n c m d : Nat} {t s : List Nat} {w : World} (h : Rd w A n c (bcells t)) (h2 : Rd w B m d (bcells s)) (ht : ByteL t) (hs : ByteL s) (hn : n ≤ 100000) (hpos : 0 < n) (hm : m ≤ 100000) (hpos2 : 0 < m) {mx : Int} (h0 : w.cell? ⟨0, 0, none⟩ = some (.int .i64 mx)) (r : Bool) (hr : r = decide (s <:+: t)) :
    Calls Try.prog 34 #[.slice A n c, .slice B m d] w fun e w' => e = .returned (.bool r) ∧ ∃ q, w' = w.drewN q := by
  have hl := h.len
  have hl2 := h2.len
  rw [bcells_length] at hl hl2
  obtain ⟨a1, rfl, hc1⟩ := rd_at h hpos
  obtain ⟨a2, rfl, hc2⟩ := rd_at h2 hpos2
  have hb : ∀ (l : List Nat), ByteL l → ∀ x ∈ l.map (fun x : Nat => (x : Int)), 0 ≤ x ∧ x < 256 := by
    intro l hl x hx
    obtain ⟨y, hy, rfl⟩ := List.mem_map.1 hx
    have := hl y hy
    omega
  have hcon := Try.bytes_Contains_at a1 a2 n c m d (t.map fun x : Nat => (x : Int)) (s.map fun x : Nat => (x : Int)) mx w (by rw [List.length_map]; exact hl) (by rw [List.length_map]; exact hl2) (hb t ht) (hb s hs) hc1 hc2 (Reads.cap h) (by omega) (by omega) h0
  refine hcon.mono ?_
  rintro e w' ⟨rfl, hq⟩
  refine ⟨?_, hq⟩
  rw [bytesOf_nat, bytesOf_nat]
  refine ret_bool ?_
  rw [hr]
  unfold Lib.contains
  rw [decide_eq_decide, index_iff, infix_utx hs ht]
theorem contains_none {B : Option Addr} {m d : Nat} {w : World} (hm : 1 < m) (hm2 : m ≤ 100000) :
    Calls Try.prog 34 #[.slice none 0 0, .slice B m d] w fun e w' => e = .returned (.bool false) ∧ w' = w := by
  refine (Try.bytes_Contains_nil B m d w (by omega) (fun h => by omega)).mono ?_
  rintro e w' ⟨rfl, rfl⟩
  exact ⟨ret_bool (decide_eq_false (by omega)), rfl⟩
end PB
end Go.Proofs.Ytnahmiglogddaaa
namespace Go.Proofs.Ytnahmiglogddaaa
open Go.RowKit
attribute [local go_sem ↓] Go.wp_at_zero Go.wp_at_succ
set_option linter.unusedVariables false
set_option linter.unusedSimpArgs false
namespace PB
theorem own_lowp {w : World} {base : Nat} {e : TypeId} {size : Nat} {v : Value} {n : Nat} {xs : List Value} (h : w.ownsRow base e size v n xs) {p : Addr} (hp : p.block < base) (u : Value) : (w.setCell p u).ownsRow base e size v n xs :=
  own_far_any h (by intro e; have := (h.lt _ e).1; omega) u
/-- A dictionary under way: nil as long as it is empty. -/
structure DRd (w : World) (B : Nat) (A : Option Addr) (n c : Nat) (d : List Nat) : Prop where
  own : w.ownsRow B 5 1 (.slice A n c) n (bcells d)
  nil : d = [] → A = none ∧ n = 0 ∧ c = 0
theorem DRd.rd {w : World} {B : Nat} {A : Option Addr} {n c : Nat} {d : List Nat} (h : DRd w B A n c d) : Rd w A n c (bcells d) := Rd.own h.own
theorem DRd.on {w w' : World} {B : Nat} {A : Option Addr} {n c : Nat} {d : List Nat} (h : DRd w B A n c d) (hb : Below w.heap.size w w') : DRd w' B A n c d := ⟨own_on h.own hb, h.nil⟩
theorem DRd.drewN {w : World} {B : Nat} {A : Option Addr} {n c : Nat} {d : List Nat} (h : DRd w B A n c d) (q : Nat) : DRd (w.drewN q) B A n c d := ⟨h.own, h.nil⟩
theorem DRd.empty (w : World) (B : Nat) : DRd w B none 0 0 [] := ⟨World.ownsRow_nil _ _ _ _, fun _ => ⟨rfl, rfl, rfl⟩⟩
theorem DRd.len {w : World} {B : Nat} {A : Option Addr} {n c : Nat} {d : List Nat} (h : DRd w B A n c d) : d.length = n := by have := h.rd.len; rwa [bcells_length] at this
theorem contains_dict {A B : Option Addr} {n c m k D : Nat} {t s : List Nat} {w : World} (h : DRd w D A n c t) (h2 : Rd w B m k (bcells s)) (ht : ByteL t) (hs : ByteL s) (hn : n ≤ 100000) (hm : m ≤ 100000) (hm2 : 1 < m) {mx : Int} (h0 : w.cell? ⟨0, 0, none⟩ = some (.int .i64 mx)) (r : Bool) (hr : r = decide (s <:+: t)) :
    Calls Try.prog 34 #[.slice A n c, .slice B m k] w fun e w' => e = .returned (.bool r) ∧ ∃ q, w' = w.drewN q := by
  rcases t with _ | ⟨b, t⟩
  · obtain ⟨rfl, rfl, rfl⟩ := h.nil rfl
    refine (contains_none hm2 hm).mono ?_
    rintro e w' ⟨rfl, rfl⟩
    refine ⟨ret_bool ?_, 0, rfl⟩
    rw [hr]
    have hl := h2.len
    rw [bcells_length] at hl
    refine (decide_eq_false ?_).symm
    rintro ⟨p, q, e⟩
    have := congrArg List.length e
    simp only [List.length_append, List.length_nil] at this
    omega
  · have hl := h.len
    rw [List.length_cons] at hl
    exact contains_any h.rd h2 ht hs hn (by omega) hm (by omega) h0 r hr
theorem traind_take_succ (size : Nat) (l : List Txt) (k : Nat) (h : k < l.length) : traind size (l.take (k + 1)) = stepd size (traind size (l.take k)) l[k] := by
  rw [List.take_succ_eq_append_getElem h, traind_snoc]
theorem stepd_has_ {size : Nat} {d : List Nat} {x : Txt} (h : byt x <:+: d) : stepd size d x = d := by unfold stepd; rw [if_pos h]
theorem stepd_join {size : Nat} {d : List Nat} {x : Txt} (h : ¬ byt x <:+: d) (h2 : (joind d (byt x)).length ≤ size) : stepd size d x = joind d (byt x) := by unfold stepd; rw [if_neg h, if_pos h2]
theorem stepd_big {size : Nat} {d : List Nat} {x : Txt} (h : ¬ byt x <:+: d) (h2 : ¬ (joind d (byt x)).length ≤ size) : stepd size d x = d := by unfold stepd; rw [if_neg h, if_neg h2]
set_option maxRecDepth 100000 in
set_option maxHeartbeats 1600000 in
theorem train_any {A : Option Addr} {n c : Nat} {xs : List SItem} {w : World} (h : RdSS w A n c xs) (hok : SamOk xs) {mx : Int} (h0 : w.cell? ⟨0, 0, none⟩ = some (.int .i64 mx)) (hw0 : 0 < w.heap.size) (size : Nat) (hs : size ≤ 512) (si : Int) (hsi : si = (size : Nat)) :
    Calls Try.prog 24 #[.slice A n c, .int .i64 si] w fun e w' => ∃ A' n' c' l, Segs (samd xs) l ∧ e = .returned (.slice A' n' c') ∧ DRd w' w.heap.size A' n' c' (traind size l) ∧ Below w.heap.size w w' := by
  subst hsi
  have HSG := Lib.hid (segments_any h hok)
  have H0 := Lib.hid h0
  clear h hok h0
  go_enter Try.func24, Try.ntmps24
  go_wp2_with fail
  refine HSG.out.mono ?_
  rintro e w1 ⟨A1, c1, l, rfl, hseg, ho1, y1⟩
  have HS := Lib.hid hseg
  have HR := Lib.hid (Rd.own ho1)
  have HY := Lib.hid y1
  have hc1 := Reads.cap (Rd.own ho1)
  have hcm := Reads.capMax (Rd.own ho1)
  unfold maxLen at hcm
  clear hseg ho1 y1
  go_wp2_with fail
  go_loopw [5, 13] (fun dv iv wr => ∃ (k : Nat) (A2 : Option Addr) (n2 c2 : Nat), k ≤ l.length ∧ iv = .int .i64 (k : Nat) ∧ dv = .slice A2 n2 c2 ∧ DRd wr w.heap.size A2 n2 c2 (traind size (l.take k)) ∧ Below w1.heap.size w1 wr) (fun _ iv _ => l.length - (intOf iv).toNat)
  case atStart => exact ⟨0, none, 0, 0, Nat.zero_le _, rfl, rfl, DRd.empty _ _, Below.refl _ _⟩
  case round =>
    obtain ⟨k, A2, n2, c2, hk, rfl, rfl, hd, yr⟩ := hrel
    have HD := Lib.hid hd
    have HYR := Lib.hid yr
    clear hd yr
    by_cases hlt : k < l.length
    · obtain ⟨b, off, rfl, hb, hc⟩ := (HR.out.on HYR.out).2.2.2 (by omega)
      have hcell0 := hc k (encStr l[k]) (by rw [List.getElem?_map, List.getElem?_eq_getElem hlt]; rfl)
      obtain ⟨x, hx⟩ : ∃ x, x = l[k] := ⟨_, rfl⟩
      have hx8 : x.length = 8 := by rw [hx]; exact HS.out.eight (List.getElem_mem hlt)
      rw [← hx] at hcell0
      have hcell : wr.cell? ⟨b, off + k, none⟩ = some (.string ⟨x.toArray⟩) := hcell0
      have HST := Lib.hid (traind_take_succ size l k hlt)
      rw [← hx] at HST
      obtain ⟨d, hdd⟩ : ∃ d, d = traind size (l.take k) := ⟨_, rfl⟩
      have hdl : d.length ≤ 512 := by rw [hdd]; exact Nat.le_trans (traind_size size _) hs
      have hdb : ByteL d := by rw [hdd]; exact traind_byte size _
      rw [← hdd] at HST HD
      have hn2 := HD.out.len
      obtain ⟨A8, c8, w3, hconv, hr8, y3⟩ := str_to_bytes wr x (by omega)
      rw [hx8] at hconv hr8
      have hconv2 : (convert 9 23 (.string ⟨x.toArray⟩)).run Try.prog wr = .ok (.slice A8 8 c8) w3 := hconv
      have Z3 := HYR.out.trans (y3.mono HYR.out.size)
      have Zw := HY.out.trans (Z3.mono HY.out.size)
      have h03 : w3.cell? ⟨0, 0, none⟩ = some (.int .i64 mx) := (Zw.cell (p := ⟨0, 0, none⟩) hw0).trans H0.out
      have HD3 := Lib.hid (HD.out.on y3)
      have HR8 := Lib.hid hr8
      have HZ3 := Lib.hid Z3
      have HDB := Lib.hid hdb
      have HC := Lib.hid (fun r hr => contains_dict HD3.out hr8 hdb (byt_lt x) (by omega) (by decide) (by decide) h03 r hr)
      have HJ := Lib.hid (fun q => join_any (w := w3.drewN q) (HD3.out.rd.drewN q) (hr8.drewN q) hdb (byt_lt x) (by omega) (by decide))
      clear hc hcell0 hx hdd hdb hconv hr8 y3 Z3 Zw h03
      by_cases hin : byt x <:+: d
      · have HC2 := Lib.hid (HC.out true (decide_eq_true hin).symm)
        have HE := Lib.hid (stepd_has_ (size := size) hin)
        clear hin HC HJ
        go_wp2_with fail
        refine HC2.out.mono ?_
        rintro e w4 ⟨rfl, q, rfl⟩
        go_wp2_with fail
        go_roundw
        case rel => exact ⟨k + 1, A2, n2, c2, by omega, by go_num, rfl, by rw [HST.out, HE.out]; exact HD3.out.drewN q, belowDN HZ3.out q⟩
        case measure => simp [intOf] <;> omega
      · have HC2 := Lib.hid (HC.out false (decide_eq_false hin).symm)
        have HI := Lib.hid hin
        have hjl := joind_length d (byt x)
        obtain ⟨J, hJ⟩ : ∃ J, J = joind d (byt x) := ⟨_, rfl⟩
        rw [← hJ] at HJ hjl
        rw [byt_length, hx8] at hjl
        have HJE := Lib.hid hJ
        clear hin HC hJ
        go_wp2_with fail
        refine HC2.out.mono ?_
        rintro e w4 ⟨rfl, q, rfl⟩
        go_wp2_with fail
        refine (HJ.out q).mono ?_
        rintro e w5 ⟨A5, c5, rfl, hr5, y5⟩
        have HR5 := Lib.hid hr5
        have HZ5 := Lib.hid ((belowDN HZ3.out q).trans (y5.mono (belowDN HZ3.out q).size))
        have HD5 := Lib.hid (DRd.on (HD3.out.drewN q) y5)
        clear hr5 y5
        by_cases hsz : J.length ≤ size
        · have HE := Lib.hid (stepd_join (size := size) HI.out (by rw [← HJE.out]; exact hsz))
          go_wp2_with fail
          go_roundw
          case rel => exact ⟨k + 1, A5, J.length, c5, by omega, by go_num, rfl, by rw [HST.out, HE.out, ← HJE.out]; exact ⟨own_less HR5.out (by rw [World.heap_drewN]; exact (HY.out.trans (HZ3.out.mono HY.out.size)).size), fun e => by have h9 := (joind_seg d (byt x)).length_le; rw [← HJE.out, e, byt_length, hx8] at h9; simp at h9⟩, HZ5.out⟩
          case measure => simp [intOf] <;> omega
        · have HE := Lib.hid (stepd_big (size := size) HI.out (by rw [← HJE.out]; exact hsz))
          go_wp2_with fail
          go_roundw
          case rel => exact ⟨k + 1, A2, n2, c2, by omega, by go_num, rfl, by rw [HST.out, HE.out]; exact HD5.out, HZ5.out⟩
          case measure => simp [intOf] <;> omega
    · obtain rfl : k = l.length := by omega
      have hd := HD.out
      rw [List.take_of_length_le (Nat.le_refl _)] at hd
      have HD2 := Lib.hid hd
      clear hd
      go_wp2
      go_ret
      exact ⟨A2, n2, c2, l, HS.out, rfl, HD2.out, HY.out.trans (HYR.out.mono HY.out.size)⟩
/-! Faults of samples. -/
/-- The fault of samples: where too many are told, too long ones. -/
def SFault (xs : List SItem) (index code idx : Int) : Prop :=
  (64 < xs.length ∧ code = 2 ∧ idx = index) ∨ (xs.length ≤ 64 ∧ (∃ q : Nat, ∃ h : q < xs.length, (∀ j (hj : j < xs.length), j < q → xs[j].d.length ≤ 1024) ∧ 1024 < xs[q].d.length ∧ idx = (q : Nat)) ∧ code = 3) ∨ (SamOk xs ∧ code = 0 ∧ idx = 0)
theorem samlong_ex (xs : List SItem) : (∀ x ∈ xs, x.d.length ≤ 1024) ∨ ∃ q : Nat, ∃ h : q < xs.length, (∀ j (hj : j < xs.length), j < q → xs[j].d.length ≤ 1024) ∧ 1024 < xs[q].d.length := by
  have key : ∀ k, k ≤ xs.length → (∀ j (hj : j < xs.length), j < k → xs[j].d.length ≤ 1024) ∨ ∃ q : Nat, ∃ h : q < xs.length, (∀ j (hj : j < xs.length), j < q → xs[j].d.length ≤ 1024) ∧ 1024 < xs[q].d.length := by
    intro k
    induction k with
    | zero => intro _; left; intro j _ hj; omega
    | succ k ih =>
      intro hk
      rcases ih (by omega) with h1 | h1
      · by_cases hc : xs[k].d.length ≤ 1024
        · left
          intro j hj hjk
          rcases (by omega : j < k ∨ j = k) with h2 | rfl
          · exact h1 j hj h2
          · exact hc
        · exact .inr ⟨k, by omega, h1, by omega⟩
      · exact .inr h1
  rcases key xs.length (Nat.le_refl _) with h | h
  · left
    intro x hx
    obtain ⟨j, hj, rfl⟩ := List.getElem_of_mem hx
    exact h j hj hj
  · exact .inr h
theorem sfault_ex (xs : List SItem) (index : Int) : ∃ code idx, SFault xs index code idx := by
  by_cases h1 : 64 < xs.length
  · exact ⟨2, index, .inl ⟨h1, rfl, rfl⟩⟩
  · rcases samlong_ex xs with h2 | ⟨q, h, h2, h3⟩
    · exact ⟨0, 0, .inr (.inr ⟨⟨by omega, h2⟩, rfl, rfl⟩)⟩
    · exact ⟨3, _, .inr (.inl ⟨by omega, ⟨q, h, h2, h3, rfl⟩, rfl⟩)⟩
theorem sfault_ok {xs : List SItem} {index code idx : Int} (h : SFault xs index code idx) (hc : code = 0) : SamOk xs ∧ idx = 0 := by
  rcases h with ⟨_, h, _⟩ | ⟨_, _, h⟩ | ⟨h1, _, h2⟩
  · omega
  · omega
  · exact ⟨h1, h2⟩
theorem difault_any (code index : Int) (w : World) :
    Calls Try.prog 23 #[.int .i64 code, .int .i64 index] w fun e w' => e = .returned (.agg #[.int .i64 code, .int .i64 index]) ∧ Below w.heap.size w w' := by
  go_enter Try.func23, Try.ntmps23
  go_wp2
  refine bodyPost_ret (v := .agg #[.int .i64 code, .int .i64 index]) (by simp [results, Try.results23, go_sem]) rfl ⟨rfl, ?_⟩
  exact (Below.refl _ _).alloc (Nat.le_refl _) _
set_option maxHeartbeats 800000 in
theorem dicheck_many {A : Option Addr} {n c : Nat} {xs : List SItem} {w : World} (h : RdSS w A n c xs) (index : Int) (hl : 64 < xs.length) :
    Calls Try.prog 22 #[.slice A n c, .int .i64 index] w fun e w' => e = .returned (.agg #[.int .i64 2, .int .i64 index]) ∧ Below w.heap.size w w' := by
  have hn := h.1
  have hcap := h.2.1
  have hcm := h.2.2.1
  unfold maxLen at hcm
  obtain rfl := hn
  have M0 := Two.new w 25 (.int .i64 0) (.int .i64 0)
  have Y0 := (Below.refl w.heap.size w).alloc (Nat.le_refl _) (.cells #[.int .i64 0, .int .i64 0] 25)
  have kl : decide ((64 : Int) < (xs.length : Int)) = true := by simp; omega
  have HM := Lib.hid M0
  have HY := Lib.hid Y0
  clear M0 Y0
  go_enter Try.func22, Try.ntmps22
  go_wp2_with fail
  refine (difault_any _ _ _).mono ?_
  rintro e w1 ⟨rfl, y1⟩
  have M1 := HM.out.on y1
  have Y1 := HY.out.trans (y1.mono HY.out.size)
  have m0 := M1.c0
  have m1 := M1.c1
  have m2 := M1.f0
  have m3 := M1.f1
  go_wp2
  have rr := (M1.set0 (.int .i64 2)).set1 (.int .i64 index)
  have r0 := rr.c0
  have r1 := rr.c1
  refine bodyPost_ret (v := .agg #[.int .i64 2, .int .i64 index]) (by simp [results, Try.results22, go_sem, r0, r1]) rfl ⟨rfl, ?_⟩
  exact (Y1.setCell (p := ⟨w.heap.size, 0, none⟩) (by simp) _).setCell (p := ⟨w.heap.size, 1, none⟩) (by simp) _
set_option maxHeartbeats 800000 in
theorem dicheck_long {A : Option Addr} {n c : Nat} {xs : List SItem} {w : World} (h : RdSS w A n c xs) (index : Int) (hl : xs.length ≤ 64) (q : Nat) (hq : q < xs.length) (hall : ∀ j (hj : j < xs.length), j < q → xs[j].d.length ≤ 1024) (hbad : 1024 < xs[q].d.length) :
    Calls Try.prog 22 #[.slice A n c, .int .i64 index] w fun e w' => e = .returned (.agg #[.int .i64 3, .int .i64 (q : Nat)]) ∧ Below w.heap.size w w' := by
  have hn := h.1
  have hcap := h.2.1
  have hcm := h.2.2.1
  unfold maxLen at hcm
  obtain rfl := hn
  have M0 := Two.new w 25 (.int .i64 0) (.int .i64 0)
  have Y0 := (Below.refl w.heap.size w).alloc (Nat.le_refl _) (.cells #[.int .i64 0, .int .i64 0] 25)
  have HA := Lib.hid hall
  have HB := Lib.hid hbad
  clear hall hbad
  have HM := Lib.hid M0
  have HY := Lib.hid Y0
  clear M0 Y0
  go_enter Try.func22, Try.ntmps22
  go_wp2_with fail
  go_loop [14] (fun i => ∃ k : Nat, k ≤ q ∧ i = .int .i64 (k : Nat)) (fun i => q - (intOf i).toNat)
  case atStart => exact ⟨0, Nat.zero_le _, rfl⟩
  case round =>
    obtain ⟨k, hk, rfl⟩ := hrel
    by_cases hlt : k < q
    · obtain ⟨b, off, rfl, hb, q1, R⟩ := (h.alloc (.cells #[.int .i64 0, .int .i64 0] 25)).at k (by omega)
      obtain ⟨x, hx⟩ : ∃ x, x = xs[k] := ⟨_, rfl⟩
      rw [← hx] at q1 R
      have hxl : x.d.length = x.n := by have := R.len; rwa [bcells_length] at this
      have hxs : x.n ≤ 1024 := by rw [← hxl, hx]; exact HA.out k (by omega) hlt
      obtain ⟨xA, xn, xc, xd⟩ := x
      dsimp only at q1 hxs
      clear hx hxl R
      go_wp2_with fail
      go_round
      case rel => exact ⟨k + 1, by omega, by go_num⟩
      case measure => simp [intOf] <;> omega
    · obtain rfl : k = q := by omega
      obtain ⟨b, off, rfl, hb, q1, R⟩ := (h.alloc (.cells #[.int .i64 0, .int .i64 0] 25)).at k hq
      obtain ⟨x, hx⟩ : ∃ x, x = xs[k] := ⟨_, rfl⟩
      rw [← hx] at q1 R
      have hxl : x.d.length = x.n := by have := R.len; rwa [bcells_length] at this
      have hxs : 1024 < x.n := by rw [← hxl, hx]; exact HB.out
      obtain ⟨xA, xn, xc, xd⟩ := x
      dsimp only at q1 hxs
      clear hx hxl R
      go_wp2_with fail
      refine (difault_any _ _ _).mono ?_
      rintro e w1 ⟨rfl, y1⟩
      have M1 := HM.out.on y1
      have Y1 := HY.out.trans (y1.mono HY.out.size)
      have m0 := M1.c0
      have m1 := M1.c1
      have m2 := M1.f0
      have m3 := M1.f1
      go_wp2
      have rr := (M1.set0 (.int .i64 3)).set1 (.int .i64 (k : Nat))
      have r0 := rr.c0
      have r1 := rr.c1
      refine bodyPost_ret (v := .agg #[.int .i64 3, .int .i64 (k : Nat)]) (by simp [results, Try.results22, go_sem, r0, r1]) rfl ⟨rfl, ?_⟩
      exact (Y1.setCell (p := ⟨w.heap.size, 0, none⟩) (by simp) _).setCell (p := ⟨w.heap.size, 1, none⟩) (by simp) _
set_option maxHeartbeats 800000 in
theorem dicheck_ok {A : Option Addr} {n c : Nat} {xs : List SItem} {w : World} (h : RdSS w A n c xs) (index : Int) (hok : SamOk xs) :
    Calls Try.prog 22 #[.slice A n c, .int .i64 index] w fun e w' => e = .returned (.agg #[.int .i64 0, .int .i64 0]) ∧ Below w.heap.size w w' := by
  have hn := h.1
  have hcap := h.2.1
  have hcm := h.2.2.1
  unfold maxLen at hcm
  obtain rfl := hn
  have M0 := Two.new w 25 (.int .i64 0) (.int .i64 0)
  have Y0 := (Below.refl w.heap.size w).alloc (Nat.le_refl _) (.cells #[.int .i64 0, .int .i64 0] 25)
  have hl := hok.few
  have HA := Lib.hid hok
  clear hok
  have HM := Lib.hid M0
  have HY := Lib.hid Y0
  clear M0 Y0
  go_enter Try.func22, Try.ntmps22
  go_wp2_with fail
  go_loop [14] (fun i => ∃ k : Nat, k ≤ xs.length ∧ i = .int .i64 (k : Nat)) (fun i => xs.length - (intOf i).toNat)
  case atStart => exact ⟨0, Nat.zero_le _, rfl⟩
  case round =>
    obtain ⟨k, hk, rfl⟩ := hrel
    by_cases hlt : k < xs.length
    · obtain ⟨b, off, rfl, hb, q1, R⟩ := (h.alloc (.cells #[.int .i64 0, .int .i64 0] 25)).at k hlt
      obtain ⟨x, hx⟩ : ∃ x, x = xs[k] := ⟨_, rfl⟩
      rw [← hx] at q1 R
      have hxl : x.d.length = x.n := by have := R.len; rwa [bcells_length] at this
      have hxs : x.n ≤ 1024 := by rw [← hxl, hx]; exact HA.out.short _ (List.getElem_mem hlt)
      obtain ⟨xA, xn, xc, xd⟩ := x
      dsimp only at q1 hxs
      clear hx hxl R
      go_wp2_with fail
      go_round
      case rel => exact ⟨k + 1, by omega, by go_num⟩
      case measure => simp [intOf] <;> omega
    · obtain rfl : k = xs.length := by omega
      have m0 := HM.out.c0
      have m1 := HM.out.c1
      have m2 := HM.out.f0
      have m3 := HM.out.f1
      go_wp2
      refine bodyPost_ret (v := .agg #[.int .i64 0, .int .i64 0]) (by simp [results, Try.results22, go_sem, m0, m1]) rfl ⟨rfl, ?_⟩
      exact HY.out
theorem dicheck_any {A : Option Addr} {n c : Nat} {xs : List SItem} {w : World} (h : RdSS w A n c xs) (index code idx : Int) (hF : SFault xs index code idx) :
    Calls Try.prog 22 #[.slice A n c, .int .i64 index] w fun e w' => e = .returned (.agg #[.int .i64 code, .int .i64 idx]) ∧ Below w.heap.size w w' := by
  rcases hF with ⟨h1, rfl, rfl⟩ | ⟨h1, ⟨q, h2, h3, h4, rfl⟩, rfl⟩ | ⟨h1, rfl, rfl⟩
  · exact dicheck_many h _ h1
  · exact dicheck_long h _ h1 q h2 h3 h4
  · exact dicheck_ok h _ h1
set_option maxRecDepth 100000 in
set_option maxHeartbeats 1600000 in
theorem dtrain_sam {A : Option Addr} {n c : Nat} {xs : List SItem} {w : World} (h : RdSS w A n c xs) (si code idx : Int) (hF : SFault xs (-1) code idx) (hc : code ≠ 0) :
    Calls Try.prog 8 #[.slice A n c, .int .i64 si] w fun e w' => e = .returned (.tuple #[.slice none 0 0, .agg #[.int .i64 code, .int .i64 idx]]) ∧ Below w.heap.size w w' := by
  have M0 := Two.new w 25 (.int .i64 0) (.int .i64 0)
  have Y0 := (Below.refl w.heap.size w).alloc (Nat.le_refl _) (.cells #[.int .i64 0, .int .i64 0] 25)
  have R0 := h.alloc (.cells #[.int .i64 0, .int .i64 0] 25)
  have hc2 : (code == 0) = false := by rw [beq_eq_false_iff_ne]; exact hc
  have hc3 : (code != 0) = true := by rw [bne_iff_ne]; exact hc
  go_enter Try.func8, Try.ntmps8
  go_wp2_with fail
  refine (dicheck_any R0 (-1) _ _ hF).mono ?_
  rintro e w1 ⟨rfl, y1⟩
  have M1 := (M0.on y1).alloc (.cells #[.int .i64 code, .int .i64 idx] 25)
  have F1 := Two.new w1 25 (.int .i64 code) (.int .i64 idx)
  have Y1 := (Y0.trans (y1.mono Y0.size)).alloc (Y0.trans (y1.mono Y0.size)).size (.cells #[.int .i64 code, .int .i64 idx] 25)
  have R1 := (R0.on y1).alloc (.cells #[.int .i64 code, .int .i64 idx] 25)
  have m0 := M1.c0
  have m1 := M1.c1
  have m2 := M1.f0
  have m3 := M1.f1
  have f0 := F1.c0
  have f1 := F1.c1
  have hsz := (Y0.trans (y1.mono Y0.size)).size
  have hszm := (M0.on y1).lt
  clear M0 Y0 R0 y1
  obtain ⟨W, hW⟩ : ∃ W, W = w1.alloc (.cells #[.int .i64 code, .int .i64 idx] 25) := ⟨_, rfl⟩
  rw [← hW] at M1 F1 Y1 R1 m0 m1 m2 m3 f0 f1
  clear hc hF
  go_upto_region 3 with (fail)
  rw [← hW]
  clear hW
  go_region
  all_goals
    go_wp2
    have rr := ((M1.set0 (.int .i64 code)).set1 (.int .i64 idx)).drew
    have r0 := rr.c0
    have r1 := rr.c1
    refine bodyPost_ret (v := .tuple #[.slice none 0 0, .agg #[.int .i64 code, .int .i64 idx]]) (by simp [results, Try.results8, go_sem, r0, r1]) rfl ⟨rfl, ?_⟩
    exact belowD ((Y1.setCell (p := ⟨w.heap.size, 0, none⟩) (by simp) _).setCell (p := ⟨w.heap.size, 1, none⟩) (by simp) _)
set_option maxRecDepth 100000 in
set_option maxHeartbeats 1600000 in
theorem dtrain_size {A : Option Addr} {n c : Nat} {xs : List SItem} {w : World} (h : RdSS w A n c xs) (hok : SamOk xs) (si : Int) (hs : si < 0 ∨ 512 < si) :
    Calls Try.prog 8 #[.slice A n c, .int .i64 si] w fun e w' => e = .returned (.tuple #[.slice none 0 0, .agg #[.int .i64 4, .int .i64 (-2)]]) ∧ Below w.heap.size w w' := by
  have hcs : si < 0 ∨ (0 ≤ si ∧ 512 < si) := by omega
  have hF : SFault xs (-1) 0 0 := .inr (.inr ⟨hok, rfl, rfl⟩)
  clear hs hok
  have M0 := Two.new w 25 (.int .i64 0) (.int .i64 0)
  have Y0 := (Below.refl w.heap.size w).alloc (Nat.le_refl _) (.cells #[.int .i64 0, .int .i64 0] 25)
  have R0 := h.alloc (.cells #[.int .i64 0, .int .i64 0] 25)
  go_enter Try.func8, Try.ntmps8
  go_wp2_with fail
  refine (dicheck_any R0 (-1) _ _ hF).mono ?_
  rintro e w1 ⟨rfl, y1⟩
  have M1 := (M0.on y1).alloc (.cells #[.int .i64 0, .int .i64 0] 25)
  have F1 := Two.new w1 25 (.int .i64 0) (.int .i64 0)
  have Y1 := (Y0.trans (y1.mono Y0.size)).alloc (Y0.trans (y1.mono Y0.size)).size (.cells #[.int .i64 0, .int .i64 0] 25)
  have R1 := (R0.on y1).alloc (.cells #[.int .i64 0, .int .i64 0] 25)
  have m0 := M1.c0
  have m1 := M1.c1
  have m2 := M1.f0
  have m3 := M1.f1
  have f0 := F1.c0
  have f1 := F1.c1
  have hsz := (Y0.trans (y1.mono Y0.size)).size
  have hszm := (M0.on y1).lt
  clear M0 Y0 R0 y1
  obtain ⟨W, hW⟩ : ∃ W, W = w1.alloc (.cells #[.int .i64 0, .int .i64 0] 25) := ⟨_, rfl⟩
  rw [← hW] at M1 F1 Y1 R1 m0 m1 m2 m3 f0 f1
  clear hF
  rcases hcs with hs | ⟨hs, hs2⟩
  all_goals
    go_upto_region 4 with (fail)
    rw [← hW]
    clear hW
    go_wp2_with fail
    refine (difault_any _ _ _).mono ?_
    rintro e w3 ⟨rfl, y3⟩
    have M3 := M1.on y3
    have Y3 := Y1.trans (y3.mono Y1.size)
    have p0 := M3.c0
    have p1 := M3.c1
    have p2 := M3.f0
    have p3 := M3.f1
    clear M1 Y1 m0 m1 m2 m3 f0 f1 F1 R1 y3
    go_wp2
    have rr := ((M3.set0 (.int .i64 4)).set1 (.int .i64 (-2)))
    have r0 := rr.c0
    have r1 := rr.c1
    refine bodyPost_ret (v := .tuple #[.slice none 0 0, .agg #[.int .i64 4, .int .i64 (-2)]]) (by simp [results, Try.results8, go_sem, r0, r1]) rfl ⟨rfl, ?_⟩
    exact ((Y3.setCell (p := ⟨w.heap.size, 0, none⟩) (by simp) _).setCell (p := ⟨w.heap.size, 1, none⟩) (by simp) _)
set_option maxRecDepth 100000 in
set_option maxHeartbeats 1600000 in
theorem dtrain_ok {A : Option Addr} {n c : Nat} {xs : List SItem} {w : World} (h : RdSS w A n c xs) (hok : SamOk xs) {mx : Int} (h0 : w.cell? ⟨0, 0, none⟩ = some (.int .i64 mx)) (hw0 : 0 < w.heap.size) (size : Nat) (hs : size ≤ 512) (si : Int) (hsi : si = (size : Nat)) :
    Calls Try.prog 8 #[.slice A n c, .int .i64 si] w fun e w' => ∃ A' n' c' l, Segs (samd xs) l ∧ e = .returned (.tuple #[.slice A' n' c', .agg #[.int .i64 0, .int .i64 0]]) ∧ w'.ownsRow w.heap.size 5 1 (.slice A' n' c') n' (bcells (traind size l)) ∧ Below w.heap.size w w' := by
  subst hsi
  have hF : SFault xs (-1) 0 0 := .inr (.inr ⟨hok, rfl, rfl⟩)
  have M0 := Two.new w 25 (.int .i64 0) (.int .i64 0)
  have Y0 := (Below.refl w.heap.size w).alloc (Nat.le_refl _) (.cells #[.int .i64 0, .int .i64 0] 25)
  have R0 := h.alloc (.cells #[.int .i64 0, .int .i64 0] 25)
  go_enter Try.func8, Try.ntmps8
  go_wp2_with fail
  refine (dicheck_any R0 (-1) _ _ hF).mono ?_
  rintro e w1 ⟨rfl, y1⟩
  have M1 := (M0.on y1).alloc (.cells #[.int .i64 0, .int .i64 0] 25)
  have F1 := Two.new w1 25 (.int .i64 0) (.int .i64 0)
  have Y1 := (Y0.trans (y1.mono Y0.size)).alloc (Y0.trans (y1.mono Y0.size)).size (.cells #[.int .i64 0, .int .i64 0] 25)
  have R1 := (R0.on y1).alloc (.cells #[.int .i64 0, .int .i64 0] 25)
  have m0 := M1.c0
  have m1 := M1.c1
  have m2 := M1.f0
  have m3 := M1.f1
  have f0 := F1.c0
  have f1 := F1.c1
  have hsz := (Y0.trans (y1.mono Y0.size)).size
  have hszm := (M0.on y1).lt
  clear M0 Y0 R0 y1
  obtain ⟨W, hW⟩ : ∃ W, W = w1.alloc (.cells #[.int .i64 0, .int .i64 0] 25) := ⟨_, rfl⟩
  rw [← hW] at M1 F1 Y1 R1 m0 m1 m2 m3 f0 f1
  clear hF
  have h0W : W.cell? ⟨0, 0, none⟩ = some (.int .i64 mx) := (Y1.cell (p := ⟨0, 0, none⟩) hw0).trans h0
  have hWl : w.heap.size < W.heap.size := M1.lt
  have HT := Lib.hid (train_any R1 hok h0W (by have := Y1.size; omega) size hs (size : Nat) rfl)
  clear h0 h0W hok
  go_upto_region 4 with (fail)
  rw [← hW]
  clear hW
  go_wp2_with fail
  refine HT.out.mono ?_
  rintro e w3 ⟨A3, n3, c3, l, hseg, rfl, hd3, y3⟩
  have M3 := M1.on y3
  have HY3 := Lib.hid (Y1.trans (y3.mono Y1.size))
  have HD3 := Lib.hid hd3.own
  have HWl := Lib.hid Y1.size
  have HS3 := Lib.hid hseg
  have p0 := M3.c0
  have p1 := M3.c1
  have p2 := M3.f0
  have p3 := M3.f1
  clear M1 Y1 m0 m1 m2 m3 f0 f1 F1 R1 y3 hd3 hseg HT
  go_wp2
  have rr := ((M3.set0 (.int .i64 0)).set1 (.int .i64 0))
  have r0 := rr.c0
  have r1 := rr.c1
  have oo := own_lowp (own_lowp HD3.out (p := ⟨w.heap.size, 0, none⟩) (by show w.heap.size < W.heap.size; exact hWl) (.int .i64 0)) (p := ⟨w.heap.size, 1, none⟩) (by show w.heap.size < W.heap.size; exact hWl) (.int .i64 0)
  refine bodyPost_ret (v := .tuple #[.slice A3 n3 c3, .agg #[.int .i64 0, .int .i64 0]]) (by simp [results, Try.results8, go_sem, r0, r1]) rfl ⟨A3, n3, c3, l, HS3.out, rfl, own_less oo HWl.out, ?_⟩
  exact (HY3.out.setCell (p := ⟨w.heap.size, 0, none⟩) (by simp) _).setCell (p := ⟨w.heap.size, 1, none⟩) (by simp) _
end PB
end Go.Proofs.Ytnahmiglogddaaa
