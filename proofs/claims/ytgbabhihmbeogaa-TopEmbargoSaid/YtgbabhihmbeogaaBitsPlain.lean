/-
  Plain facts on bit strings: a list of bits (0 or 1) packed into bytes, the most significant bit first. Nothing of Go and no program stands in this text.
-/
import Derived.WalkKit
namespace Go.Proofs.Ytgbabhihmbeogaa
set_option linter.unusedVariables false
set_option linter.unusedSimpArgs false
namespace PB

/-- All bits are 0 or 1. -/
def Is01 (l : List Nat) : Prop := ∀ i, l.getD i 0 < 2
/-- The bit at a position of bytes. -/
def bitAt (d : List Nat) (i : Nat) : Nat := d.getD (i / 8) 0 / 2 ^ (7 - i % 8) % 2
/-- The first n bits of bytes. -/
def bitsOf (d : List Nat) (n : Nat) : List Nat := (List.range n).map (bitAt d)
/-- Byte k of packed bits. -/
def pbyte (l : List Nat) (k : Nat) : Nat :=
  l.getD (8 * k) 0 * 128 + l.getD (8 * k + 1) 0 * 64 + l.getD (8 * k + 2) 0 * 32 + l.getD (8 * k + 3) 0 * 16 + l.getD (8 * k + 4) 0 * 8 + l.getD (8 * k + 5) 0 * 4 + l.getD (8 * k + 6) 0 * 2 + l.getD (8 * k + 7) 0
/-- Packed bits. -/
def pack (l : List Nat) : List Nat := (List.range ((l.length + 7) / 8)).map (pbyte l)

theorem Is01.lt {l : List Nat} (h : Is01 l) (i : Nat) : l.getD i 0 < 2 := h i
theorem Is01.mem {l : List Nat} (h : Is01 l) {x : Nat} (hx : x ∈ l) : x < 2 := by
  obtain ⟨i, hi, rfl⟩ := List.mem_iff_getElem.1 hx
  have := h i
  rwa [List.getD_eq_getElem?_getD, List.getElem?_eq_getElem hi] at this
theorem Is01.of_mem {l : List Nat} (h : ∀ x ∈ l, x < 2) : Is01 l := by
  intro i
  rw [List.getD_eq_getElem?_getD]
  rcases Nat.lt_or_ge i l.length with hi | hi
  · rw [List.getElem?_eq_getElem hi]; exact h _ (List.getElem_mem hi)
  · rw [List.getElem?_eq_none hi]; decide
theorem Is01.nil : Is01 [] := Is01.of_mem (by simp)
theorem Is01.append {a b : List Nat} (ha : Is01 a) (hb : Is01 b) : Is01 (a ++ b) := by
  refine Is01.of_mem fun x hx => ?_
  rcases List.mem_append.1 hx with h | h
  · exact ha.mem h
  · exact hb.mem h
theorem Is01.snoc {a : List Nat} (ha : Is01 a) {b : Nat} (hb : b < 2) : Is01 (a ++ [b]) :=
  ha.append (Is01.of_mem (by simpa using hb))
theorem Is01.left {a b : List Nat} (h : Is01 (a ++ b)) : Is01 a := Is01.of_mem fun _ hx => h.mem (List.mem_append_left _ hx)
theorem Is01.right {a b : List Nat} (h : Is01 (a ++ b)) : Is01 b := Is01.of_mem fun _ hx => h.mem (List.mem_append_right _ hx)
theorem Is01.drop {a : List Nat} (h : Is01 a) (n : Nat) : Is01 (a.drop n) := Is01.of_mem fun _ hx => h.mem (List.mem_of_mem_drop hx)
theorem Is01.take {a : List Nat} (h : Is01 a) (n : Nat) : Is01 (a.take n) := Is01.of_mem fun _ hx => h.mem (List.mem_of_mem_take hx)

theorem getD_lt {l : List Nat} {i : Nat} (h : i < l.length) : l.getD i 0 = l[i] := by
  rw [List.getD_eq_getElem?_getD, List.getElem?_eq_getElem h]; rfl
theorem getD_ge {l : List Nat} {i : Nat} (h : l.length ≤ i) : l.getD i 0 = 0 := by
  rw [List.getD_eq_getElem?_getD, List.getElem?_eq_none h]; rfl
theorem getD_append_lt {a b : List Nat} {i : Nat} (h : i < a.length) : (a ++ b).getD i 0 = a.getD i 0 := by
  simp [List.getD_eq_getElem?_getD, List.getElem?_append, h]
theorem getD_append_ge {a b : List Nat} {i : Nat} (h : a.length ≤ i) : (a ++ b).getD i 0 = b.getD (i - a.length) 0 := by
  have : ¬ i < a.length := by omega
  simp [List.getD_eq_getElem?_getD, List.getElem?_append, this]
theorem ext_getD {a b : List Nat} (h : a.length = b.length) (hi : ∀ i, i < a.length → a.getD i 0 = b.getD i 0) : a = b := by
  refine List.ext_getElem h fun i h1 h2 => ?_
  have := hi i h1
  rwa [getD_lt h1, getD_lt h2] at this

theorem pack_length (l : List Nat) : (pack l).length = (l.length + 7) / 8 := by simp [pack]
theorem pack_nil : pack [] = [] := rfl
theorem getD_map_range (f : Nat → Nat) (n k : Nat) (h : k < n) : ((List.range n).map f).getD k 0 = f k := by
  simp [List.getD_eq_getElem?_getD, h]
theorem pack_getD (l : List Nat) (k : Nat) (h : k < (l.length + 7) / 8) : (pack l).getD k 0 = pbyte l k := getD_map_range _ _ _ h
theorem pbyte_ge (l : List Nat) (k : Nat) (h : (l.length + 7) / 8 ≤ k) : pbyte l k = 0 := by
  unfold pbyte
  rw [getD_ge (by omega), getD_ge (by omega), getD_ge (by omega), getD_ge (by omega), getD_ge (by omega), getD_ge (by omega), getD_ge (by omega), getD_ge (by omega)]
theorem pack_getD_any (l : List Nat) (k : Nat) : (pack l).getD k 0 = pbyte l k := by
  rcases Nat.lt_or_ge k ((l.length + 7) / 8) with h | h
  · exact pack_getD l k h
  · rw [pbyte_ge l k h, getD_ge (by rw [pack_length]; exact h)]
theorem pbyte_lt {l : List Nat} (h : Is01 l) (k : Nat) : pbyte l k < 256 := by
  unfold pbyte
  have h0 := h (8 * k); have h1 := h (8 * k + 1); have h2 := h (8 * k + 2); have h3 := h (8 * k + 3)
  have h4 := h (8 * k + 4); have h5 := h (8 * k + 5); have h6 := h (8 * k + 6); have h7 := h (8 * k + 7)
  omega
theorem pack_lt {l : List Nat} (h : Is01 l) (k : Nat) : (pack l).getD k 0 < 256 := by
  rw [pack_getD_any]; exact pbyte_lt h k
theorem pbyte_bit {l : List Nat} (h : Is01 l) (k r : Nat) (hr : r < 8) : pbyte l k / 2 ^ (7 - r) % 2 = l.getD (8 * k + r) 0 := by
  have h0 := h (8 * k); have h1 := h (8 * k + 1); have h2 := h (8 * k + 2); have h3 := h (8 * k + 3)
  have h4 := h (8 * k + 4); have h5 := h (8 * k + 5); have h6 := h (8 * k + 6); have h7 := h (8 * k + 7)
  unfold pbyte
  rcases (by omega : r = 0 ∨ r = 1 ∨ r = 2 ∨ r = 3 ∨ r = 4 ∨ r = 5 ∨ r = 6 ∨ r = 7) with rfl | rfl | rfl | rfl | rfl | rfl | rfl | rfl <;> (try simp only [Nat.add_zero]) <;> omega
theorem bitAt_pack {l : List Nat} (h : Is01 l) (i : Nat) : bitAt (pack l) i = l.getD i 0 := by
  unfold bitAt
  rw [pack_getD_any, pbyte_bit h _ _ (Nat.mod_lt _ (by decide))]
  congr 1; omega
theorem bitAt_lt (d : List Nat) (i : Nat) : bitAt d i < 2 := Nat.mod_lt _ (by decide)
theorem bitsOf_length (d : List Nat) (n : Nat) : (bitsOf d n).length = n := by simp [bitsOf]
theorem bitsOf_getD (d : List Nat) (n i : Nat) (h : i < n) : (bitsOf d n).getD i 0 = bitAt d i := getD_map_range _ _ _ h
theorem bitsOf_01 (d : List Nat) (n : Nat) : Is01 (bitsOf d n) := by
  refine Is01.of_mem fun x hx => ?_
  obtain ⟨i, _, rfl⟩ := List.mem_map.1 hx
  exact bitAt_lt d i
theorem bitsOf_pack {l : List Nat} (h : Is01 l) : bitsOf (pack l) l.length = l := by
  refine ext_getD (bitsOf_length _ _) fun i hi => ?_
  rw [bitsOf_length] at hi
  rw [bitsOf_getD _ _ _ hi, bitAt_pack h]
theorem byte_of_bits (x : Nat) (h : x < 256) : x = x / 128 % 2 * 128 + x / 64 % 2 * 64 + x / 32 % 2 * 32 + x / 16 % 2 * 16 + x / 8 % 2 * 8 + x / 4 % 2 * 4 + x / 2 % 2 * 2 + x % 2 := by omega
/-- The bit behind the count is 0: what 'valid' says of the bits behind the last one. -/
def RestZero (d : List Nat) (n : Nat) : Prop := ∀ i, n ≤ i → i < 8 * d.length → bitAt d i = 0
theorem pbyte_bitsOf (d : List Nat) (n k : Nat) (hd : ∀ k, d.getD k 0 < 256) (hk : k < d.length) (hz : RestZero d n) : pbyte (bitsOf d n) k = d.getD k 0 := by
  have hb : ∀ r, r < 8 → (bitsOf d n).getD (8 * k + r) 0 = d.getD k 0 / 2 ^ (7 - r) % 2 := by
    intro r hr
    have e : bitAt d (8 * k + r) = d.getD k 0 / 2 ^ (7 - r) % 2 := by
      unfold bitAt
      rw [show (8 * k + r) / 8 = k by omega, show (8 * k + r) % 8 = r by omega]
    rcases Nat.lt_or_ge (8 * k + r) n with h | h
    · rw [bitsOf_getD _ _ _ h, e]
    · rw [getD_ge (by rw [bitsOf_length]; exact h), ← e]
      exact (hz _ h (by omega)).symm
  unfold pbyte
  have h0 := hb 0 (by decide)
  simp only [Nat.add_zero] at h0
  rw [h0, hb 1 (by decide), hb 2 (by decide), hb 3 (by decide), hb 4 (by decide), hb 5 (by decide), hb 6 (by decide), hb 7 (by decide)]
  have := byte_of_bits (d.getD k 0) (hd k)
  simp only [Nat.reduceSub, Nat.reducePow, Nat.div_one]
  omega
/-- Valid bytes are the packed form of their bits. -/
theorem pack_bitsOf (d : List Nat) (n : Nat) (hd : ∀ k, d.getD k 0 < 256) (hn : d.length = (n + 7) / 8) (hz : RestZero d n) : pack (bitsOf d n) = d := by
  refine ext_getD (by rw [pack_length, bitsOf_length, hn]) fun k hk => ?_
  rw [pack_length, bitsOf_length] at hk
  rw [pack_getD_any, pbyte_bitsOf d n k hd (by omega) hz]
theorem pack_rest {l : List Nat} (h : Is01 l) : RestZero (pack l) l.length := by
  intro i hi _
  rw [bitAt_pack h, getD_ge hi]
theorem pack_inj {a b : List Nat} (ha : Is01 a) (hb : Is01 b) (hl : a.length = b.length) (h : pack a = pack b) : a = b := by
  rw [← bitsOf_pack ha, ← bitsOf_pack hb, h, hl]

/-- The last byte, moved to the left by the bits that are in use, is 0: the test of 'valid'. -/
theorem rest_iff (d : List Nat) (n : Nat) (hd : ∀ k, d.getD k 0 < 256) (hn : d.length = (n + 7) / 8) :
    RestZero d n ↔ (n % 8 = 0 ∨ d.getD (d.length - 1) 0 * 2 ^ (n % 8) % 256 = 0) := by
  have hlt := hd (d.length - 1)
  have key : ∀ x r : Nat, x < 256 → r < 8 → 0 < r → ((∀ s, r ≤ s → s < 8 → x / 2 ^ (7 - s) % 2 = 0) ↔ x * 2 ^ r % 256 = 0) := by
    intro x r hx hr hr0
    have a7 : r ≤ 7 := by omega
    constructor
    · intro h
      have g := fun s (h1 : r ≤ s) (h2 : s < 8) => h s h1 h2
      rcases (by omega : r = 1 ∨ r = 2 ∨ r = 3 ∨ r = 4 ∨ r = 5 ∨ r = 6 ∨ r = 7) with rfl | rfl | rfl | rfl | rfl | rfl | rfl
      · have g1 := g 1 (by omega) (by omega); have g2 := g 2 (by omega) (by omega); have g3 := g 3 (by omega) (by omega); have g4 := g 4 (by omega) (by omega); have g5 := g 5 (by omega) (by omega); have g6 := g 6 (by omega) (by omega); have g7 := g 7 (by omega) (by omega); clear g h; simp only [Nat.reduceSub, Nat.reducePow] at *; omega
      · have g2 := g 2 (by omega) (by omega); have g3 := g 3 (by omega) (by omega); have g4 := g 4 (by omega) (by omega); have g5 := g 5 (by omega) (by omega); have g6 := g 6 (by omega) (by omega); have g7 := g 7 (by omega) (by omega); clear g h; simp only [Nat.reduceSub, Nat.reducePow] at *; omega
      · have g3 := g 3 (by omega) (by omega); have g4 := g 4 (by omega) (by omega); have g5 := g 5 (by omega) (by omega); have g6 := g 6 (by omega) (by omega); have g7 := g 7 (by omega) (by omega); clear g h; simp only [Nat.reduceSub, Nat.reducePow] at *; omega
      · have g4 := g 4 (by omega) (by omega); have g5 := g 5 (by omega) (by omega); have g6 := g 6 (by omega) (by omega); have g7 := g 7 (by omega) (by omega); clear g h; simp only [Nat.reduceSub, Nat.reducePow] at *; omega
      · have g5 := g 5 (by omega) (by omega); have g6 := g 6 (by omega) (by omega); have g7 := g 7 (by omega) (by omega); clear g h; simp only [Nat.reduceSub, Nat.reducePow] at *; omega
      · have g6 := g 6 (by omega) (by omega); have g7 := g 7 (by omega) (by omega); clear g h; simp only [Nat.reduceSub, Nat.reducePow] at *; omega
      · have g7 := g 7 (by omega) (by omega); clear g h; simp only [Nat.reduceSub, Nat.reducePow] at *; omega
    · intro h s h1 h2
      rcases (by omega : r = 1 ∨ r = 2 ∨ r = 3 ∨ r = 4 ∨ r = 5 ∨ r = 6 ∨ r = 7) with rfl | rfl | rfl | rfl | rfl | rfl | rfl <;>
      rcases (by omega : s = 0 ∨ s = 1 ∨ s = 2 ∨ s = 3 ∨ s = 4 ∨ s = 5 ∨ s = 6 ∨ s = 7) with rfl | rfl | rfl | rfl | rfl | rfl | rfl | rfl <;>
      simp only [Nat.reduceSub, Nat.reducePow] at * <;> omega
  by_cases h8 : n % 8 = 0
  · simp only [h8, true_or, iff_true]
    intro i h1 h2
    omega
  · have hk := key (d.getD (d.length - 1) 0) (n % 8) hlt (by omega) (by omega)
    simp only [h8, false_or]
    rw [← hk]
    constructor
    · intro h s h1 h2
      have := h (8 * (d.length - 1) + s) (by omega) (by omega)
      unfold bitAt at this
      rwa [show (8 * (d.length - 1) + s) / 8 = d.length - 1 by omega, show (8 * (d.length - 1) + s) % 8 = s by omega] at this
    · intro h i h1 h2
      have := h (i % 8) (by omega) (by omega)
      unfold bitAt
      rwa [show i / 8 = d.length - 1 by omega]

/-- One bit more, where a new byte begins. -/
theorem pack_snoc_new (l : List Nat) (b : Nat) (h : l.length % 8 = 0) : pack (l ++ [b]) = pack l ++ [b * 128] := by
  refine ext_getD (by simp [pack_length]; omega) fun k hk => ?_
  rw [pack_length] at hk
  simp only [List.length_append, List.length_singleton] at hk
  rw [pack_getD_any]
  rcases Nat.lt_or_ge k (l.length / 8) with hk' | hk'
  · rw [getD_append_lt (by rw [pack_length]; omega), pack_getD_any]
    unfold pbyte
    rw [getD_append_lt (by omega), getD_append_lt (by omega), getD_append_lt (by omega), getD_append_lt (by omega), getD_append_lt (by omega), getD_append_lt (by omega), getD_append_lt (by omega), getD_append_lt (by omega)]
  · obtain rfl : k = l.length / 8 := by omega
    rw [getD_append_ge (by rw [pack_length]; omega), pack_length]
    have e : l.length / 8 - (l.length + 7) / 8 = 0 := by omega
    rw [e]
    unfold pbyte
    rw [show 8 * (l.length / 8) = l.length by omega, getD_append_ge (Nat.le_refl _), getD_ge (i := l.length + 1) (by simp), getD_ge (i := l.length + 2) (by simp), getD_ge (i := l.length + 3) (by simp), getD_ge (i := l.length + 4) (by simp), getD_ge (i := l.length + 5) (by simp), getD_ge (i := l.length + 6) (by simp), getD_ge (i := l.length + 7) (by simp)]
    simp
theorem getD_set (l : List Nat) (i j v : Nat) (hi : i < l.length) : (l.set i v).getD j 0 = if j = i then v else l.getD j 0 := by
  simp only [List.getD_eq_getElem?_getD, List.getElem?_set]
  by_cases h : i = j
  · subst h; simp [hi]
  · rw [if_neg h, if_neg (fun e => h e.symm)]
/-- One bit more, in the last byte. -/
theorem pack_snoc_old {l : List Nat} (b : Nat) (h : l.length % 8 ≠ 0) :
    pack (l ++ [b]) = (pack l).set (l.length / 8) ((pack l).getD (l.length / 8) 0 + b * 2 ^ (7 - l.length % 8)) := by
  refine ext_getD (by simp [pack_length]; omega) fun k hk => ?_
  rw [pack_length] at hk
  simp only [List.length_append, List.length_singleton] at hk
  rw [pack_getD_any, getD_set _ _ _ _ (by rw [pack_length]; omega)]
  by_cases hkk : k = l.length / 8
  · rw [if_pos hkk]
    subst hkk
    rw [pack_getD_any]
    have hd : ∀ r, r < 8 → (l ++ [b]).getD (8 * (l.length / 8) + r) 0 = if r = l.length % 8 then b else l.getD (8 * (l.length / 8) + r) 0 := by
      intro r hr
      by_cases h1 : r < l.length % 8
      · rw [getD_append_lt (by omega), if_neg (by omega)]
      · by_cases h2 : r = l.length % 8
        · rw [if_pos h2, getD_append_ge (by omega), show 8 * (l.length / 8) + r - l.length = 0 by omega]; rfl
        · rw [if_neg h2, getD_ge (by simp; omega), getD_ge (by omega)]
    have hz : ∀ r, l.length % 8 ≤ r → l.getD (8 * (l.length / 8) + r) 0 = 0 := fun r hr => getD_ge (by omega)
    have d0 := hd 0 (by decide)
    simp only [Nat.add_zero] at d0
    have d1 := hd 1 (by decide); have d2 := hd 2 (by decide); have d3 := hd 3 (by decide); have d4 := hd 4 (by decide); have d5 := hd 5 (by decide); have d6 := hd 6 (by decide); have d7 := hd 7 (by decide)
    have z0 := hz (l.length % 8) (Nat.le_refl _)
    unfold pbyte
    rw [d0, d1, d2, d3, d4, d5, d6, d7]
    clear d0 d1 d2 d3 d4 d5 d6 d7 hd hz hk
    have hm : l.length % 8 < 8 := Nat.mod_lt _ (by decide)
    generalize l.length % 8 = m at *
    generalize l.length / 8 = q at *
    rcases (by omega : m = 1 ∨ m = 2 ∨ m = 3 ∨ m = 4 ∨ m = 5 ∨ m = 6 ∨ m = 7) with rfl | rfl | rfl | rfl | rfl | rfl | rfl <;> simp at * <;> omega
  · rw [if_neg hkk, pack_getD_any]
    unfold pbyte
    rcases Nat.lt_or_ge k (l.length / 8) with h1 | h1
    · rw [getD_append_lt (by omega), getD_append_lt (by omega), getD_append_lt (by omega), getD_append_lt (by omega), getD_append_lt (by omega), getD_append_lt (by omega), getD_append_lt (by omega), getD_append_lt (by omega)]
    · omega
/-- The bits of the last byte from the count on are 0. -/
theorem pack_low {l : List Nat} (h : l.length % 8 ≠ 0) : (pack l).getD (l.length / 8) 0 % 2 ^ (8 - l.length % 8) = 0 := by
  rw [pack_getD_any]
  have hz : ∀ r, l.length % 8 ≤ r → l.getD (8 * (l.length / 8) + r) 0 = 0 := fun r hr => getD_ge (by omega)
  unfold pbyte
  have hm : l.length % 8 < 8 := Nat.mod_lt _ (by decide)
  generalize l.length % 8 = m at *
  generalize l.length / 8 = q at *
  have z1 := hz 1; have z2 := hz 2; have z3 := hz 3; have z4 := hz 4; have z5 := hz 5; have z6 := hz 6; have z7 := hz 7
  clear hz
  rcases (by omega : m = 1 ∨ m = 2 ∨ m = 3 ∨ m = 4 ∨ m = 5 ∨ m = 6 ∨ m = 7) with rfl | rfl | rfl | rfl | rfl | rfl | rfl <;> simp at * <;> omega
/-- The number of some bits. -/
def num (l : List Nat) : Nat := l.foldl (fun n b => 2 * n + b) 0
theorem num_snoc (l : List Nat) (b : Nat) : num (l ++ [b]) = 2 * num l + b := by simp [num]
theorem num_nil : num [] = 0 := rfl
theorem num_foldl (l : List Nat) : ∀ n, l.foldl (fun n b => 2 * n + b) n = n * 2 ^ l.length + num l := by
  induction l with
  | nil => intro n; simp [num]
  | cons a l ih =>
    intro n
    unfold num
    rw [List.foldl_cons, List.foldl_cons, ih, ih (2 * 0 + a), List.length_cons, Nat.pow_succ]
    rw [Nat.mul_comm (2 ^ l.length) 2, ← Nat.mul_assoc, Nat.mul_comm n 2, Nat.mul_zero, Nat.zero_add, Nat.add_mul]
    omega
theorem num_cons (a : Nat) (l : List Nat) : num (a :: l) = a * 2 ^ l.length + num l := by
  show l.foldl _ (2 * 0 + a) = _
  rw [num_foldl]; simp
theorem num_append (a b : List Nat) : num (a ++ b) = num a * 2 ^ b.length + num b := by
  unfold num
  rw [List.foldl_append, num_foldl]; rfl
theorem num_lt {l : List Nat} (h : Is01 l) : num l < 2 ^ l.length := by
  induction l with
  | nil => simp [num]
  | cons a l ih =>
    have ha : a < 2 := h.mem (by simp)
    have := ih (Is01.of_mem fun _ hx => h.mem (List.mem_cons_of_mem _ hx))
    rw [num_cons, List.length_cons, Nat.pow_succ]
    rcases (by omega : a = 0 ∨ a = 1) with rfl | rfl <;> omega
end PB
end Go.Proofs.Ytgbabhihmbeogaa
