/-
  Plain facts on an arithmetic coder: decoding a code gives the bits back; likely bits have a short code. Nothing of Go and no program stands in this text.
-/
import Derived.Test.YtnnpkajmheglgaaArPlain2
namespace Go.Proofs.Ytnnpkajmheglgaa
set_option linter.unusedVariables false
set_option linter.unusedSimpArgs false
namespace PB
/-- The number that digits stand for. -/
def dval : List Nat → Nat
  | [] => 0
  | d :: r => d * 2 ^ r.length + dval r
theorem dval_res (ds : List Nat) : dval ds = (res ds).1 * 2 ^ ds.length + num (res ds).2 := by
  induction ds with
  | nil => rfl
  | cons d r ih =>
    rw [dval, ih, res]
    dsimp only
    rw [num_cons, res_length, List.length_cons, Nat.pow_succ]
    have e : (res r).1 + d = 2 * (((res r).1 + d) / 2) + ((res r).1 + d) % 2 := by omega
    have e2 : d * 2 ^ r.length + (res r).1 * 2 ^ r.length = ((res r).1 + d) * 2 ^ r.length := by rw [← Nat.add_mul, Nat.add_comm]
    rw [← Nat.add_assoc, e2]
    generalize ((res r).1 + d) / 2 = q at e ⊢
    generalize ((res r).1 + d) % 2 = m at e ⊢
    rw [e, Nat.add_mul, Nat.add_assoc]
    congr 1
    rw [Nat.mul_comm 2 q, Nat.mul_assoc, Nat.mul_comm 2 (2 ^ r.length)]
theorem dval_zero (r : List Nat) : dval (0 :: r) = dval r := by rw [dval]; omega
/-- A number between the ends of a range. -/
def BD (lo hi : Int) (T : List Nat) : Prop := lo * 2 ^ T.length ≤ 32768 * (dval T : Nat) ∧ 32768 * ((dval T : Nat) : Int) < (hi + 1) * 2 ^ T.length
theorem ipow_succ (n : Nat) : (2 : Int) ^ (n + 1) = 2 * 2 ^ n := by rw [Int.pow_succ, Int.mul_comm]
theorem ipow_pos (n : Nat) : (0 : Int) < 2 ^ n := by rw [two_pow_cast]; exact Int.ofNat_lt.2 (Nat.two_pow_pos n)
theorem dval_cons_int (k : Nat) (T : List Nat) : ((dval (k :: T) : Nat) : Int) = (k : Nat) * 2 ^ T.length + (dval T : Nat) := by
  rw [dval, two_pow_cast]; simp
theorem bd_back {lo hi : Int} {k : Nat} {T : List Nat} (h : BD (2 * (lo - 16384 * (k : Nat))) (2 * (hi - 16384 * (k : Nat)) + 1) T) : BD lo hi (k :: T) := by
  obtain ⟨h1, h2⟩ := h
  unfold BD
  rw [dval_cons_int, List.length_cons, ipow_succ]
  generalize (2 : Int) ^ T.length = P at *
  generalize ((dval T : Nat) : Int) = D at *
  have e1 : 2 * (lo - 16384 * (k : Int)) * P = 2 * (lo * P) - 32768 * ((k : Int) * P) := by rw [Int.mul_assoc, Int.sub_mul, Int.mul_sub, Int.mul_assoc 16384]; omega
  have e2 : (2 * (hi - 16384 * (k : Int)) + 1 + 1) * P = 2 * (hi * P) - 32768 * ((k : Int) * P) + 2 * P := by
    rw [Int.add_mul, Int.add_mul, Int.mul_assoc, Int.sub_mul, Int.mul_sub, Int.mul_assoc 16384]; omega
  rw [e1] at h1
  rw [e2] at h2
  have e3 : lo * (2 * P) = 2 * (lo * P) := by rw [Int.mul_left_comm]
  have e4 : (hi + 1) * (2 * P) = 2 * (hi * P) + 2 * P := by rw [Int.add_mul, Int.mul_left_comm, Int.one_mul]
  rw [e3, e4, Int.mul_add]
  generalize lo * P = x at *
  generalize hi * P = y at *
  generalize (k : Int) * P = z at *
  omega
theorem bd_dbl {T : List Nat} : ∀ f lo hi, BD (dbl f lo hi).1 (dbl f lo hi).2.1 T → BD lo hi ((dbl f lo hi).2.2 ++ T) := by
  intro f
  induction f with
  | zero => intro lo hi h; exact h
  | succ f ih =>
    intro lo hi h
    rcases ht : twc lo hi with _ | k
    · rw [dbl_none ht] at h ⊢; exact h
    · rw [dbl_some ht] at h ⊢
      exact bd_back (ih _ _ h)
theorem bd_mono {lo hi lo2 hi2 : Int} {T : List Nat} (h : BD lo2 hi2 T) (h1 : lo ≤ lo2) (h2 : hi2 ≤ hi) : BD lo hi T := by
  have hp := ipow_pos T.length
  obtain ⟨a, b⟩ := h
  refine ⟨Int.le_trans (Int.mul_le_mul_of_nonneg_right h1 (by omega)) a, Int.lt_of_lt_of_le b (Int.mul_le_mul_of_nonneg_right (by omega) (by omega))⟩
theorem part_in {lo hi p : Int} (b : Nat) (h : Wid lo hi) (h1 : 1 ≤ p) (h2 : p ≤ 4095) : lo ≤ (partOf lo hi b p).1 ∧ (partOf lo hi b p).2 ≤ hi := by
  have := split_in h h1 h2
  unfold partOf
  split <;> (dsimp only; omega)
/-- The digits that choices leave, the last one among them. -/
def tailOf (cs : List Cho) (lo hi : Int) : List Nat := (erun cs lo hi).2.2 ++ [if (erun cs lo hi).1 < 16384 then 1 else 2]
theorem tail_cons (c : Cho) (r : List Cho) (lo hi : Int) : tailOf (c :: r) lo hi = (stp lo hi c.n c.p).2.2 ++ tailOf r (stp lo hi c.n c.p).1 (stp lo hi c.n c.p).2.1 := by
  unfold tailOf
  rw [erun]
  simp
theorem bd_tail : ∀ (cs : List Cho), AllCho cs → ∀ lo hi, Wid lo hi → BD lo hi (tailOf cs lo hi) := by
  intro cs
  induction cs with
  | nil =>
    intro _ lo hi h
    obtain ⟨h1, h2, h3, h4, h5⟩ := h
    show BD lo hi [if lo < 16384 then 1 else 2]
    split <;> (unfold BD; simp [dval]; omega)
  | cons c r ih =>
    intro hall lo hi h
    obtain ⟨_, h2, h3⟩ := hall c List.mem_cons_self
    obtain ⟨s1, _, _, _⟩ := stp_facts c.n h h2 h3
    have a := ih (fun x hx => hall x (List.mem_cons_of_mem _ hx)) _ _ s1
    rw [tail_cons]
    have b := bd_dbl (T := tailOf r (stp lo hi c.n c.p).1 (stp lo hi c.n c.p).2.1) 20 (partOf lo hi c.n c.p).1 (partOf lo hi c.n c.p).2 a
    obtain ⟨p1, p2⟩ := part_in c.n h h2 h3
    exact bd_mono b p1 p2
/-- So many bits of a code, from a position. -/
def rb (l : List Nat) (t n : Nat) : Nat := num ((List.range n).map fun i => l.getD (t + i) 0)
theorem rb_lt {l : List Nat} (h01 : Is01 l) (t n : Nat) : rb l t n < 2 ^ n := by
  have : Is01 ((List.range n).map fun i => l.getD (t + i) 0) := Is01.of_mem fun x hx => by
    obtain ⟨i, _, rfl⟩ := List.mem_map.1 hx
    exact h01 _
  have h := num_lt this
  rw [List.length_map, List.length_range] at h
  exact h
theorem rb_succ (l : List Nat) (t n : Nat) : rb l t (n + 1) = l.getD t 0 * 2 ^ n + rb l (t + 1) n := by
  unfold rb
  rw [List.range_succ_eq_map, List.map_cons, num_cons, List.map_map, List.length_map, List.length_range]
  congr 2
  apply List.map_congr_left
  intro i _
  show l.getD (t + (i + 1)) 0 = l.getD (t + 1 + i) 0
  rw [show t + (i + 1) = t + 1 + i by omega]
/-- The decoder's value and the rest of the code are the digits' number. -/
def DR (l : List Nat) (V : Int) (t : Nat) (T : List Nat) : Prop := 32768 * ((dval T : Nat) : Int) = V * 2 ^ T.length + (rb l t T.length : Nat)
theorem dr_step {l : List Nat} {V : Int} {t k : Nat} {T : List Nat} (h : DR l V t (k :: T)) : DR l (2 * (V - 16384 * (k : Nat)) + (l.getD t 0 : Nat)) (t + 1) T := by
  unfold DR at h ⊢
  rw [dval_cons_int, List.length_cons, ipow_succ, rb_succ] at h
  rw [Int.natCast_add, Int.natCast_mul, ← two_pow_cast] at h
  generalize (2 : Int) ^ T.length = P at *
  generalize ((dval T : Nat) : Int) = D at *
  generalize ((rb l (t + 1) T.length : Nat) : Int) = R at *
  generalize ((l.getD t 0 : Nat) : Int) = x at *
  have e1 : (2 * (V - 16384 * (k : Int)) + x) * P = 2 * (V * P) - 32768 * ((k : Int) * P) + x * P := by rw [Int.add_mul, Int.mul_assoc, Int.sub_mul, Int.mul_sub, Int.mul_assoc 16384]; omega
  have e2 : V * (2 * P) = 2 * (V * P) := by rw [Int.mul_left_comm]
  rw [e1]
  rw [e2, Int.mul_add] at h
  omega
theorem dr_run {l : List Nat} {T : List Nat} : ∀ ks V t, DR l V t (ks ++ T) → DR l (dv l ks V t) (t + ks.length) T := by
  intro ks
  induction ks with
  | nil => intro V t h; exact h
  | cons k r ih =>
    intro V t h
    have := ih _ _ (dr_step h)
    rw [List.length_cons, show t + (r.length + 1) = t + 1 + r.length by omega]
    exact this
theorem dr_pick {l : List Nat} (h01 : Is01 l) {d : DS} {c : Cho} {T : List Nat} (hc : c.ok) (hD : DR l d.V d.at_ T) (hB : BD (partOf d.lo d.hi c.n c.p).1 (partOf d.lo d.hi c.n c.p).2 T) : pickb d c.p = c.n := by
  unfold DR at hD
  have hr := rb_lt h01 d.at_ T.length
  have hr2 : ((rb l d.at_ T.length : Nat) : Int) < 2 ^ T.length := by rw [two_pow_cast]; omega
  have hp := ipow_pos T.length
  obtain ⟨b1, b2⟩ := hB
  rw [hD] at b1 b2
  have hn := hc.n_le
  unfold pickb
  by_cases h1 : c.n = 1
  · rw [h1] at b2 ⊢
    unfold partOf at b2
    rw [if_pos rfl] at b2
    dsimp only at b2
    rw [if_pos]
    have : d.V * 2 ^ T.length < (splitOf d.lo d.hi c.p + 1) * 2 ^ T.length := by omega
    have := Int.lt_of_mul_lt_mul_right this (by omega)
    omega
  · have h0 : c.n = 0 := by omega
    rw [h0] at b1 ⊢
    unfold partOf at b1
    rw [if_neg (by decide)] at b1
    dsimp only at b1
    rw [if_neg]
    have : (splitOf d.lo d.hi c.p + 1) * 2 ^ T.length < (d.V + 1) * 2 ^ T.length := by rw [Int.add_mul d.V, Int.one_mul]; omega
    have := Int.lt_of_mul_lt_mul_right this (by omega)
    omega
theorem round_run {l : List Nat} (h01 : Is01 l) : ∀ (cs : List Cho), AllCho cs → ∀ d : DS, Wid d.lo d.hi → DR l d.V d.at_ (tailOf cs d.lo d.hi) →
    dbits l (cs.map Cho.p) d = cs.map Cho.n ∧ (drun l (cs.map Cho.p) d).at_ = d.at_ + (erun cs d.lo d.hi).2.2.length := by
  intro cs
  induction cs with
  | nil => intro _ d _ _; exact ⟨rfl, rfl⟩
  | cons c r ih =>
    intro hall d hw hD
    have hc := hall c List.mem_cons_self
    obtain ⟨_, h2, h3⟩ := hc
    have hr : AllCho r := fun x hx => hall x (List.mem_cons_of_mem _ hx)
    obtain ⟨s1, _, _, _⟩ := stp_facts c.n hw h2 h3
    have hB := bd_dbl (T := tailOf r (stp d.lo d.hi c.n c.p).1 (stp d.lo d.hi c.n c.p).2.1) 20 (partOf d.lo d.hi c.n c.p).1 (partOf d.lo d.hi c.n c.p).2 (bd_tail r hr _ _ s1)
    rw [tail_cons] at hD
    have hpk := dr_pick h01 (hall c List.mem_cons_self) hD hB
    have hD2 := dr_run _ _ _ hD
    have e : dstep l d c.p = ⟨(stp d.lo d.hi c.n c.p).1, (stp d.lo d.hi c.n c.p).2.1, dv l (stp d.lo d.hi c.n c.p).2.2 d.V d.at_, d.at_ + (stp d.lo d.hi c.n c.p).2.2.length⟩ := by
      unfold dstep dks
      rw [hpk]
    obtain ⟨i1, i2⟩ := ih hr (dstep l d c.p) (by rw [e]; exact s1) (by rw [e]; exact hD2)
    refine ⟨?_, ?_⟩
    · rw [List.map_cons, dbits, hpk, i1, List.map_cons]
    · show (drun l (r.map Cho.p) (dstep l d c.p)).at_ = _
      rw [i2, e, erun]
      dsimp only
      rw [List.length_append]
      omega
theorem num_zeros (l : List Nat) (n : Nat) : num (l ++ List.replicate n 0) = num l * 2 ^ n := by
  rw [num_append, List.length_replicate]
  have : num (List.replicate n 0) = 0 := by
    induction n with
    | zero => rfl
    | succ n ih => rw [List.replicate_succ, num_cons, ih]; omega
  omega
theorem dr_init {cs : List Cho} (h : AllCho cs) : DR (acode cs) (dinit (acode cs)).V 16 (tailOf cs 0 65535) := by
  have hlen := acode_length cs
  have e1 : dval (tailOf cs 0 65535) = num (acode cs) := by
    have := dval_res (digsOf cs)
    rw [code_digs h] at this
    have e2 : digsOf cs = 0 :: tailOf cs 0 65535 := rfl
    rw [e2, dval_zero] at this
    rw [this]; simp
  have e3 : (tailOf cs 0 65535).length = (acode cs).length - 1 := by unfold tailOf; rw [List.length_append, List.length_singleton]; omega
  unfold DR
  rw [e1, e3]
  obtain ⟨l, hl⟩ : ∃ l, l = acode cs := ⟨_, rfl⟩
  rw [← hl] at hlen ⊢
  clear hl e1 e3
  have hn : 2 ≤ l.length := by omega
  -- the first 16 bits, and those behind them, are the code with 15 zeros
  have e4 : ((List.range 16).map fun i => l.getD i 0) ++ ((List.range (l.length - 1)).map fun i => l.getD (16 + i) 0) = l ++ List.replicate 15 0 := by
    apply ext_getD
    · simp; omega
    · intro i hi
      rw [List.length_append, List.length_map, List.length_map, List.length_range, List.length_range] at hi
      have a : ((List.range 16).map (fun i => l.getD i 0) ++ (List.range (l.length - 1)).map fun i => l.getD (16 + i) 0).getD i 0 = l.getD i 0 := by
        rcases Nat.lt_or_ge i 16 with h | h
        · rw [getD_append_lt (by rw [List.length_map, List.length_range]; exact h), getD_map_range _ _ _ h]
        · rw [getD_append_ge (by rw [List.length_map, List.length_range]; exact h), List.length_map, List.length_range, getD_map_range _ _ _ (by omega), show 16 + (i - 16) = i by omega]
      rw [a]
      rcases Nat.lt_or_ge i l.length with h | h
      · rw [getD_append_lt h]
      · rw [getD_ge h, getD_append_ge h]
        rcases Nat.lt_or_ge (i - l.length) 15 with h2 | h2
        · rw [getD_lt (by rw [List.length_replicate]; exact h2), List.getElem_replicate]
        · rw [getD_ge (by rw [List.length_replicate]; exact h2)]
  have e5 := congrArg num e4
  rw [num_zeros, num_append, List.length_map, List.length_range] at e5
  unfold dinit rb
  dsimp only
  rw [two_pow_cast, ← Int.natCast_mul, ← Int.natCast_add, e5]
  simp
  omega
/-- Decoding the code of choices gives their bits back, and ends just behind the code. -/
theorem round_trip {cs : List Cho} (h : AllCho cs) : dbits (acode cs) (cs.map Cho.p) (dinit (acode cs)) = cs.map Cho.n ∧ (drun (acode cs) (cs.map Cho.p) (dinit (acode cs))).at_ = (acode cs).length + 14 := by
  obtain ⟨a, b⟩ := round_run (acode_01 h) cs h (dinit (acode cs)) wid0 (dr_init h)
  refine ⟨a, ?_⟩
  rw [b, acode_length]
  show 16 + (erun cs 0 65535).2.2.length = _
  omega
/-! Likely bits. -/
def Likely (cs : List Cho) : Prop := ∀ c ∈ cs, (c.n = 1 → 2048 ≤ c.p) ∧ (c.n = 0 → c.p ≤ 2048)
theorem likely_part {lo hi p : Int} {b : Nat} (h : Wid lo hi) (hb : b ≤ 1) (h1 : 1 ≤ p) (h2 : p ≤ 4095) (k1 : b = 1 → 2048 ≤ p) (k0 : b = 0 → p ≤ 2048) : hi - lo + 1 - 1 ≤ 2 * ((partOf lo hi b p).2 - (partOf lo hi b p).1 + 1) := by
  obtain ⟨a1, a2⟩ := wid_size h
  rw [part_size]
  generalize hi - lo + 1 = s at *
  by_cases hb1 : b = 1
  · rw [if_pos hb1]
    have : s * 2048 ≤ s * p := Int.mul_le_mul_of_nonneg_left (k1 hb1) (by omega)
    generalize s * p = m at *
    omega
  · rw [if_neg hb1]
    have : s * p ≤ s * 2048 := Int.mul_le_mul_of_nonneg_left (k0 (by omega)) (by omega)
    generalize s * p = m at *
    omega
theorem likely_lin {X Y M B C : Int} (hC : C = 16386) (hX : 16385 * Y ≤ C * X) (h : 65536 * (C * B - M) ≤ Y * C) (hM : 0 ≤ M) : 65536 * (C * B - M - B) ≤ X * C := by
  have h2 : 65536 * (16385 * (C * B - M)) ≤ C * (X * C) := by
    have a : 16385 * (65536 * (C * B - M)) ≤ 16385 * (Y * C) := Int.mul_le_mul_of_nonneg_left h (by decide)
    have b : C * (16385 * Y) ≤ C * (C * X) := Int.mul_le_mul_of_nonneg_left hX (by omega)
    have e1 : 16385 * (65536 * (C * B - M)) = 65536 * (16385 * (C * B - M)) := Int.mul_left_comm _ _ _
    have e2 : 16385 * (Y * C) = C * (16385 * Y) := by rw [Int.mul_comm Y C, Int.mul_left_comm]
    have e3 : C * (C * X) = C * (X * C) := by rw [Int.mul_comm C X]
    rw [e1, e2] at a
    rw [e3] at b
    exact Int.le_trans a b
  have h3 : C * (65536 * (C * B - M - B)) ≤ C * (X * C) := by
    refine Int.le_trans ?_ h2
    have e1 : C * (65536 * (C * B - M - B)) = 65536 * (C * (C * B - M - B)) := Int.mul_left_comm _ _ _
    rw [e1]
    refine Int.mul_le_mul_of_nonneg_left ?_ (by decide)
    have e2 : C * (C * B - M - B) = C * (C * B - M) - C * B := by rw [Int.mul_sub C (C * B - M) B]
    rw [e2]
    have e5 : C * B - M ≤ C * B := by omega
    generalize C * B - M = Z at *
    have e4 : C * Z = 16385 * Z + Z := by rw [hC]; omega
    omega
  exact Int.le_of_mul_le_mul_left h3 (by omega)
theorem likely_run : ∀ (cs : List Cho), AllCho cs → Likely cs → ∀ lo hi, Wid lo hi → ∀ k n : Nat, k + cs.length ≤ 16386 →
    65536 * ((16386 - (k : Int)) * 2 ^ n) ≤ (hi - lo + 1) * 2 ^ k * 16386 →
    65536 * ((16386 - ((k + cs.length : Nat) : Int)) * 2 ^ (n + (erun cs lo hi).2.2.length)) ≤ ((erun cs lo hi).2.1 - (erun cs lo hi).1 + 1) * 2 ^ (k + cs.length) * 16386 := by
  intro cs
  induction cs with
  | nil => intro _ _ lo hi _ k n _ h; exact h
  | cons c r ih =>
    intro hall hlik lo hi hw k n hk h
    have hc := hall c List.mem_cons_self
    obtain ⟨_, h2, h3⟩ := hc
    obtain ⟨l1, l0⟩ := hlik c List.mem_cons_self
    obtain ⟨s1, _, _, s4⟩ := stp_facts c.n hw h2 h3
    have hpt := likely_part hw (hall c List.mem_cons_self).n_le h2 h3 l1 l0
    obtain ⟨z1, z2⟩ := wid_size hw
    rw [List.length_cons] at hk
    have key : 65536 * ((16386 - ((k + 1 : Nat) : Int)) * 2 ^ (n + (stp lo hi c.n c.p).2.2.length)) ≤ ((stp lo hi c.n c.p).2.1 - (stp lo hi c.n c.p).1 + 1) * 2 ^ (k + 1) * 16386 := by
      rw [s4]
      generalize (partOf lo hi c.n c.p).2 - (partOf lo hi c.n c.p).1 + 1 = pt at hpt ⊢
      generalize hi - lo + 1 = s at *
      rw [Int.pow_add, ipow_succ k]
      have pA := ipow_pos k
      have pB := ipow_pos n
      have pT := ipow_pos (stp lo hi c.n c.p).2.2.length
      generalize (2 : Int) ^ (stp lo hi c.n c.p).2.2.length = t at *
      generalize (2 : Int) ^ k = A at *
      generalize (2 : Int) ^ n = B at *
      have q1 : s * 16385 * A ≤ 2 * pt * 16386 * A := Int.mul_le_mul_of_nonneg_right (by omega) (by omega)
      have q2 : s * 16385 * A = 16385 * (s * A) := by rw [Int.mul_comm s, Int.mul_assoc]
      have q3 : 2 * pt * 16386 * A = 16386 * (2 * pt * A) := by rw [Int.mul_comm (2 * pt) 16386, Int.mul_assoc]
      have q4 : (16386 - (k : Int)) * B = 16386 * B - (k : Int) * B := by rw [Int.sub_mul]
      have q5 : (16386 - ((k + 1 : Nat) : Int)) * B = 16386 * B - (k : Int) * B - B := by
        rw [Int.sub_mul, Int.natCast_add, Int.add_mul]; simp; omega
      have q6 : 0 ≤ (k : Int) * B := Int.mul_nonneg (by omega) (by omega)
      have q7 : 65536 * ((16386 - ((k + 1 : Nat) : Int)) * B) ≤ 2 * pt * A * 16386 := by
        rw [q5]
        rw [q4] at h
        exact likely_lin rfl (show 16385 * (s * A) ≤ 16386 * (2 * pt * A) by omega) h q6
      have q8 := Int.mul_le_mul_of_nonneg_right q7 (Int.le_of_lt pT)
      have e1 : 65536 * ((16386 - ((k + 1 : Nat) : Int)) * B) * t = 65536 * ((16386 - ((k + 1 : Nat) : Int)) * (B * t)) := by rw [Int.mul_assoc, Int.mul_assoc]
      have e2 : 2 * pt * A * 16386 * t = pt * t * (2 * A) * 16386 := by
        rw [Int.mul_right_comm (2 * pt * A) 16386 t, Int.mul_comm 2 pt, Int.mul_assoc pt 2 A, Int.mul_right_comm pt (2 * A) t]
      rw [e1, e2] at q8
      exact q8
    have := ih (fun x hx => hall x (List.mem_cons_of_mem _ hx)) (fun x hx => hlik x (List.mem_cons_of_mem _ hx)) _ _ s1 (k + 1) (n + (stp lo hi c.n c.p).2.2.length) (by omega) key
    rw [erun]
    dsimp only
    rw [List.length_append, List.length_cons, ← Nat.add_assoc n, show k + (r.length + 1) = k + 1 + r.length by omega]
    exact this
theorem likely_short {cs : List Cho} (h : AllCho cs) (hl : Likely cs) (hn : cs.length ≤ 8192) : (acode cs).length ≤ cs.length + 2 := by
  rw [acode_length]
  have a := likely_run cs h hl 0 65535 wid0 0 0 (by omega) (by simp)
  obtain ⟨w, _, _⟩ := erun_facts cs h 0 65535 wid0
  have z := (wid_size w).2
  rw [Nat.zero_add, Nat.zero_add] at a
  rcases Nat.lt_or_ge cs.length (erun cs 0 65535).2.2.length with hc | hc
  · exfalso
    obtain ⟨j, hj⟩ : ∃ j, (erun cs 0 65535).2.2.length = cs.length + 1 + j := ⟨_, (Nat.add_sub_cancel' hc).symm⟩
    rw [hj, Int.pow_add, ipow_succ] at a
    have p1 := ipow_pos cs.length
    have p2 := ipow_pos j
    generalize (2 : Int) ^ cs.length = P at *
    generalize (2 : Int) ^ j = J at *
    have b1 : ((erun cs 0 65535).2.1 - (erun cs 0 65535).1 + 1) * P ≤ 65536 * P := Int.mul_le_mul_of_nonneg_right z (by omega)
    have b2 : 2 * P * 1 ≤ 2 * P * J := Int.mul_le_mul_of_nonneg_left (by omega) (by omega)
    have b3 : 8194 * (2 * P * J) ≤ (16386 - (cs.length : Int)) * (2 * P * J) := Int.mul_le_mul_of_nonneg_right (by omega) (by omega)
    generalize ((erun cs 0 65535).2.1 - (erun cs 0 65535).1 + 1) * P = X at *
    generalize 2 * P * J = Y at *
    generalize (16386 - (cs.length : Int)) * Y = W at *
    omega
  · omega
end PB
end Go.Proofs.Ytnnpkajmheglgaa
