/-
  Plain facts on an arithmetic coder: ranges, doublings, the bits that doublings send, codes with carries. Nothing of Go and no program stands in this text.
-/
import Derived.WalkKit
namespace Go.Proofs.Ytnnpkajmheglgaa
set_option linter.unusedVariables false
set_option linter.unusedSimpArgs false
namespace PB
/-- A wide range. -/
def Wid (lo hi : Int) : Prop := 0 ≤ lo ∧ lo < 32768 ∧ 32768 ≤ hi ∧ hi ≤ 65535 ∧ (lo < 16384 ∨ 49152 ≤ hi)
instance (lo hi : Int) : Decidable (Wid lo hi) := by unfold Wid; exact inferInstance
/-- The split of a range. -/
def splitOf (lo hi p : Int) : Int := lo + (hi - lo + 1) * p / 4096 - 1
/-- What is subtracted ahead of a doubling, divided by 16384; none: the range is not doubled. -/
def twc (lo hi : Int) : Option Nat := if hi < 32768 then some 0 else if 32768 ≤ lo then some 2 else if 16384 ≤ lo ∧ hi < 49152 then some 1 else none
/-- A range that is not yet wide: it lies inside the whole range, and has at least four numbers. -/
def Rng (lo hi : Int) : Prop := 0 ≤ lo ∧ hi ≤ 65535 ∧ lo + 3 ≤ hi
/-- All doublings (fuel f). -/
def dbl : Nat → Int → Int → Int × Int × List Nat
  | 0, lo, hi => (lo, hi, [])
  | f + 1, lo, hi => match twc lo hi with
    | none => (lo, hi, [])
    | some k => let r := dbl f (2 * (lo - 16384 * k)) (2 * (hi - 16384 * k) + 1)
      (r.1, r.2.1, k :: r.2.2)
theorem twc_cases {lo hi : Int} (h : Rng lo hi) : (twc lo hi = none ∧ Wid lo hi) ∨ ∃ k : Nat, twc lo hi = some k ∧ k ≤ 2 ∧ Rng (2 * (lo - 16384 * k)) (2 * (hi - 16384 * k) + 1) := by
  obtain ⟨h1, h2, h3⟩ := h
  unfold twc
  by_cases a : hi < 32768
  · right; exact ⟨0, by rw [if_pos a], by omega, by unfold Rng; omega⟩
  · by_cases b : 32768 ≤ lo
    · right; exact ⟨2, by rw [if_neg a, if_pos b], by omega, by unfold Rng; omega⟩
    · by_cases c : 16384 ≤ lo ∧ hi < 49152
      · right; exact ⟨1, by rw [if_neg a, if_neg b, if_pos c], by omega, by unfold Rng; omega⟩
      · left
        refine ⟨by rw [if_neg a, if_neg b, if_neg c], ?_⟩
        unfold Wid
        omega
theorem dbl_zero {lo hi : Int} : dbl 0 lo hi = (lo, hi, []) := rfl
theorem dbl_none {lo hi : Int} {f : Nat} (h : twc lo hi = none) : dbl f lo hi = (lo, hi, []) := by
  cases f with
  | zero => rfl
  | succ f => rw [dbl, h]
theorem dbl_some {lo hi : Int} {f k : Nat} (h : twc lo hi = some k) : dbl (f + 1) lo hi = ((dbl f (2 * (lo - 16384 * k)) (2 * (hi - 16384 * k) + 1)).1, (dbl f (2 * (lo - 16384 * k)) (2 * (hi - 16384 * k) + 1)).2.1, k :: (dbl f (2 * (lo - 16384 * k)) (2 * (hi - 16384 * k) + 1)).2.2) := by
  rw [dbl, h]
/-- With fuel enough for the size, the doublings end in a wide range; so many doublings, each at most 2. -/
theorem dbl_wide : ∀ f lo hi, Rng lo hi → (65536 : Int) < (hi - lo + 1) * 2 ^ f → Wid (dbl f lo hi).1 (dbl f lo hi).2.1 ∧ (dbl f lo hi).2.2.length < f ∧ (∀ k ∈ (dbl f lo hi).2.2, k ≤ 2) ∧
    (dbl f lo hi).2.1 - (dbl f lo hi).1 + 1 = (hi - lo + 1) * 2 ^ (dbl f lo hi).2.2.length := by
  intro f
  induction f with
  | zero =>
    intro lo hi h hs
    obtain ⟨h1, h2, h3⟩ := h
    omega
  | succ f ih =>
    intro lo hi h hs
    rcases twc_cases h with ⟨h1, h2⟩ | ⟨k, h1, h2, h3⟩
    · rw [dbl_none h1]
      exact ⟨h2, Nat.succ_pos _, by simp, by simp⟩
    · rw [dbl_some h1]
      have e : 2 * (hi - 16384 * (k : Int)) + 1 - 2 * (lo - 16384 * (k : Int)) + 1 = 2 * (hi - lo + 1) := by omega
      have hs' : (65536 : Int) < (2 * (hi - 16384 * (k : Int)) + 1 - 2 * (lo - 16384 * (k : Int)) + 1) * 2 ^ f := by
        rw [e]
        have : (2 * (hi - lo + 1)) * (2 : Int) ^ f = (hi - lo + 1) * 2 ^ (f + 1) := by rw [Int.pow_succ]; rw [Int.mul_assoc, Int.mul_left_comm, Int.mul_comm ((2:Int)^f) 2]
        rw [this]; exact hs
      obtain ⟨a1, a2, a3, a4⟩ := ih _ _ h3 hs'
      refine ⟨a1, by simp only [List.length_cons]; omega, ?_, ?_⟩
      · intro x hx
        rcases List.mem_cons.1 hx with rfl | hx
        · exact h2
        · exact a3 x hx
      · dsimp only
        rw [a4, e, List.length_cons, Int.pow_succ]
        rw [Int.mul_comm 2 (hi - lo + 1), Int.mul_assoc, Int.mul_comm 2]
/-- The part of a range for a bit. -/
def partOf (lo hi : Int) (b : Nat) (p : Int) : Int × Int := if b = 1 then (lo, splitOf lo hi p) else (splitOf lo hi p + 1, hi)
theorem wid_size {lo hi : Int} (h : Wid lo hi) : 16386 ≤ hi - lo + 1 ∧ hi - lo + 1 ≤ 65536 := by
  obtain ⟨h1, h2, h3, h4, h5⟩ := h
  omega
theorem part_bounds {s p : Int} (hs : 16386 ≤ s) (h1 : 1 ≤ p) (h2 : p ≤ 4095) : 4 ≤ s * p / 4096 ∧ s * p / 4096 ≤ s - 4 := by
  have a : s * 1 ≤ s * p := Int.mul_le_mul_of_nonneg_left h1 (by omega)
  have b : s * p ≤ s * 4095 := Int.mul_le_mul_of_nonneg_left h2 (by omega)
  generalize s * p = m at a b ⊢
  omega
theorem part_rng {lo hi p : Int} (b : Nat) (h : Wid lo hi) (h1 : 1 ≤ p) (h2 : p ≤ 4095) : Rng (partOf lo hi b p).1 (partOf lo hi b p).2 := by
  obtain ⟨a1, a2⟩ := wid_size h
  obtain ⟨b1, b2⟩ := part_bounds a1 h1 h2
  obtain ⟨c1, c2, c3, c4, c5⟩ := h
  unfold partOf Rng splitOf
  split <;> (dsimp only; omega)
theorem part_size (lo hi p : Int) (b : Nat) : (partOf lo hi b p).2 - (partOf lo hi b p).1 + 1 = if b = 1 then (hi - lo + 1) * p / 4096 else hi - lo + 1 - (hi - lo + 1) * p / 4096 := by
  unfold partOf splitOf
  split <;> (dsimp only; omega)
/-- The range after a bit, and what its doublings subtract. -/
def stp (lo hi : Int) (b : Nat) (p : Int) : Int × Int × List Nat := dbl 20 (partOf lo hi b p).1 (partOf lo hi b p).2
theorem two_pow_cast (n : Nat) : (2 : Int) ^ n = ((2 ^ n : Nat) : Int) := by simp
theorem stp_facts {lo hi p : Int} (b : Nat) (h : Wid lo hi) (h1 : 1 ≤ p) (h2 : p ≤ 4095) : Wid (stp lo hi b p).1 (stp lo hi b p).2.1 ∧ (stp lo hi b p).2.2.length ≤ 14 ∧ (∀ k ∈ (stp lo hi b p).2.2, k ≤ 2) ∧
    (stp lo hi b p).2.1 - (stp lo hi b p).1 + 1 = ((partOf lo hi b p).2 - (partOf lo hi b p).1 + 1) * 2 ^ (stp lo hi b p).2.2.length := by
  have hr := part_rng b h h1 h2
  obtain ⟨r1, r2, r3⟩ := hr
  obtain ⟨d1, d2, d3, d4⟩ := dbl_wide 20 _ _ ⟨r1, r2, r3⟩ (by
    have e : (2 : Int) ^ 20 = 1048576 := by decide
    rw [e]; omega)
  refine ⟨d1, ?_, d3, d4⟩
  rcases Nat.lt_or_ge 14 (stp lo hi b p).2.2.length with hc | hc
  · exfalso
    have w := (wid_size d1).2
    have e : (32768 : Nat) ≤ 2 ^ (stp lo hi b p).2.2.length := Nat.le_trans (by decide : 32768 ≤ 2 ^ 15) (Nat.pow_le_pow_right (by decide) (by omega))
    have e2 : (32768 : Int) ≤ 2 ^ (stp lo hi b p).2.2.length := by rw [two_pow_cast]; omega
    have e3 : 4 * (2 : Int) ^ (stp lo hi b p).2.2.length ≤ ((partOf lo hi b p).2 - (partOf lo hi b p).1 + 1) * 2 ^ (stp lo hi b p).2.2.length := Int.mul_le_mul_of_nonneg_right (by omega) (by omega)
    have d5 : (dbl 20 (partOf lo hi b p).1 (partOf lo hi b p).2).2.2.length = (stp lo hi b p).2.2.length := rfl
    rw [d5] at d4
    omega
  · exact hc
/-- The bits that doublings send, with pending ones ahead; the pending ones then. -/
def sentf : List Nat → Nat → List Nat × Nat
  | [], q => ([], q)
  | k :: r, q => if k = 1 then sentf r (q + 1) else (k / 2 :: (List.replicate q (1 - k / 2) ++ (sentf r 0).1), (sentf r 0).2)
/-- A bit and its pending opposites. -/
def crt (b q : Nat) : List Nat := b :: List.replicate q (1 - b)
theorem sentf_one (r : List Nat) (q : Nat) : sentf (1 :: r) q = sentf r (q + 1) := by rw [sentf, if_pos rfl]
theorem sentf_other {k : Nat} (hk : k ≠ 1) (r : List Nat) (q : Nat) : sentf (k :: r) q = (crt (k / 2) q ++ (sentf r 0).1, (sentf r 0).2) := by rw [sentf, if_neg hk]; rfl
theorem sentf_append (a b : List Nat) : ∀ q, sentf (a ++ b) q = ((sentf a q).1 ++ (sentf b (sentf a q).2).1, (sentf b (sentf a q).2).2) := by
  induction a with
  | nil => intro q; rfl
  | cons k r ih =>
    intro q
    by_cases hk : k = 1
    · subst hk
      rw [List.cons_append, sentf_one, sentf_one, ih]
    · rw [List.cons_append, sentf_other hk, sentf_other hk, ih]
      simp
theorem sentf_count (a : List Nat) : ∀ q, (sentf a q).1.length + (sentf a q).2 = a.length + q := by
  induction a with
  | nil => intro q; simp [sentf]
  | cons k r ih =>
    intro q
    by_cases hk : k = 1
    · subst hk
      rw [sentf_one, ih, List.length_cons]; omega
    · rw [sentf_other hk]
      have := ih 0
      simp only [List.length_append, List.length_cons, crt, List.length_replicate]
      omega
theorem crt_le {b q : Nat} (hb : b ≤ 1) : ∀ x ∈ crt b q, x ≤ 1 := by
  intro x hx
  rcases List.mem_cons.1 hx with rfl | hx
  · exact hb
  · have := List.eq_of_mem_replicate hx
    omega
theorem sentf_le (a : List Nat) (ha : ∀ k ∈ a, k ≤ 2) : ∀ q, ∀ x ∈ (sentf a q).1, x ≤ 1 := by
  induction a with
  | nil => intro q x hx; simp [sentf] at hx
  | cons k r ih =>
    intro q x hx
    have ih' := ih (fun y hy => ha y (List.mem_cons_of_mem _ hy))
    have hk2 := ha k List.mem_cons_self
    by_cases hk : k = 1
    · subst hk
      rw [sentf_one] at hx
      exact ih' _ x hx
    · rw [sentf_other hk] at hx
      rcases List.mem_append.1 hx with hx | hx
      · exact crt_le (by omega) x hx
      · exact ih' 0 x hx
/-- Digits with carries: the carry out, and the bits. -/
def res : List Nat → Nat × List Nat
  | [] => (0, [])
  | d :: r => (((res r).1 + d) / 2, ((res r).1 + d) % 2 :: (res r).2)
theorem res_carry (l : List Nat) (hl : ∀ d ∈ l, d ≤ 2) : (res l).1 ≤ 1 := by
  induction l with
  | nil => exact Nat.zero_le _
  | cons d r ih =>
    have a := ih (fun y hy => hl y (List.mem_cons_of_mem _ hy))
    have b := hl d List.mem_cons_self
    rw [res]
    dsimp only
    omega
theorem res_ones (r : List Nat) (hc : (res r).1 ≤ 1) : ∀ q, res (List.replicate q 1 ++ r) = ((res r).1, List.replicate q (1 - (res r).1) ++ (res r).2) := by
  intro q
  induction q with
  | zero => rfl
  | succ q ih =>
    rw [List.replicate_succ, List.cons_append, res, ih]
    dsimp only
    rw [List.replicate_succ, List.cons_append]
    have e1 : ((res r).1 + 1) / 2 = (res r).1 := by omega
    have e2 : ((res r).1 + 1) % 2 = 1 - (res r).1 := by omega
    rw [e1, e2]
theorem res_pend (r : List Nat) (hc : (res r).1 ≤ 1) (q : Nat) : res (0 :: (List.replicate q 1 ++ r)) = (0, crt (res r).1 q ++ (res r).2) := by
  rw [res, res_ones r hc q]
  dsimp only
  have e1 : ((res r).1 + 0) / 2 = 0 := by omega
  have e2 : ((res r).1 + 0) % 2 = (res r).1 := by omega
  rw [e1, e2]
  rfl
theorem res_two (r : List Nat) (hc : (res r).1 ≤ 1) : res (2 :: r) = (1, (res (0 :: r)).2) := by
  rw [res, res]
  dsimp only
  have e1 : ((res r).1 + 2) / 2 = 1 := by omega
  have e2 : ((res r).1 + 2) % 2 = ((res r).1 + 0) % 2 := by omega
  rw [e1, e2]
/-- Carries resolved at the end give what pending bits give on the way. -/
theorem code_sent (last : Nat) (hlast : last = 1 ∨ last = 2) (s : List Nat) (hs : ∀ k ∈ s, k ≤ 2) : ∀ q, res (0 :: (List.replicate q 1 ++ (s ++ [last]))) = (0, (sentf s q).1 ++ crt (if last = 1 then 0 else 1) ((sentf s q).2 + 1)) := by
  induction s with
  | nil =>
    intro q
    rcases hlast with rfl | rfl
    · rw [List.nil_append, res_pend [1] (by decide)]
      show (0, crt 0 q ++ [1]) = (0, [] ++ crt 0 (q + 1))
      simp [crt, List.replicate_succ']
    · rw [List.nil_append, res_pend [2] (by decide)]
      show (0, crt 1 q ++ [0]) = (0, [] ++ crt 1 (q + 1))
      simp [crt, List.replicate_succ']
  | cons k s ih =>
    intro q
    have ih' := ih (fun y hy => hs y (List.mem_cons_of_mem _ hy))
    have hk2 := hs k List.mem_cons_self
    have hall : ∀ d ∈ s ++ [last], d ≤ 2 := by
      intro d hd
      rcases List.mem_append.1 hd with hd | hd
      · exact hs d (List.mem_cons_of_mem _ hd)
      · have := List.mem_singleton.1 hd
        omega
    have hcar := res_carry _ hall
    by_cases hk : k = 1
    · subst hk
      rw [sentf_one, ← ih' (q + 1), List.replicate_succ', List.append_assoc]
      rfl
    · rw [sentf_other hk]
      have i0 := ih' 0
      rw [List.replicate_zero, List.nil_append] at i0
      rcases (by omega : k = 0 ∨ k = 2) with rfl | rfl
      · rw [List.cons_append, res_pend (0 :: (s ++ [last])) (by rw [i0]; exact Nat.zero_le _), i0]
        simp
      · rw [List.cons_append, res_pend (2 :: (s ++ [last])) (by rw [res_two _ hcar]; exact Nat.le_refl _), res_two _ hcar, i0]
        simp
theorem twc_none {lo hi : Int} (h : twc lo hi = none) : 32768 ≤ hi ∧ lo < 32768 ∧ (lo < 16384 ∨ 49152 ≤ hi) := by
  unfold twc at h
  split at h
  · cases h
  · split at h
    · cases h
    · split at h
      · cases h
      · omega
theorem twc_some {lo hi : Int} {k : Nat} (h : twc lo hi = some k) : (k = 0 ∧ hi < 32768) ∨ (k = 2 ∧ 32768 ≤ hi ∧ 32768 ≤ lo) ∨ (k = 1 ∧ 32768 ≤ hi ∧ lo < 32768 ∧ 16384 ≤ lo ∧ hi < 49152) := by
  unfold twc at h
  split at h
  · injection h with h; omega
  · split at h
    · injection h with h; omega
    · split at h
      · injection h with h; omega
      · cases h
end PB
end Go.Proofs.Ytnnpkajmheglgaa
