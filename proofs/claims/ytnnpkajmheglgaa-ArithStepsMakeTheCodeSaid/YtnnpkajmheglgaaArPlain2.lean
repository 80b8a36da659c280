/-
  Plain facts on an arithmetic coder: the code of choices, its carries, the decoder's values, the round trip, short codes. Nothing of Go and no program stands in this text.
-/
import Derived.Test.YtnnpkajmheglgaaArPlain
import Derived.Test.YtnnpkajmheglgaaBitsPlain
namespace Go.Proofs.Ytnnpkajmheglgaa
set_option linter.unusedVariables false
set_option linter.unusedSimpArgs false
namespace PB
/-- A choice: a bit and a probability. -/
structure Cho where
  b : Int
  p : Int
def Cho.ok (c : Cho) : Prop := (c.b = 0 ∨ c.b = 1) ∧ 1 ≤ c.p ∧ c.p ≤ 4095
instance (c : Cho) : Decidable c.ok := by unfold Cho.ok; exact inferInstance
def Cho.n (c : Cho) : Nat := c.b.toNat
theorem Cho.ok.n_le {c : Cho} (h : c.ok) : c.n ≤ 1 := by obtain ⟨h1, _⟩ := h; unfold Cho.n; omega
theorem Cho.ok.n_eq {c : Cho} (h : c.ok) : c.b = (c.n : Nat) := by obtain ⟨h1, _⟩ := h; unfold Cho.n; omega
/-- The range after choices, and all doublings. -/
def erun : List Cho → Int → Int → Int × Int × List Nat
  | [], lo, hi => (lo, hi, [])
  | c :: r, lo, hi => ((erun r (stp lo hi c.n c.p).1 (stp lo hi c.n c.p).2.1).1, (erun r (stp lo hi c.n c.p).1 (stp lo hi c.n c.p).2.1).2.1, (stp lo hi c.n c.p).2.2 ++ (erun r (stp lo hi c.n c.p).1 (stp lo hi c.n c.p).2.1).2.2)
theorem erun_append (a b : List Cho) : ∀ lo hi, erun (a ++ b) lo hi = ((erun b (erun a lo hi).1 (erun a lo hi).2.1).1, (erun b (erun a lo hi).1 (erun a lo hi).2.1).2.1, (erun a lo hi).2.2 ++ (erun b (erun a lo hi).1 (erun a lo hi).2.1).2.2) := by
  induction a with
  | nil => intro lo hi; rfl
  | cons c r ih =>
    intro lo hi
    rw [List.cons_append, erun, ih]
    simp only [erun, List.append_assoc]
theorem erun_snoc (a : List Cho) (c : Cho) (lo hi : Int) : erun (a ++ [c]) lo hi = ((stp (erun a lo hi).1 (erun a lo hi).2.1 c.n c.p).1, (stp (erun a lo hi).1 (erun a lo hi).2.1 c.n c.p).2.1, (erun a lo hi).2.2 ++ (stp (erun a lo hi).1 (erun a lo hi).2.1 c.n c.p).2.2) := by
  rw [erun_append]
  simp [erun]
def AllCho (cs : List Cho) : Prop := ∀ c ∈ cs, c.ok
theorem AllCho.take {cs : List Cho} (h : AllCho cs) (k : Nat) : AllCho (cs.take k) := fun c hc => h c (List.mem_of_mem_take hc)
theorem erun_facts : ∀ (cs : List Cho), AllCho cs → ∀ lo hi, Wid lo hi → Wid (erun cs lo hi).1 (erun cs lo hi).2.1 ∧ (erun cs lo hi).2.2.length ≤ 14 * cs.length ∧ ∀ k ∈ (erun cs lo hi).2.2, k ≤ 2 := by
  intro cs
  induction cs with
  | nil => intro _ lo hi h; exact ⟨h, by simp [erun], by simp [erun]⟩
  | cons c r ih =>
    intro hall lo hi h
    obtain ⟨h1, h2, h3⟩ := hall c List.mem_cons_self
    obtain ⟨s1, s2, s3, s4⟩ := stp_facts c.n h h2 h3
    obtain ⟨r1, r2, r3⟩ := ih (fun x hx => hall x (List.mem_cons_of_mem _ hx)) _ _ s1
    refine ⟨r1, ?_, ?_⟩
    · simp only [erun, List.length_append, List.length_cons]; omega
    · intro k hk
      simp only [erun] at hk
      rcases List.mem_append.1 hk with hk | hk
      · exact s3 k hk
      · exact r3 k hk
theorem wid0 : Wid 0 65535 := by unfold Wid; omega
/-- The code of choices, as the encoder sends it. -/
def acode (cs : List Cho) : List Nat :=
  (sentf (erun cs 0 65535).2.2 0).1 ++ crt (if (erun cs 0 65535).1 < 16384 then 0 else 1) ((sentf (erun cs 0 65535).2.2 0).2 + 1)
/-- The digits of a code ahead of the carries. -/
def digsOf (cs : List Cho) : List Nat := 0 :: ((erun cs 0 65535).2.2 ++ [if (erun cs 0 65535).1 < 16384 then 1 else 2])
theorem code_digs {cs : List Cho} (h : AllCho cs) : res (digsOf cs) = (0, acode cs) := by
  obtain ⟨_, _, f3⟩ := erun_facts cs h 0 65535 wid0
  unfold digsOf acode
  by_cases hl : (erun cs 0 65535).1 < 16384
  · rw [if_pos hl, if_pos hl]
    have := code_sent 1 (.inl rfl) _ f3 0
    rw [if_pos rfl] at this
    exact this
  · rw [if_neg hl, if_neg hl]
    have := code_sent 2 (.inr rfl) _ f3 0
    rw [if_neg (by decide)] at this
    exact this
theorem acode_length (cs : List Cho) : (acode cs).length = (erun cs 0 65535).2.2.length + 2 := by
  have := sentf_count (erun cs 0 65535).2.2 0
  unfold acode
  rw [List.length_append, crt, List.length_cons, List.length_replicate]
  omega
theorem acode_01 {cs : List Cho} (h : AllCho cs) : Is01 (acode cs) := by
  obtain ⟨_, _, f3⟩ := erun_facts cs h 0 65535 wid0
  refine Is01.of_mem fun x hx => ?_
  unfold acode at hx
  rcases List.mem_append.1 hx with hx | hx
  · have := sentf_le _ f3 0 x hx; omega
  · have := crt_le (b := if (erun cs 0 65535).1 < 16384 then 0 else 1) (by split <;> omega) x hx; omega
theorem acode_le {cs : List Cho} (h : AllCho cs) (hl : cs.length ≤ 8192) : (acode cs).length ≤ 114690 := by
  obtain ⟨_, f2, _⟩ := erun_facts cs h 0 65535 wid0
  rw [acode_length]; omega
/-! Carries, one place after another. -/
/-- The digits when the places from j on are done. -/
def mid (ds : List Nat) (j : Nat) : List Nat := ds.take j ++ (ds.getD j 0 + (res (ds.drop (j + 1))).1) :: (res (ds.drop (j + 1))).2
theorem res_length (l : List Nat) : (res l).2.length = l.length := by
  induction l with
  | nil => rfl
  | cons d r ih => rw [res]; simp [ih]
theorem mid_length {ds : List Nat} {j : Nat} (h : j < ds.length) : (mid ds j).length = ds.length := by
  unfold mid; rw [List.length_append, List.length_cons, res_length, List.length_take, List.length_drop]; omega
theorem mid_start {ds : List Nat} (h : 0 < ds.length) : mid ds (ds.length - 1) = ds := by
  unfold mid
  have e : ds.length - 1 + 1 = ds.length := by omega
  rw [e, List.drop_length]
  show ds.take (ds.length - 1) ++ [ds.getD (ds.length - 1) 0 + 0] = ds
  rw [Nat.add_zero, getD_lt (by omega), ← List.take_succ_eq_append_getElem (by omega), e, List.take_length]
theorem mid_get {ds : List Nat} {j : Nat} (h : j < ds.length) : (mid ds j).getD j 0 = ds.getD j 0 + (res (ds.drop (j + 1))).1 := by
  unfold mid
  rw [getD_append_ge (by rw [List.length_take]; omega), List.length_take, show j - min j ds.length = 0 by omega]
  rfl
theorem mid_low {ds : List Nat} {j i : Nat} (h : j < ds.length) (hi : i < j) : (mid ds j).getD i 0 = ds.getD i 0 := by
  unfold mid
  rw [getD_append_lt (by rw [List.length_take]; omega), getD_lt (by rw [List.length_take]; omega), getD_lt (by omega)]
  simp
theorem mid_step {ds : List Nat} {j : Nat} (h0 : 0 < j) (h : j < ds.length) :
    mid ds (j - 1) = ((mid ds j).set (j - 1) ((mid ds j).getD (j - 1) 0 + (mid ds j).getD j 0 / 2)).set j ((mid ds j).getD j 0 % 2) := by
  obtain ⟨i, rfl⟩ : ∃ i, j = i + 1 := ⟨j - 1, by omega⟩
  rw [Nat.add_sub_cancel, mid_get h, mid_low h (by omega)]
  have e1 : ds.take (i + 1) = ds.take i ++ [ds.getD i 0] := by rw [List.take_succ_eq_append_getElem (by omega), getD_lt (by omega)]
  have e2 : ds.drop (i + 1) = ds.getD (i + 1) 0 :: ds.drop (i + 1 + 1) := by rw [List.drop_eq_getElem_cons h, getD_lt h]
  unfold mid
  rw [e1, e2, res]
  dsimp only
  have hl : (ds.take i).length = i := by rw [List.length_take]; omega
  rw [List.append_assoc, List.set_append_right _ _ (by omega), hl, Nat.sub_self, List.set_append_right _ _ (by omega), hl]
  rw [show i + 1 - i = 1 by omega]
  simp only [List.cons_append, List.nil_append, List.set_cons_zero, List.set_cons_succ]
  rw [Nat.add_comm (res (ds.drop (i + 1 + 1))).1 (ds.getD (i + 1) 0)]
theorem mid_end {cs : List Cho} (h : AllCho cs) : mid (digsOf cs) 0 = acode cs := by
  have e := code_digs h
  obtain ⟨r, hr⟩ : ∃ r, r = (erun cs 0 65535).2.2 ++ [if (erun cs 0 65535).1 < 16384 then 1 else 2] := ⟨_, rfl⟩
  have e2 : digsOf cs = 0 :: r := by rw [hr]; rfl
  rw [e2] at e ⊢
  rw [res] at e
  injection e with e3 e4
  unfold mid
  rw [← e4]
  have hc : (res r).1 ≤ 1 := by
    refine res_carry r fun d hd => ?_
    rw [hr] at hd
    obtain ⟨_, _, f3⟩ := erun_facts cs h 0 65535 wid0
    rcases List.mem_append.1 hd with hd | hd
    · exact f3 d hd
    · rw [List.mem_singleton] at hd; rw [hd]; split <;> omega
  have e5 : ((res r).1 + 0) % 2 = (res r).1 := by omega
  rw [e5]
  simp
/-! The decoder. -/
/-- The value after doublings: what is subtracted, and the next bits of the code. -/
def dv (l : List Nat) : List Nat → Int → Nat → Int
  | [], V, _ => V
  | k :: r, V, t => dv l r (2 * (V - 16384 * (k : Nat)) + (l.getD t 0 : Nat)) (t + 1)
theorem dv_append (l a b : List Nat) : ∀ V t, dv l (a ++ b) V t = dv l b (dv l a V t) (t + a.length) := by
  induction a with
  | nil => intro V t; rfl
  | cons k r ih => intro V t; rw [List.cons_append, dv, ih, dv, List.length_cons, show t + (r.length + 1) = t + 1 + r.length by omega]
structure DS where
  lo : Int
  hi : Int
  V : Int
  at_ : Nat
def pickb (d : DS) (p : Int) : Nat := if d.V ≤ splitOf d.lo d.hi p then 1 else 0
def dks (d : DS) (p : Int) : List Nat := (stp d.lo d.hi (pickb d p) p).2.2
def dstep (l : List Nat) (d : DS) (p : Int) : DS :=
  ⟨(stp d.lo d.hi (pickb d p) p).1, (stp d.lo d.hi (pickb d p) p).2.1, dv l (dks d p) d.V d.at_, d.at_ + (dks d p).length⟩
def drun (l : List Nat) (ps : List Int) (d : DS) : DS := ps.foldl (dstep l) d
theorem drun_snoc (l : List Nat) (ps : List Int) (p : Int) (d : DS) : drun l (ps ++ [p]) d = dstep l (drun l ps d) p := by simp [drun]
def dbits (l : List Nat) : List Int → DS → List Nat
  | [], _ => []
  | p :: r, d => pickb d p :: dbits l r (dstep l d p)
theorem dbits_length (l : List Nat) : ∀ ps d, (dbits l ps d).length = ps.length := by
  intro ps
  induction ps with
  | nil => intro d; rfl
  | cons p r ih => intro d; rw [dbits, List.length_cons, ih, List.length_cons]
theorem dbits_snoc (l : List Nat) (p : Int) : ∀ ps d, dbits l (ps ++ [p]) d = dbits l ps d ++ [pickb (drun l ps d) p] := by
  intro ps
  induction ps with
  | nil => intro d; rfl
  | cons q r ih => intro d; rw [List.cons_append, dbits, ih, dbits]; rfl
theorem dbits_01 (l : List Nat) : ∀ ps d, Is01 (dbits l ps d) := by
  intro ps
  induction ps with
  | nil => intro d; exact Is01.nil
  | cons p r ih =>
    intro d
    refine Is01.of_mem fun x hx => ?_
    rcases List.mem_cons.1 hx with rfl | hx
    · unfold pickb; split <;> omega
    · exact (ih _).mem hx
def dinit (l : List Nat) : DS := ⟨0, 65535, (num ((List.range 16).map fun i => l.getD i 0) : Nat), 16⟩
def DOk (d : DS) : Prop := Wid d.lo d.hi ∧ d.lo ≤ d.V ∧ d.V ≤ d.hi
theorem dv_in (l : List Nat) (h01 : Is01 l) : ∀ f lo hi V t, lo ≤ V → V ≤ hi → (dbl f lo hi).1 ≤ dv l (dbl f lo hi).2.2 V t ∧ dv l (dbl f lo hi).2.2 V t ≤ (dbl f lo hi).2.1 := by
  intro f
  induction f with
  | zero => intro lo hi V t h1 h2; exact ⟨h1, h2⟩
  | succ f ih =>
    intro lo hi V t h1 h2
    rcases ht : twc lo hi with _ | k
    · rw [dbl_none ht]; exact ⟨h1, h2⟩
    · rw [dbl_some ht]
      have hb := h01 t
      exact ih _ _ _ _ (by omega) (by omega)
theorem split_in {lo hi p : Int} (h : Wid lo hi) (h1 : 1 ≤ p) (h2 : p ≤ 4095) : lo ≤ splitOf lo hi p ∧ splitOf lo hi p < hi := by
  obtain ⟨a1, a2⟩ := wid_size h
  obtain ⟨b1, b2⟩ := part_bounds a1 h1 h2
  unfold splitOf
  omega
theorem pick_part {d : DS} (h : DOk d) {p : Int} : (partOf d.lo d.hi (pickb d p) p).1 ≤ d.V ∧ d.V ≤ (partOf d.lo d.hi (pickb d p) p).2 := by
  obtain ⟨_, h2, h3⟩ := h
  unfold partOf pickb
  by_cases hv : d.V ≤ splitOf d.lo d.hi p
  · rw [if_pos hv, if_pos rfl]; exact ⟨h2, hv⟩
  · rw [if_neg hv, if_neg (by decide)]; dsimp only; omega
theorem dstep_ok {l : List Nat} (h01 : Is01 l) {d : DS} (h : DOk d) {p : Int} (h1 : 1 ≤ p) (h2 : p ≤ 4095) : DOk (dstep l d p) := by
  obtain ⟨s1, _, _, _⟩ := stp_facts (pickb d p) h.1 h1 h2
  obtain ⟨q1, q2⟩ := pick_part h (p := p)
  have := dv_in l h01 20 _ _ d.V d.at_ q1 q2
  exact ⟨s1, this.1, this.2⟩
def AllP (ps : List Int) : Prop := ∀ p ∈ ps, 1 ≤ p ∧ p ≤ 4095
theorem AllP.take {ps : List Int} (h : AllP ps) (k : Nat) : AllP (ps.take k) := fun c hc => h c (List.mem_of_mem_take hc)
theorem drun_ok {l : List Nat} (h01 : Is01 l) : ∀ ps, AllP ps → ∀ d, DOk d → DOk (drun l ps d) := by
  intro ps
  induction ps with
  | nil => intro _ d h; exact h
  | cons p r ih =>
    intro hp d h
    obtain ⟨p1, p2⟩ := hp p List.mem_cons_self
    exact ih (fun q hq => hp q (List.mem_cons_of_mem _ hq)) _ (dstep_ok h01 h p1 p2)
theorem num16_lt {l : List Nat} (h01 : Is01 l) : num ((List.range 16).map fun i => l.getD i 0) < 65536 := by
  have : Is01 ((List.range 16).map fun i => l.getD i 0) := Is01.of_mem fun x hx => by
    obtain ⟨i, _, rfl⟩ := List.mem_map.1 hx
    exact h01 i
  have h := num_lt this
  simpa using h
theorem dinit_ok {l : List Nat} (h01 : Is01 l) : DOk (dinit l) := by
  have := num16_lt h01
  exact ⟨wid0, by show (0 : Int) ≤ ((num _ : Nat) : Int); omega, by show ((num _ : Nat) : Int) ≤ 65535; omega⟩
theorem drun_at_le (l : List Nat) : ∀ ps d, d.at_ ≤ (drun l ps d).at_ := by
  intro ps
  induction ps with
  | nil => intro d; exact Nat.le_refl _
  | cons p r ih => intro d; exact Nat.le_trans (Nat.le_add_right _ _) (ih (dstep l d p))
theorem drun_at_take (l : List Nat) (ps : List Int) (d : DS) (k : Nat) : (drun l (ps.take k) d).at_ ≤ (drun l ps d).at_ := by
  have : drun l ps d = drun l (ps.drop k) (drun l (ps.take k) d) := by
    unfold drun
    rw [← List.foldl_append, List.take_append_drop]
  rw [this]
  exact drun_at_le _ _ _
theorem drun_at_bound {l : List Nat} (h01 : Is01 l) : ∀ ps, AllP ps → ∀ d, DOk d → (drun l ps d).at_ ≤ d.at_ + 14 * ps.length := by
  intro ps
  induction ps with
  | nil => intro _ d h; exact Nat.le_refl _
  | cons p r ih =>
    intro hp d h
    obtain ⟨p1, p2⟩ := hp p List.mem_cons_self
    have a := ih (fun q hq => hp q (List.mem_cons_of_mem _ hq)) _ (dstep_ok h01 h p1 p2)
    obtain ⟨_, s2, _, _⟩ := stp_facts (pickb d p) h.1 p1 p2
    have e : (dstep l d p).at_ = d.at_ + (stp d.lo d.hi (pickb d p) p).2.2.length := rfl
    show (drun l r (dstep l d p)).at_ ≤ _
    rw [List.length_cons]
    omega
/-! The reference's value: a window of 24 bits of the code, less a sum, modulo 2 to the power of 24. -/
def wbit (l : List Nat) (e j : Nat) : Nat := if e + j < 24 then 0 else l.getD (e + j - 24) 0
def wnd (l : List Nat) (e : Nat) : Nat := num ((List.range 24).map (wbit l e))
theorem wbit_lt {l : List Nat} (h01 : Is01 l) (e j : Nat) : wbit l e j < 2 := by
  unfold wbit
  split
  · decide
  · exact h01 _
theorem wnd_lt {l : List Nat} (h01 : Is01 l) (e : Nat) : wnd l e < 16777216 := by
  have : Is01 ((List.range 24).map (wbit l e)) := Is01.of_mem fun x hx => by
    obtain ⟨i, _, rfl⟩ := List.mem_map.1 hx
    exact wbit_lt h01 _ _
  have h := num_lt this
  rw [List.length_map, List.length_range] at h
  exact h
theorem wnd_succ {l : List Nat} (h01 : Is01 l) (e : Nat) : wnd l (e + 1) = (2 * wnd l e + l.getD e 0) % 16777216 := by
  have hT : Is01 ((List.range 23).map (wbit l (e + 1))) := Is01.of_mem fun x hx => by
    obtain ⟨i, _, rfl⟩ := List.mem_map.1 hx
    exact wbit_lt h01 _ _
  have e1 : (List.range 24).map (wbit l (e + 1)) = (List.range 23).map (wbit l (e + 1)) ++ [l.getD e 0] := by
    rw [List.range_succ, List.map_append, List.map_singleton]
    congr 2
  have e2 : (List.range 24).map (wbit l e) = wbit l e 0 :: (List.range 23).map (wbit l (e + 1)) := by
    rw [List.range_succ_eq_map, List.map_cons, List.map_map]
    congr 1
  unfold wnd
  rw [e1, e2, num_snoc, num_cons, List.length_map, List.length_range]
  have hn := num_lt hT
  rw [List.length_map, List.length_range] at hn
  have hb := h01 e
  generalize num ((List.range 23).map (wbit l (e + 1))) = N at hn ⊢
  generalize wbit l e 0 = x
  omega
/-- What the reference subtracts: its sum after doublings. -/
def bas : List Nat → Int → Int
  | [], b => b
  | k :: r, b => bas r ((2 * b + 32768 * (k : Nat)) % 16777216)
theorem bas_bound : ∀ ks b, 0 ≤ b → b < 16777216 → 0 ≤ bas ks b ∧ bas ks b < 16777216 := by
  intro ks
  induction ks with
  | nil => intro b h1 h2; exact ⟨h1, h2⟩
  | cons k r ih => intro b h1 h2; exact ih _ (by omega) (by omega)
theorem bas_snoc (k : Nat) : ∀ ks b, bas (ks ++ [k]) b = (2 * bas ks b + 32768 * (k : Nat)) % 16777216 := by
  intro ks
  induction ks with
  | nil => intro b; rfl
  | cons j r ih => intro b; rw [List.cons_append, bas, ih, bas]
theorem bas_append (a : List Nat) : ∀ ks b, bas (ks ++ a) b = bas a (bas ks b) := by
  intro ks
  induction ks with
  | nil => intro b; rfl
  | cons j r ih => intro b; rw [List.cons_append, bas, ih, bas]
/-- The program's value and the reference's are the same modulo 2 to the power of 24. -/
def VEq (l : List Nat) (V : Int) (t : Nat) (b : Int) : Prop := ((wnd l t : Nat) - b - V) % 16777216 = 0
theorem veq_step {l : List Nat} (h01 : Is01 l) {V b : Int} {t : Nat} (k : Nat) (h : VEq l V t b) : VEq l (2 * (V - 16384 * (k : Nat)) + (l.getD t 0 : Nat)) (t + 1) ((2 * b + 32768 * (k : Nat)) % 16777216) := by
  unfold VEq at h ⊢
  rw [wnd_succ h01]
  generalize wnd l t = N at h ⊢
  generalize l.getD t 0 = x
  omega
theorem veq_run {l : List Nat} (h01 : Is01 l) : ∀ ks V b t, VEq l V t b → VEq l (dv l ks V t) (t + ks.length) (bas ks b) := by
  intro ks
  induction ks with
  | nil => intro V b t h; exact h
  | cons k r ih =>
    intro V b t h
    have := ih _ _ _ (veq_step h01 k h)
    rw [dv, bas, List.length_cons, show t + (r.length + 1) = t + 1 + r.length by omega]
    exact this
theorem veq_value {l : List Nat} (h01 : Is01 l) {V b : Int} {t : Nat} (h : VEq l V t b) (h0 : 0 ≤ V) (h1 : V < 65536) (hb0 : 0 ≤ b) (hb : b < 16777216) : ((wnd l t : Nat) - b + 16777216) % 16777216 = V := by
  unfold VEq at h
  have := wnd_lt h01 t
  generalize wnd l t = N at h this ⊢
  omega
theorem veq_init (l : List Nat) : VEq l (dinit l).V 16 0 := by
  have e : (List.range 24).map (wbit l 16) = List.replicate 8 0 ++ (List.range 16).map fun i => l.getD i 0 := by
    rw [show (24 : Nat) = 8 + 16 from rfl, List.range_add, List.map_append, List.map_map]
    rfl
  unfold VEq wnd dinit
  rw [e, num_append]
  have z : num (List.replicate 8 0) = 0 := by decide
  rw [z]
  dsimp only
  generalize num ((List.range 16).map fun i => l.getD i 0) = N
  omega
def dksAll (l : List Nat) : List Int → DS → List Nat
  | [], _ => []
  | p :: r, d => dks d p ++ dksAll l r (dstep l d p)
theorem dksAll_snoc (l : List Nat) (p : Int) : ∀ ps d, dksAll l (ps ++ [p]) d = dksAll l ps d ++ dks (drun l ps d) p := by
  intro ps
  induction ps with
  | nil => intro d; simp [dksAll, drun]
  | cons q r ih => intro d; rw [List.cons_append, dksAll, ih, dksAll, List.append_assoc]; rfl
theorem dksAll_length (l : List Nat) : ∀ ps d, d.at_ + (dksAll l ps d).length = (drun l ps d).at_ := by
  intro ps
  induction ps with
  | nil => intro d; rfl
  | cons p r ih =>
    intro d
    have := ih (dstep l d p)
    have e : (dstep l d p).at_ = d.at_ + (dks d p).length := rfl
    show d.at_ + (dks d p ++ dksAll l r (dstep l d p)).length = (drun l r (dstep l d p)).at_
    rw [List.length_append]
    omega
theorem veq_drun {l : List Nat} (h01 : Is01 l) : ∀ ps d b, VEq l d.V d.at_ b → VEq l (drun l ps d).V (drun l ps d).at_ (bas (dksAll l ps d) b) := by
  intro ps
  induction ps with
  | nil => intro d b h; exact h
  | cons p r ih =>
    intro d b h
    have a := veq_run h01 (dks d p) d.V b d.at_ h
    have := ih (dstep l d p) _ a
    rw [dksAll, bas_append]
    exact this
/-- The reference's value ahead of the next bit. -/
theorem ref_value {l : List Nat} (h01 : Is01 l) (ps : List Int) (hp : AllP ps) : ((wnd l (drun l ps (dinit l)).at_ : Nat) - bas (dksAll l ps (dinit l)) 0 + 16777216) % 16777216 = (drun l ps (dinit l)).V := by
  obtain ⟨w, o1, o2⟩ := drun_ok h01 ps hp _ (dinit_ok h01)
  obtain ⟨w1, w2, w3, w4, _⟩ := w
  obtain ⟨b1, b2⟩ := bas_bound (dksAll l ps (dinit l)) 0 (by decide) (by decide)
  exact veq_value h01 (veq_drun h01 ps _ 0 (veq_init l)) (by omega) (by omega) b1 b2
end PB
end Go.Proofs.Ytnnpkajmheglgaa
