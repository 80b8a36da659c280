/-
  Plain facts on the model: contexts, counts, predictions. Nothing of Go and no program stands in this text.
-/
import Derived.Test.YtmkkbedbgkhbpaaBitsPlain
namespace Go.Proofs.Ytmkkbedbgkhbpaa
set_option linter.unusedVariables false
set_option linter.unusedSimpArgs false
namespace PB
/-- A context: its order, two classes, the beginning of the byte behind a one. -/
abbrev Ctx := Nat × Nat × Nat × Nat
/-- Where the byte of a position begins. -/
def cbeg (i : Nat) : Nat := i - i % 8
def mbeg (h : List Nat) (i : Nat) : Nat := num (1 :: (h.drop (cbeg i)).take (i - cbeg i))
def mlast (h : List Nat) (i : Nat) : Nat := if 8 ≤ cbeg i then num ((h.drop (cbeg i - 8)).take 8) % 32 else 0
def mbefore (h : List Nat) (i : Nat) : Nat := if 16 ≤ cbeg i then num ((h.drop (cbeg i - 16)).take 8) % 32 else 0
def ctx (h : List Nat) (i o : Nat) : Ctx := (o, if 1 ≤ o then mlast h i else 0, if 2 ≤ o then mbefore h i else 0, mbeg h i)
theorem mbeg_zero (h : List Nat) : mbeg h 0 = 1 := by simp [mbeg, cbeg, num]
theorem mlast_zero (h : List Nat) : mlast h 0 = 0 := by simp [mlast, cbeg]
theorem mbefore_zero (h : List Nat) : mbefore h 0 = 0 := by simp [mbefore, cbeg]
theorem mbeg_pos {h : List Nat} (h01 : Is01 h) (i : Nat) : 2 ^ (i % 8) ≤ mbeg h i ∨ h.length < i := by
  rcases Nat.lt_or_ge h.length i with hl | hl
  · exact .inr hl
  · left
    unfold mbeg
    rw [num_cons, List.length_take, List.length_drop]
    have e : min (i - cbeg i) (h.length - cbeg i) = i % 8 := by unfold cbeg; omega
    rw [e]
    omega
theorem mbeg_lt {h : List Nat} (h01 : Is01 h) (i : Nat) (hi : i ≤ h.length) : mbeg h i < 2 * 2 ^ (i % 8) := by
  unfold mbeg
  rw [num_cons, List.length_take, List.length_drop]
  have e : min (i - cbeg i) (h.length - cbeg i) = i % 8 := by unfold cbeg; omega
  have := num_lt ((h01.drop (cbeg i)).take (i - cbeg i))
  rw [List.length_take, List.length_drop] at this
  rw [e] at this ⊢
  omega
theorem mbeg_bound {h : List Nat} (h01 : Is01 h) (i : Nat) (hi : i ≤ h.length) : 1 ≤ mbeg h i ∧ mbeg h i < 256 := by
  have a := mbeg_lt h01 i hi
  have b : 2 ^ (i % 8) ≤ 2 ^ 7 := Nat.pow_le_pow_right (by decide) (by omega)
  rcases mbeg_pos h01 i with c | c
  · have := Nat.two_pow_pos (i % 8); omega
  · omega
theorem mlast_lt (h : List Nat) (i : Nat) : mlast h i < 32 := by unfold mlast; split <;> omega
theorem mbefore_lt (h : List Nat) (i : Nat) : mbefore h i < 32 := by unfold mbefore; split <;> omega
theorem mstep {h : List Nat} (i : Nat) (hi : i < h.length) : 2 * mbeg h i + h.getD i 0 = num (1 :: (h.drop (cbeg i)).take (i + 1 - cbeg i)) := by
  have e : (h.drop (cbeg i)).take (i + 1 - cbeg i) = (h.drop (cbeg i)).take (i - cbeg i) ++ [h.getD i 0] := by
    have e1 : i + 1 - cbeg i = (i - cbeg i) + 1 := by unfold cbeg; omega
    rw [e1, List.take_succ_eq_append_getElem (by rw [List.length_drop]; unfold cbeg; omega)]
    congr 2
    rw [List.getElem_drop, ← getD_lt]
    congr 1
    unfold cbeg; omega
  rw [e, ← List.cons_append, num_snoc]
  rfl
/-- A bit that ends no byte. -/
theorem mstep_in {h : List Nat} (h01 : Is01 h) (i : Nat) (hi : i < h.length) (hm : (i + 1) % 8 ≠ 0) : mbeg h (i + 1) = 2 * mbeg h i + h.getD i 0 ∧ mlast h (i + 1) = mlast h i ∧ mbefore h (i + 1) = mbefore h i ∧ 2 * mbeg h i + h.getD i 0 < 256 := by
  have e : cbeg (i + 1) = cbeg i := by unfold cbeg; omega
  have s := mstep i hi
  have e1 : mbeg h (i + 1) = 2 * mbeg h i + h.getD i 0 := by rw [s]; unfold mbeg; rw [e]
  refine ⟨e1, by unfold mlast; rw [e], by unfold mbefore; rw [e], ?_⟩
  rw [← e1]
  exact (mbeg_bound h01 (i + 1) (by omega)).2
/-- A bit that ends a byte. -/
theorem mstep_end {h : List Nat} (h01 : Is01 h) (i : Nat) (hi : i < h.length) (hm : (i + 1) % 8 = 0) : mbeg h (i + 1) = 1 ∧ mlast h (i + 1) = (2 * mbeg h i + h.getD i 0) % 32 ∧ mbefore h (i + 1) = mlast h i ∧ 256 ≤ 2 * mbeg h i + h.getD i 0 ∧ 2 * mbeg h i + h.getD i 0 < 512 := by
  have e : cbeg (i + 1) = cbeg i + 8 := by unfold cbeg; omega
  have e2 : cbeg i + 8 = i + 1 := by unfold cbeg; omega
  have s := mstep i hi
  have e3 : i + 1 - cbeg i = 8 := by omega
  rw [e3, num_cons, List.length_take, List.length_drop] at s
  have e4 : min 8 (h.length - cbeg i) = 8 := by omega
  rw [e4] at s
  have hn := num_lt ((h01.drop (cbeg i)).take 8)
  rw [List.length_take, List.length_drop, e4] at hn
  refine ⟨?_, ?_, ?_, by rw [s]; omega, by rw [s]; omega⟩
  · unfold mbeg
    rw [e, e2, Nat.sub_self, List.take_zero]
    rfl
  · unfold mlast
    rw [e, if_pos (by omega), s, Nat.add_sub_cancel]
    omega
  · unfold mbefore mlast
    rw [e]
    by_cases h8 : 8 ≤ cbeg i
    · rw [if_pos (by omega), if_pos h8, show cbeg i + 8 - 16 = cbeg i - 8 by omega]
    · rw [if_neg (by omega), if_neg h8]
/-! Counts. -/
def halve (z o : Nat) : Nat × Nat := if 255 ≤ z + o then ((z + 1) / 2, (o + 1) / 2) else (z, o)
def upd (k : Nat × Nat) (b : Nat) : Nat × Nat := if b = 1 then halve k.1 (k.2 + 1) else halve (k.1 + 1) k.2
def cnts (h : List Nat) (o : Nat) (c : Ctx) : Nat → Nat × Nat
  | 0 => (0, 0)
  | k + 1 => if ctx h k o = c then upd (cnts h o c k) (h.getD k 0) else cnts h o c k
theorem upd_le {k : Nat × Nat} (h : k.1 + k.2 ≤ 254) (b : Nat) : (upd k b).1 + (upd k b).2 ≤ 254 := by
  unfold upd halve
  split <;> split <;> (dsimp only; omega)
theorem upd_pos {k : Nat × Nat} (b : Nat) : 0 < (upd k b).1 + (upd k b).2 := by
  unfold upd halve
  split <;> split <;> (dsimp only; omega)
theorem cnts_le (h : List Nat) (o : Nat) (c : Ctx) : ∀ i, (cnts h o c i).1 + (cnts h o c i).2 ≤ 254 := by
  intro i
  induction i with
  | zero => simp [cnts]
  | succ i ih =>
    rw [cnts]
    split
    · exact upd_le ih _
    · exact ih
/-- The counts at the context of a position. -/
def hcnt (h : List Nat) (i o : Nat) : Nat × Nat := cnts h o (ctx h i o) i
/-! Predictions. -/
def mshare (k : Nat × Nat) : Nat := (2 * k.2 + 1) * 2048 / (k.1 + k.2 + 1)
def wgt (k : Nat × Nat) (o : Nat) : Nat := min (k.1 + k.2) 15 * 4 ^ o
def pacc2 (h : List Nat) (i : Nat) : Nat → Nat × Nat
  | 0 => (2048, 1)
  | o + 1 => ((pacc2 h i o).1 + wgt (hcnt h i o) o * mshare (hcnt h i o), (pacc2 h i o).2 + wgt (hcnt h i o) o)
def predv (h : List Nat) (i ord : Nat) : Nat := (pacc2 h i (ord + 1)).1 / (pacc2 h i (ord + 1)).2
theorem mshare_in {k : Nat × Nat} (h : k.1 + k.2 ≤ 254) : 8 ≤ mshare k ∧ mshare k ≤ 4087 := by
  obtain ⟨z, o⟩ := k
  dsimp only at h
  unfold mshare
  dsimp only
  constructor
  · rw [Nat.le_div_iff_mul_le (by omega)]; omega
  · rw [Nat.div_le_iff_le_mul_add_pred (by omega)]; omega
theorem pacc2_in (h : List Nat) (i : Nat) : ∀ o, 1 ≤ (pacc2 h i o).2 ∧ 8 * (pacc2 h i o).2 ≤ (pacc2 h i o).1 ∧ (pacc2 h i o).1 ≤ 4087 * (pacc2 h i o).2 := by
  intro o
  induction o with
  | zero => simp [pacc2]
  | succ o ih =>
    obtain ⟨a, b, c⟩ := ih
    obtain ⟨s1, s2⟩ := mshare_in (cnts_le h o (ctx h i o) i)
    rw [pacc2]
    dsimp only
    have m1 : wgt (hcnt h i o) o * 8 ≤ wgt (hcnt h i o) o * mshare (hcnt h i o) := Nat.mul_le_mul_left _ s1
    have m2 : wgt (hcnt h i o) o * mshare (hcnt h i o) ≤ wgt (hcnt h i o) o * 4087 := Nat.mul_le_mul_left _ s2
    generalize wgt (hcnt h i o) o * mshare (hcnt h i o) = x at *
    generalize wgt (hcnt h i o) o = y at *
    omega
theorem predv_in (h : List Nat) (i ord : Nat) : 8 ≤ predv h i ord ∧ predv h i ord ≤ 4087 := by
  obtain ⟨a, b, c⟩ := pacc2_in h i (ord + 1)
  unfold predv
  constructor
  · rw [Nat.le_div_iff_mul_le (by omega)]; exact b
  · refine Nat.div_le_of_le_mul ?_
    rw [Nat.mul_comm]
    exact c
/-! What is predicted looks back only. -/
theorem part_append (h m : List Nat) (a n : Nat) (hn : a + n ≤ h.length) : ((h ++ m).drop a).take n = (h.drop a).take n := by
  rw [List.drop_append_of_le_length (by omega), List.take_append_of_le_length (by rw [List.length_drop]; omega)]
theorem ctx_append (h m : List Nat) (k o : Nat) (hk : k ≤ h.length) : ctx (h ++ m) k o = ctx h k o := by
  have e1 : mbeg (h ++ m) k = mbeg h k := by unfold mbeg; rw [part_append h m _ _ (by unfold cbeg; omega)]
  have e2 : mlast (h ++ m) k = mlast h k := by
    unfold mlast
    split
    · rw [part_append h m _ _ (by unfold cbeg at *; omega)]
    · rfl
  have e3 : mbefore (h ++ m) k = mbefore h k := by
    unfold mbefore
    split
    · rw [part_append h m _ _ (by unfold cbeg at *; omega)]
    · rfl
  unfold ctx
  rw [e1, e2, e3]
theorem cnts_append (h m : List Nat) (o : Nat) (c : Ctx) : ∀ i, i ≤ h.length → cnts (h ++ m) o c i = cnts h o c i := by
  intro i
  induction i with
  | zero => intro _; rfl
  | succ i ih =>
    intro hi
    rw [cnts, cnts, ctx_append h m i o (by omega), ih (by omega), getD_append_lt (by omega)]
theorem pacc2_append (h m : List Nat) (i : Nat) (hi : i ≤ h.length) : ∀ o, pacc2 (h ++ m) i o = pacc2 h i o := by
  intro o
  induction o with
  | zero => rfl
  | succ o ih =>
    have e : hcnt (h ++ m) i o = hcnt h i o := by unfold hcnt; rw [ctx_append h m i o hi, cnts_append h m o _ i hi]
    rw [pacc2, pacc2, ih, e]
theorem predv_append (h m : List Nat) (i ord : Nat) (hi : i ≤ h.length) : predv (h ++ m) i ord = predv h i ord := by
  unfold predv
  rw [pacc2_append h m i hi]
theorem predv_take (h : List Nat) (k i ord : Nat) (hi : i ≤ k) (hk : k ≤ h.length) : predv (h.take k) i ord = predv h i ord := by
  have := predv_append (h.take k) (h.drop k) i ord (by rw [List.length_take]; omega)
  rw [List.take_append_drop] at this
  exact this.symm
theorem cnts_take (h : List Nat) (o : Nat) (c : Ctx) (k i : Nat) (hi : i ≤ k) (hk : k ≤ h.length) : cnts (h.take k) o c i = cnts h o c i := by
  have := cnts_append (h.take k) (h.drop k) o c i (by rw [List.length_take]; omega)
  rw [List.take_append_drop] at this
  exact this.symm
theorem ctx_take (h : List Nat) (o : Nat) (k i : Nat) (hi : i ≤ k) (hk : k ≤ h.length) : ctx (h.take k) i o = ctx h i o := by
  have := ctx_append (h.take k) (h.drop k) i o (by rw [List.length_take]; omega)
  rw [List.take_append_drop] at this
  exact this.symm
/-! A byte that is repeated. -/
/-- The prediction of order 0 for the first bit of a byte behind so many ones, zeros. -/
def tpred (k : Nat × Nat) : Nat := (2048 + wgt k 0 * mshare k) / (1 + wgt k 0)
theorem predv_zero (h : List Nat) (i : Nat) : predv h i 0 = tpred (hcnt h i 0) := rfl
theorem trust_one : ∀ j, j < 101 → tpred (0, j) ≤ tpred (0, j + 1) := by decide
theorem trust_zero : ∀ j, j < 101 → tpred (j + 1, 0) ≤ tpred (j, 0) := by decide
/-- A list whose bits at the beginnings of bytes are all the same: its counts there. -/
theorem cnts_same {h : List Nat} (h01 : Is01 h) (b : Nat) (hb : b ≤ 1) (hs : ∀ j, 8 * j < h.length → h.getD (8 * j) 0 = b) : ∀ i, i ≤ h.length → i ≤ 800 → cnts h 0 (0, 0, 0, 1) i = if b = 1 then (0, (i + 7) / 8) else ((i + 7) / 8, 0) := by
  intro i
  induction i with
  | zero => intro _ _; simp [cnts]
  | succ i ih =>
    intro hi h8
    have ih' := ih (by omega) (by omega)
    rw [cnts, ih']
    have hc : ctx h i 0 = (0, 0, 0, 1) ↔ i % 8 = 0 := by
      unfold ctx
      simp only [Prod.mk.injEq, true_and]
      rw [if_neg (by decide), if_neg (by decide)]
      simp only [true_and]
      constructor
      · intro e
        rcases mbeg_pos h01 i with c | c
        · rw [e] at c
          rcases Nat.eq_zero_or_pos (i % 8) with z | z
          · exact z
          · have : 2 ^ 1 ≤ 2 ^ (i % 8) := Nat.pow_le_pow_right (by decide) z
            omega
        · omega
      · intro e
        have c : cbeg i = i := by unfold cbeg; omega
        unfold mbeg
        rw [c, Nat.sub_self, List.take_zero]
        rfl
    by_cases hm : i % 8 = 0
    · rw [if_pos (hc.2 hm)]
      have hg := hs (i / 8) (by omega)
      rw [show 8 * (i / 8) = i by omega] at hg
      rw [hg]
      by_cases hb1 : b = 1
      · rw [if_pos hb1, if_pos hb1]
        unfold upd halve
        rw [if_pos hb1, if_neg (by dsimp only; omega)]
        dsimp only
        congr 1
        omega
      · rw [if_neg hb1, if_neg hb1]
        unfold upd halve
        rw [if_neg hb1, if_neg (by dsimp only; omega)]
        dsimp only
        congr 1
        omega
    · rw [if_neg (fun e => hm (hc.1 e))]
      have : (i + 7) / 8 = (i + 1 + 7) / 8 := by omega
      rw [this]
theorem hcnt_same {h : List Nat} (h01 : Is01 h) (b : Nat) (hb : b ≤ 1) (hs : ∀ j, 8 * j < h.length → h.getD (8 * j) 0 = b) (j : Nat) (hj : 8 * j ≤ h.length) (h8 : j ≤ 100) : hcnt h (8 * j) 0 = if b = 1 then (0, j) else (j, 0) := by
  have e : ctx h (8 * j) 0 = (0, 0, 0, 1) := by
    have c : cbeg (8 * j) = 8 * j := by unfold cbeg; omega
    unfold ctx mbeg
    rw [c, Nat.sub_self, List.take_zero]
    rfl
  unfold hcnt
  rw [e, cnts_same h01 b hb hs _ hj (by omega)]
  rw [show (8 * j + 7) / 8 = j by omega]
theorem trust {h : List Nat} (h01 : Is01 h) (b : Nat) (hb : b ≤ 1) (hs : ∀ j, 8 * j < h.length → h.getD (8 * j) 0 = b) (j : Nat) (hj : 8 * (j + 1) ≤ h.length) (h8 : j + 1 ≤ 100) :
    (b = 1 → predv h (8 * j) 0 ≤ predv h (8 * (j + 1)) 0) ∧ (b = 0 → predv h (8 * (j + 1)) 0 ≤ predv h (8 * j) 0) := by
  rw [predv_zero, predv_zero, hcnt_same h01 b hb hs j (by omega) (by omega), hcnt_same h01 b hb hs (j + 1) hj h8]
  constructor
  · rintro rfl; rw [if_pos rfl, if_pos rfl]; exact trust_one j (by omega)
  · rintro rfl; rw [if_neg (by decide), if_neg (by decide)]; exact trust_zero j (by omega)
end PB
end Go.Proofs.Ytmkkbedbgkhbpaa
