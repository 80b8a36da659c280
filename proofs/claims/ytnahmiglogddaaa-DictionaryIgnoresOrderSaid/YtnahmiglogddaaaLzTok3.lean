/-
  The comparison of two lists of tokens.
-/
import Derived.Test.YtnahmiglogddaaaLzTok2
import Derived.Deep.QuietTactic
import Derived.BigQuiet
namespace Go.Proofs.Ytnahmiglogddaaa
open Go.RowKit
attribute [local go_sem ↓] Go.wp_at_zero Go.wp_at_succ
set_option linter.unusedVariables false
set_option linter.unusedSimpArgs false
namespace PB
theorem same_uptoT {α : Type} (xs ys : List α) (h : xs.length = ys.length) : ∃ q, q ≤ xs.length ∧ (∀ i, i < q → xs[i]? = ys[i]?) ∧ (q < xs.length → xs[q]? ≠ ys[q]?) := by
  by_cases h1 : ∃ i, i < xs.length ∧ xs[i]? ≠ ys[i]?
  · obtain ⟨i0, h0⟩ := h1
    induction i0 using Nat.strongRecOn with
    | _ i0 ih =>
      by_cases h2 : ∃ i, i < i0 ∧ (i < xs.length ∧ xs[i]? ≠ ys[i]?)
      · obtain ⟨i, hi, hh⟩ := h2
        exact ih i hi hh
      · refine ⟨i0, by omega, fun i hi => ?_, fun _ => h0.2⟩
        by_cases h4 : xs[i]? = ys[i]?
        · exact h4
        · exact absurd ⟨i, hi, by omega, h4⟩ h2
  · refine ⟨xs.length, Nat.le_refl _, fun i hi => ?_, fun h => absurd h (by omega)⟩
    by_cases h4 : xs[i]? = ys[i]?
    · exact h4
    · exact absurd ⟨i, hi, h4⟩ h1
theorem run_neq_tok (d n lit d2 n2 lit2 : Int) (h : ¬ (d = d2 ∧ n = n2 ∧ lit = lit2)) (W : World) : (binOp .neq 54 (.agg #[.int .i64 d, .int .i64 n, .int .u8 lit]) (.agg #[.int .i64 d2, .int .i64 n2, .int .u8 lit2])).run Try.prog W = .ok (.bool true) W := by
  by_cases h1 : d = d2
  · subst h1
    by_cases h2 : n = n2
    · subst h2
      have h3 : ¬ lit = lit2 := fun e => h ⟨rfl, rfl, e⟩
      go_simp
    · go_simp
  · go_simp
theorem tok_ne {x y : Tok} (h : x ≠ y) : ¬ (x.d = y.d ∧ x.n = y.n ∧ ((x.lit : Nat) : Int) = ((y.lit : Nat) : Int)) := by
  rintro ⟨h1, h2, h3⟩
  apply h
  cases x; cases y
  simp only at h1 h2 h3
  subst h1 h2
  congr 1; omega
section
variable {P : Program}
/-- append(out, t): one token more. -/
theorem wpList_tok1 {ops : Array Oper} {rest : List Oper} {o : Oper} {a : Act} {Q : Exit → Act → World → Prop} (W : World) (hgd : o.guard = none) (s x : Operand) (t : TypeId)
    (ho : o.op = .call { callee := .builtin .append, args := #[s, x], argTypes := #[t, t] })
    (base : Nat) (e : TypeId) (i : TypeInfo) (z : Value) (bytes : Nat) (ht : P.underlying t = some (.slice e)) (hi : P.info? e = some i) (hz : i.zero = some z)
    (hsize : i.size = 3) (hby : i.bytes = bytes) (hzs : z.cells.size = 3)
    (v : Value) (n : Nat) (xs : List Value) (hs : a.eval s = v) (hown : W.ownsRow base e 3 v n xs)
    (u0 u1 u2 : Value) (h1 : ∀ u ∈ [u0, u1, u2], u.oneCell' = true) (hx : a.eval x = .slice (some ⟨W.heap.size, 0, none⟩) 1 1)
    (h63 : n + 1 ≤ maxLen) (hbytes : (n + 1) * bytes ≤ 140737488355328) (hbase : base ≤ W.heap.size)
    (h : ∀ A' c' w', w'.ownsRow base e 3 (.slice A' (n + 1) c') (n + 1) (xs ++ [u0, u1, u2]) → W.grownBy w' v.ownBlock → wpList P ops Q rest (a.put o.dst (.slice A' (n + 1) c')) w') :
    wpList P ops Q (o :: rest) a (W.alloc (.cells #[u0, u1, u2] e)) := by
  have hB := Blk.new W e #[u0, u1, u2]
  refine wpList_append_own (P := P) (W.alloc (.cells #[u0, u1, u2] e)) hgd s x t ho base e i z 3 bytes ht hi hz hsize hby hzs (by decide) v n xs hs (hown.alloc _) ⟨W.heap.size, 0, none⟩ 1 1 [u0, u1, u2] hx rfl (fun j u hj => ?_) h1 h63 hbytes (by simp; omega) ?_
  · have e : (⟨W.heap.size, 0, none⟩ : Addr).add j = ⟨W.heap.size, j, none⟩ := by
      unfold Addr.add
      by_cases hj : j = 0 <;> simp [hj]
    rw [e, hB.cell j]
    simpa using hj
  · intro v' w' h2 h3 _
    obtain ⟨A', c', rfl⟩ := own_shape h2
    refine h A' c' w' h2 ?_
    exact ⟨h3.os, h3.tape, h3.output, Nat.le_trans (by simp) h3.size, fun k hk hne => (h3.block k (by simp; omega) hne).trans (Below.heap_alloc W _ k hk)⟩
end
theorem tok_info : (Try.prog.info? 54).map (fun i => (i.zero, i.size, i.bytes)) = some (some (.agg #[.int .i64 0, .int .i64 0, .int .u8 0]), 3, 24) := by kernel_rfl
theorem tcells_cons (x : Tok) (l : List Tok) : tcells (x :: l) = .int .i64 x.d :: .int .i64 x.n :: .int .u8 (x.lit : Nat) :: tcells l := rfl
theorem tcells_set (l : List Tok) (i : Nat) (t : Tok) (hi : i < l.length) : (((tcells l).set (i * 3) (.int .i64 t.d)).set (i * 3 + 1) (.int .i64 t.n)).set (i * 3 + 2) (.int .u8 (t.lit : Nat)) = tcells (l.set i t) := by
  induction l generalizing i with
  | nil => exact absurd hi (Nat.not_lt_zero _)
  | cons x l ih =>
    cases i with
    | zero => rfl
    | succ i =>
      have := ih i (by simpa using hi)
      rw [List.set_cons_succ, tcells_cons, tcells_cons, ← this]
      rw [show (i + 1) * 3 = i * 3 + 1 + 1 + 1 by omega, show i * 3 + 1 + 1 + 1 + 1 = (i * 3 + 1) + 1 + 1 + 1 by omega, show i * 3 + 1 + 1 + 1 + 2 = (i * 3 + 2) + 1 + 1 + 1 by omega]
      simp only [List.set_cons_succ]
theorem madeTok (n : Nat) : (madeCells #[Value.int .i64 0, Value.int .i64 0, Value.int .u8 0] (n * 3)).toList = tcells (List.replicate n ⟨0, 0, 0⟩) := by
  refine List.ext_getElem? fun i => ?_
  rcases Nat.lt_or_ge i (n * 3) with h | h
  · have hk : i / 3 < n := by omega
    obtain ⟨q1, q2, q3⟩ := tcells_get (List.replicate n ⟨0, 0, 0⟩) (i / 3) ⟨0, 0, 0⟩ (by simp [List.getElem?_replicate, hk])
    have e : (madeCells #[Value.int .i64 0, Value.int .i64 0, Value.int .u8 0] (n * 3)).toList[i]? = some (#[Value.int .i64 0, Value.int .i64 0, Value.int .u8 0][i % 3]!) := by
      simp [madeCells, h]
    rw [e]
    rcases (by omega : i % 3 = 0 ∨ i % 3 = 1 ∨ i % 3 = 2) with h3 | h3 | h3
    · rw [h3, show i = i / 3 * 3 by omega, q1]; rfl
    · rw [h3, show i = i / 3 * 3 + 1 by omega, q2]; rfl
    · rw [h3, show i = i / 3 * 3 + 2 by omega, q3]; rfl
  · rw [List.getElem?_eq_none (by simp [size_madeCells]; omega), List.getElem?_eq_none (by rw [tcells_length]; simp; omega)]
theorem tcells_one (l : List Tok) : ∀ u ∈ tcells l, u.oneCell' = true := by
  intro u hu
  obtain ⟨x, _, hx⟩ := List.mem_flatMap.1 hu
  simp only [tcell, List.mem_cons, List.not_mem_nil, or_false] at hx
  rcases hx with rfl | rfl | rfl <;> rfl
theorem bitLen_mono_le {m n : Nat} (h1 : 1 ≤ m) (h : m ≤ n) (hn : n < 2 ^ 64) : Lib.bitLen m ≤ Lib.bitLen n := by
  obtain ⟨a1, a2, a3⟩ := bitLen_bounds m h1 (by omega)
  obtain ⟨b1, b2, b3⟩ := bitLen_bounds n (by omega) hn
  rcases Nat.lt_or_ge (Lib.bitLen n) (Lib.bitLen m) with h4 | h4
  · have : 2 ^ Lib.bitLen n ≤ 2 ^ (Lib.bitLen m - 1) := Nat.pow_le_pow_right (by decide) (by omega)
    omega
  · exact h4
theorem gsz_mono {a b : Nat} (h1 : 1 ≤ a) (h : a ≤ b) (hb : b < 1000000) : gsz a ≤ gsz b := by
  have := bitLen_mono_le h1 h (by omega)
  unfold gsz; omega
end PB
end Go.Proofs.Ytnahmiglogddaaa
