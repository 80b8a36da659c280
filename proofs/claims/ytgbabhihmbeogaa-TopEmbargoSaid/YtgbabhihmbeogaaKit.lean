/-
  Steps that the walks share: one element more at the end of a row of the call's own; a row that is made with zeros; facts on worlds that were drawn. No program stands in this text.
-/
import Derived.Test.YtgbabhihmbeogaaBitsRef2
import Derived.OwnWalk
namespace Go.Proofs.Ytgbabhihmbeogaa
open Go.RowKit
set_option linter.unusedVariables false
set_option linter.unusedSimpArgs false
namespace PB
/-- One proof for several goals: the shared statement is found by unification. -/
theorem share {T p : Prop} (h : T → p) (t : T) : p := h t
theorem Rd.drewN {w : World} {A : Option Addr} {n c : Nat} {xs : List Value} (h : Rd w A n c xs) (q : Nat) : Rd (w.drewN q) A n c xs := h
theorem Two.drewN {w : World} {s : Nat} {t : TypeId} {v0 v1 : Value} (h : Two w s t v0 v1) (q : Nat) : Two (w.drewN q) s t v0 v1 := h
theorem belowD {B : Nat} {a w : World} (h : Below B a w) : Below B a w.drew := ⟨h.os, h.tape, h.output, h.size, h.block⟩
theorem own_drewN {w : World} {base : Nat} {e : TypeId} {size : Nat} {v : Value} {n : Nat} {xs : List Value} (h : w.ownsRow base e size v n xs) (q : Nat) : (w.drewN q).ownsRow base e size v n xs := h
theorem own_drew {w : World} {base : Nat} {e : TypeId} {size : Nat} {v : Value} {n : Nat} {xs : List Value} (h : w.ownsRow base e size v n xs) : w.drew.ownsRow base e size v n xs := h
/-- What is behind a call that grew one row: the row's block is not below the base. -/
theorem below_grown {base : Nat} {a w w' : World} {e : TypeId} {size n B : Nat} {v : Value} {xs : List Value} (h : Below B a w) (ho : w.ownsRow base e size v n xs) (hg : w.grownBy w' v.ownBlock) (hB : B ≤ base) (hB2 : B ≤ w.heap.size) : Below B a w' :=
  h.grown hg hB2 (fun g hg => Nat.le_trans hB (ho.lt g hg).1)
/-- A row that can be read stays so behind a call that grew another row. -/
theorem Rd.grown {w w' : World} {A : Option Addr} {n c : Nat} {xs : List Value} {row : Option Nat} (h : Rd w A n c xs) (hg : w.grownBy w' row) (hA : ∀ b off, A = some ⟨b, off, none⟩ → 0 < n → some b ≠ row) : Rd w' A n c xs := by
  obtain ⟨h1, h2, h3, h4⟩ := h
  refine ⟨h1, h2, h3, fun hn => ?_⟩
  obtain ⟨b, off, e, hb, hc⟩ := h4 hn
  exact ⟨b, off, e, Nat.lt_of_lt_of_le hb hg.size, fun j u hu => (World.cell?_of_block (hg.block b hb (hA b off e hn))).trans (hc j u hu)⟩
section
variable {P : Program}
/-- append(out, x): one element more. -/
theorem wpList_app1 {ops : Array Oper} {rest : List Oper} {o : Oper} {a : Act} {Q : Exit → Act → World → Prop} (W : World) (hgd : o.guard = none) (s x : Operand) (t : TypeId)
    (ho : o.op = .call { callee := .builtin .append, args := #[s, x], argTypes := #[t, t] })
    (base : Nat) (e : TypeId) (i : TypeInfo) (z : Value) (bytes : Nat) (ht : P.underlying t = some (.slice e)) (hi : P.info? e = some i) (hz : i.zero = some z)
    (hsize : i.size = 1) (hby : i.bytes = bytes) (hzs : z.cells.size = 1)
    (v : Value) (n : Nat) (xs : List Value) (hs : a.eval s = v) (hown : W.ownsRow base e 1 v n xs)
    (u : Value) (h1 : u.oneCell' = true) (hx : a.eval x = .slice (some ⟨W.heap.size, 0, none⟩) 1 1)
    (h63 : n + 1 ≤ maxLen) (hbytes : (n + 1) * bytes ≤ 140737488355328) (hbase : base ≤ W.heap.size)
    (h : ∀ A' c' w', w'.ownsRow base e 1 (.slice A' (n + 1) c') (n + 1) (xs ++ [u]) → W.grownBy w' v.ownBlock → wpList P ops Q rest (a.put o.dst (.slice A' (n + 1) c')) w') :
    wpList P ops Q (o :: rest) a (W.alloc (.cells #[u] e)) := by
  have hr : Reads (W.alloc (.cells #[u] e)) (W.heap.size + 1) (some ⟨W.heap.size, 0, none⟩) 1 1 [u] := by
    refine ⟨rfl, Nat.le_refl _, by decide, fun _ => ⟨W.heap.size, 0, rfl, by omega, fun j y hj => ?_⟩⟩
    have := one_new W W.heap.size rfl u e j y hj
    have e : (⟨W.heap.size, 0, none⟩ : Addr).add j = ⟨W.heap.size, 0 + j, none⟩ := by
      unfold Addr.add
      by_cases hj : j = 0 <;> simp [hj]
    rw [e] at this
    exact this
  refine wpList_append_any (P := P) (W.alloc (.cells #[u] e)) hgd s x t ho base e i z bytes ht hi hz hsize hby hzs v n xs hs (hown.alloc _) (W.heap.size + 1) _ 1 1 [u] hx hr (by simpa using h1) h63 hbytes (by simp; omega) ?_
  intro A' c' w' h2 h3 _
  refine h A' c' w' h2 ?_
  exact ⟨h3.os, h3.tape, h3.output, Nat.le_trans (by simp) h3.size, fun k hk hne => (h3.block k (by simp; omega) hne).trans (Below.heap_alloc W _ k hk)⟩
/-- make([]T, n), elements of one cell: n zeros, in new memory. -/
theorem wpList_make1 {ops : Array Oper} {rest : List Oper} {o : Oper} {a : Act} {Q : Exit → Act → World → Prop} (w : World)
    (hg : o.guard = none) (l c : Operand) (t : TypeId) (hop : o.op = Op.makeSlice t l c)
    (e : TypeId) (i : TypeInfo) (z : Value) (bytes : Nat) (h1 : P.underlying t = some (.slice e)) (h2 : P.info? e = some i) (h3 : i.zero = some z) (h4 : i.size = 1) (h5 : i.bytes = bytes) (hzz : z.cells = #[z])
    (kl kc : IntKind) (L C : Int) (n : Nat) (hl : a.eval l = .int kl L) (hc : a.eval c = .int kc C) (hL : L = (n : Int)) (hC : C = (n : Int)) (b2 : bytes * n ≤ 281474976710656) (b3 : n ≤ maxLen)
    (hK : ∀ w', w'.ownsRow w.heap.size e 1 (.slice (some ⟨w.heap.size, 0, none⟩) n n) n (List.replicate n z) → Below w.heap.size w w' → w.heap.size < w'.heap.size → wpList P ops Q rest (a.put o.dst (.slice (some ⟨w.heap.size, 0, none⟩) n n)) w') :
    wpList P ops Q (o :: rest) a w := by
  refine wpList_make_full (P := P) w hg l c t hop w.heap.size e i z 1 h1 h2 h3 h4 kl kc L C n hl hc hL hC (by rw [h5]; exact b2) b3 (Nat.le_refl _) ?_
  intro w' ho hgr
  have ho' : w'.ownsRow w.heap.size e 1 (.slice (some ⟨w.heap.size, 0, none⟩) n n) n (List.replicate n z) := by
    rw [hzz, Nat.mul_one, toList_madeCells_one] at ho
    exact ho
  exact hK w' ho' ((Below.refl _ _).grown hgr (Nat.le_refl _) (by simp)) (ho'.lt _ rfl).2
/-- append in a region that draws its order, behind a guard that is met. -/
theorem step_append_want {w : World} {ops : Array Oper} {o : Oper} {a : Act} {K : Act → World → Prop} {Q : Exit → Act → World → Prop} {E : Prop} (hw : Region.wanted o (yielded ops a.tmps) = true) (s x : Operand) (t : TypeId)
    (ho : o.op = .call { callee := .builtin .append, args := #[s, x], argTypes := #[t, t] })
    (base : Nat) (e : TypeId) (i : TypeInfo) (z : Value) (bytes : Nat) (ht : P.underlying t = some (.slice e)) (hi : P.info? e = some i) (hz : i.zero = some z)
    (hsize : i.size = 1) (hby : i.bytes = bytes) (hzs : z.cells.size = 1)
    (v : Value) (n : Nat) (xs : List Value) (hs : a.eval s = v) (hown : w.ownsRow base e 1 v n xs)
    (B : Nat) (A : Option Addr) (m c : Nat) (news : List Value) (hx : a.eval x = .slice A m c) (hr : Reads w B A m c news) (h1 : ∀ u ∈ news, u.oneCell' = true)
    (h63 : n + m ≤ maxLen) (hbytes : (n + m) * bytes ≤ 140737488355328) (hbase : base ≤ w.heap.size)
    (h : ∀ A' c' w', w'.ownsRow base e 1 (.slice A' (n + m) c') (n + m) (xs ++ news) → w.grownBy w' v.ownBlock → ((Value.slice A' (n + m) c').ownBlock = v.ownBlock ∨ (Value.slice A' (n + m) c').ownBlock = some w.heap.size) → K (a.put o.dst (.slice A' (n + m) c')) w') :
    if Region.wanted o (yielded ops a.tmps) = true then Oper.wp P o a w K Q else E := by
  rw [if_pos hw]
  exact wp_append_any w s x t ho base e i z bytes ht hi hz hsize hby hzs v n xs hs hown B A m c news hx hr h1 h63 hbytes hbase h
end
/-- A part of a row of numbers, as Go's slice expression spells it. -/
theorem Rd.sub {w : World} {A : Option Addr} {n c : Nat} {l : List Nat} (h : Rd w A n c (ncells l)) (f m : Nat) (hm : f + m ≤ l.length) (hc : f < c) :
    Rd w (A.map fun x => x.add f) m (c - f) (ncells ((l.drop f).take m)) := by
  have hn := h.len
  rw [ncells_length] at hn
  obtain ⟨h1, h2, h3, h4⟩ := h
  refine ⟨by rw [ncells_length, List.length_take, List.length_drop]; omega, by omega, by omega, fun h0 => ?_⟩
  obtain ⟨b, off, e, hb, hcc⟩ := h4 (by omega)
  refine ⟨b, off + f, ?_, hb, fun j u hu => ?_⟩
  · rw [e]
    show some ((⟨b, off, none⟩ : Addr).add f) = _
    unfold Addr.add
    by_cases hf : f = 0 <;> simp [hf]
  have hj : j < m := by
    rcases Nat.lt_or_ge j m with h | h
    · exact h
    · rw [List.getElem?_eq_none (by rw [ncells_length, List.length_take, List.length_drop]; omega)] at hu; cases hu
  have := hcc (f + j) u (by
    rw [← hu]
    unfold ncells
    rw [List.getElem?_map, List.getElem?_map, List.getElem?_take, if_pos hj, List.getElem?_drop])
  rw [Nat.add_assoc]
  exact this
theorem Rd.sub_none {w : World} {A : Option Addr} {c : Nat} {xs : List Value} (hc : c ≤ maxLen) (hx : xs = []) : Rd w A 0 c xs := by
  subst hx
  exact Reads.nil _ _ A c hc
/-- A part of a row of numbers: Go's slice expression, and what its value reads as. -/
theorem Rd.cut {P : Program} {w : World} {A : Option Addr} {n c : Nat} {l : List Nat} (t e : TypeId) (i : TypeInfo) (ht : P.underlying t = some (.slice e)) (hi : P.info? e = some i) (hsize : i.size = 1) (h : Rd w A n c (ncells l)) (f fin : Nat) (hf : f ≤ fin) (hto : fin ≤ l.length) :
    ∃ A', (∀ W, (Instr.slice t (.slice A n c) (some (.int .i64 (f : Nat))) (some (.int .i64 (fin : Nat))) none).run P W = .ok (.slice A' (fin - f) (c - f)) W) ∧ Rd w A' (fin - f) (c - f) (ncells ((l.drop f).take (fin - f))) := by
  have hn := h.len
  rw [ncells_length] at hn
  have hcap := Reads.cap h
  have hcm := Reads.capMax h
  have hrun : ∀ W, (Instr.slice t (.slice A n c) (some (.int .i64 (f : Nat))) (some (.int .i64 (fin : Nat))) none).run P W = .ok (.slice (if c = f then A else A.map (·.add (f * 1))) (fin - f) (c - f)) W := by
    intro W
    have h1 : fin ≤ c := by omega
    simp [Instr.slice, Instr.sliceBounds, Instr.sliceBound, asIntOf, run_underlying ht, sizeOf, typeInfo, hi, hsize, h1, hf, go_sem]
  refine ⟨_, hrun, ?_⟩
  by_cases hc : c = f
  · rw [if_pos hc]
    have h0 : fin - f = 0 := by omega
    rw [h0, List.take_zero]
    exact Reads.nil _ _ A _ (by omega)
  · rw [if_neg hc]
    have := h.sub f (fin - f) (by omega) (by omega)
    simpa using this
end PB
end Go.Proofs.Ytgbabhihmbeogaa
