/-
  Results of a report: what their cells hold; slices of them; entries appended.
-/
import Derived.Test.YtgbabhihmbeogaaTeVis
namespace Go.Proofs.Ytgbabhihmbeogaa
open Go.RowKit
attribute [local go_sem ↓] Go.wp_at_zero Go.wp_at_succ
set_option linter.unusedVariables false
set_option linter.unusedSimpArgs false
namespace PB
/-- A slice of results that can be read: an entry and three cells more. -/
def RdS (w : World) (A : Option Addr) (n c : Nat) (rs : List (Ent × List Value)) : Prop :=
  rs.length = n ∧ n ≤ c ∧ c ≤ maxLen ∧ (0 < n → ∃ b off, A = some ⟨b, off, none⟩ ∧ b < w.heap.size ∧ ∀ (i : Nat) (x : Ent × List Value), rs[i]? = some x → w.rangeAt b (off + i * 79) (x.1.cs ++ x.2)) ∧ ∀ x ∈ rs, x.1.Is w ∧ x.2.length = 3 ∧ ∀ v ∈ x.2, v.oneCell' = true
section
variable {w w' : World} {A : Option Addr} {n c : Nat} {rs : List (Ent × List Value)}
theorem RdS.on (h : RdS w A n c rs) (hb : Below w.heap.size w w') : RdS w' A n c rs := by
  obtain ⟨h1, h2, h3, h4, h5⟩ := h
  refine ⟨h1, h2, h3, fun hn => ?_, fun x hx => ⟨(h5 x hx).1.on hb, (h5 x hx).2⟩⟩
  obtain ⟨b, off, e, hlt, hc⟩ := h4 hn
  exact ⟨b, off, e, Nat.lt_of_lt_of_le hlt hb.size, fun i x hx => rangeAt_below (hc i x hx) hb hlt⟩
theorem RdS.alloc (h : RdS w A n c rs) (o : Obj) : RdS (w.alloc o) A n c rs := h.on ((Below.refl _ _).alloc (Nat.le_refl _) o)
theorem RdS.len (h : RdS w A n c rs) : rs.length = n := h.1
theorem RdS.at (h : RdS w A n c rs) (k : Nat) (hk : k < rs.length) : ∃ b off, A = some ⟨b, off, none⟩ ∧ b < w.heap.size ∧ w.rangeAt b (off + k * 79) ((rs[k]).1.cs ++ (rs[k]).2) := by
  obtain ⟨h1, h2, h3, h4, h5⟩ := h
  obtain ⟨b, off, e, hlt, hc⟩ := h4 (by omega)
  exact ⟨b, off, e, hlt, hc k _ (List.getElem?_eq_getElem hk)⟩
theorem RdS.is (h : RdS w A n c rs) (k : Nat) (hk : k < rs.length) : (rs[k]).1.Is w ∧ (rs[k]).2.length = 3 ∧ ∀ v ∈ (rs[k]).2, v.oneCell' = true := h.2.2.2.2 _ (List.getElem_mem hk)
end
theorem res_size : (Try.prog.info? 42).map (·.size) = some 79 := by kernel_rfl
theorem res_row : ∃ d, Try.prog.underlying 42 = some d ∧ d.isRow = true := ⟨_, Try.underlying42, rfl⟩
theorem res_zero : ∃ Z : Array Value, Z.size = 79 ∧ ∀ w, (zeroValue 42).run Try.prog w = .ok (.agg Z) w := by
  have h : (Try.prog.info? 42).map (fun i => (i.zero, i.size)) = some (some (.agg (#[.string ⟨#[]⟩, .int .i64 0, .int .i64 0, .int .i64 0, .int .i64 0] ++ Array.replicate 32 (.int .u8 0) ++ #[.slice none 0 0, .slice none 0 0, .int .i64 0, .int .i64 0, .int .i64 0, .int .i64 0] ++ Array.replicate 32 (.int .u8 0) ++ #[.slice none 0 0, .bool false, .slice none 0 0, .slice none 0 0])), 79) := by kernel_rfl
  exact ⟨_, by decide +kernel, (zero_of_info h).1⟩
theorem res_load {w : World} {b o : Nat} {cs : List Value} (h : w.rangeAt b o cs) (hl : cs.length = 79) : (Instr.loadAt 42 (.pointer (some ⟨b, o, none⟩))).run Try.prog w = .ok (.agg cs.toArray) w := by
  obtain ⟨d, h1, h2⟩ := res_row
  exact run_loadAt_mid w b o _ cs d h h1 h2 (by rw [res_size, hl])
theorem res_scells (w : World) {Z : Array Value} (hZ : Z.size = 79) {cs : List Value} (hl : cs.length = 79) (h1 : ∀ v ∈ cs, v.oneCell' = true) :
    (storeCells ⟨w.heap.size, 0, none⟩ cs.toArray.toList 0).run Try.prog (w.alloc (.cells Z 42)) = .ok () (w.alloc (.cells cs.toArray 42)) :=
  run_storeCells_new w _ Z cs.toArray (by rw [res_size]; simp [hl]) (by simp [hZ, hl]) (all_oneCell_toArray h1)
theorem ent_info : ∃ z : Value, z.cells.size = 76 ∧ (Try.prog.info? 39).map (fun i => (i.zero, i.size, i.bytes)) = some (some z, 76, 216) := by
  refine ⟨.agg (#[.string ⟨#[]⟩, .int .i64 0, .int .i64 0, .int .i64 0, .int .i64 0] ++ Array.replicate 32 (.int .u8 0) ++ #[.slice none 0 0, .slice none 0 0, .int .i64 0, .int .i64 0, .int .i64 0, .int .i64 0] ++ Array.replicate 32 (.int .u8 0) ++ #[.slice none 0 0]), by decide +kernel, by kernel_rfl⟩
/-- The cells of entries. -/
def flat (es : List Ent) : List Value := es.flatMap (·.cs)
theorem flat_snoc (es : List Ent) (e : Ent) : flat (es ++ [e]) = flat es ++ e.cs := by simp [flat]
theorem flat_len {es : List Ent} (h : ∀ e ∈ es, e.cs.length = 76) : (flat es).length = es.length * 76 := by
  induction es with
  | nil => rfl
  | cons e es ih =>
    have h1 := h e List.mem_cons_self
    have h2 := ih (fun x hx => h x (List.mem_cons_of_mem _ hx))
    simp only [flat, List.flatMap_cons, List.length_append, List.length_cons] at h2 ⊢
    omega
theorem flat_get {es : List Ent} (h : ∀ e ∈ es, e.cs.length = 76) {i : Nat} {e : Ent} (hi : es[i]? = some e) {j : Nat} {v : Value} (hj : e.cs[j]? = some v) : (flat es)[i * 76 + j]? = some v := by
  induction es generalizing i with
  | nil => simp at hi
  | cons x es ih =>
    have hx := h x List.mem_cons_self
    have e0 : flat (x :: es) = x.cs ++ flat es := by simp [flat]
    rw [e0]
    cases i with
    | zero =>
      obtain rfl : x = e := by simpa using hi
      have hjl : j < x.cs.length := (List.getElem?_eq_some_iff.1 hj).1
      rw [List.getElem?_append_left (by omega)]
      simpa using hj
    | succ i =>
      have := ih (fun y hy => h y (List.mem_cons_of_mem _ hy)) (i := i) (by simpa using hi)
      rw [List.getElem?_append_right (by omega), hx, show (i + 1) * 76 + j - 76 = i * 76 + j by omega]
      exact this
theorem RdE.own {w : World} {base : Nat} {e : TypeId} {A : Option Addr} {n c : Nat} {es : List Ent} (h : w.ownsRow base e 76 (.slice A n c) n (flat es)) (his : ∀ x ∈ es, x.Is w) : RdE w A n c es := by
  have hl76 : ∀ x ∈ es, x.cs.length = 76 := fun x hx => (his x hx).len
  have hl := h.1
  rw [flat_len hl76] at hl
  have hl2 : es.length = n := by omega
  refine ⟨hl2, ?_⟩
  rcases h.2 with ⟨h1, h2⟩ | ⟨g, cap, cur, h1, h2, h3, h4, h5, h6, h7⟩
  · injection h1 with e1 e2 e3
    subst e1 e2 e3
    exact ⟨Nat.le_refl _, Nat.zero_le _, fun h => absurd h (by decide), his⟩
  · injection h1 with e1 e2 e3
    subst e1 e3
    refine ⟨h4, h5, fun hn => ?_, his⟩
    have hcells := World.ownsRow.cells h (g := g) rfl
    refine ⟨g, 0, rfl, ?_, fun i x hx j v hv => ?_⟩
    · rcases Nat.lt_or_ge g w.heap.size with h | h
      · exact h
      · rw [Array.getElem?_eq_none h] at h3; cases h3
    · have := hcells _ _ (flat_get hl76 hx hv)
      rw [Addr.add_mid] at this
      rw [Nat.zero_add]
      exact (by simpa using this)
section
variable {P : Program}
/-- append(out, e): one entry more. -/
theorem wpList_ent1 {ops : Array Oper} {rest : List Oper} {o : Oper} {a : Act} {Q : Exit → Act → World → Prop} (W : World) (hgd : o.guard = none) (s x : Operand) (t : TypeId)
    (ho : o.op = .call { callee := .builtin .append, args := #[s, x], argTypes := #[t, t] })
    (base : Nat) (e : TypeId) (i : TypeInfo) (z : Value) (bytes : Nat) (ht : P.underlying t = some (.slice e)) (hi : P.info? e = some i) (hz : i.zero = some z)
    (hsize : i.size = 76) (hby : i.bytes = bytes) (hzs : z.cells.size = 76)
    (v : Value) (n : Nat) (xs : List Value) (hs : a.eval s = v) (hown : W.ownsRow base e 76 v n xs)
    (cs : List Value) (hl : cs.length = 76) (h1 : ∀ u ∈ cs, u.oneCell' = true) (hx : a.eval x = .slice (some ⟨W.heap.size, 0, none⟩) 1 1)
    (h63 : n + 1 ≤ maxLen) (hbytes : (n + 1) * bytes ≤ 140737488355328) (hbase : base ≤ W.heap.size)
    (h : ∀ A' c' w', w'.ownsRow base e 76 (.slice A' (n + 1) c') (n + 1) (xs ++ cs) → W.grownBy w' v.ownBlock → wpList P ops Q rest (a.put o.dst (.slice A' (n + 1) c')) w') :
    wpList P ops Q (o :: rest) a (W.alloc (.cells cs.toArray e)) := by
  have hB := Blk.new W e cs.toArray
  refine wpList_append_own (P := P) (W.alloc (.cells cs.toArray e)) hgd s x t ho base e i z 76 bytes ht hi hz hsize hby hzs (by decide) v n xs hs (hown.alloc _) ⟨W.heap.size, 0, none⟩ 1 1 cs hx (by rw [hl]) (fun j u hj => ?_) h1 h63 hbytes (by simp; omega) ?_
  · rw [Addr.add_mid, Nat.zero_add, hB.cell j]
    simpa using hj
  · intro v' w' h2 h3 _
    obtain ⟨A', c', rfl⟩ := own_shape h2
    refine h A' c' w' h2 ?_
    exact ⟨h3.os, h3.tape, h3.output, Nat.le_trans (by simp) h3.size, fun k hk hne => (h3.block k (by simp; omega) hne).trans (Below.heap_alloc W _ k hk)⟩
end
end PB
end Go.Proofs.Ytgbabhihmbeogaa
