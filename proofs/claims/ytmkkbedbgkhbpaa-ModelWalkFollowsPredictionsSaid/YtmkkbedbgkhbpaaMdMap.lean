/-
  The model's table: a map from contexts to counts, as a function on contexts; the contexts' key law; variables of five cells.
-/
import Derived.Test.YtmkkbedbgkhbpaaBoxes
import Derived.Test.YtmkkbedbgkhbpaaKit
import Derived.Test.YtmkkbedbgkhbpaaRegL
import Derived.Test.YtmkkbedbgkhbpaaMdPlain
import Derived.Maps.OwnSet
import Derived.DeepKeys4
namespace Go.Proofs.Ytmkkbedbgkhbpaa
open Go.RowKit
set_option linter.unusedVariables false
set_option linter.unusedSimpArgs false
namespace PB
/-- The value of a context; of counts. -/
def cval (c : Ctx) : Value := .agg #[.int .i64 (c.1 : Nat), .int .i64 (c.2.1 : Nat), .int .i64 (c.2.2.1 : Nat), .int .i64 (c.2.2.2 : Nat)]
def kval (k : Nat × Nat) : Value := .agg #[.int .i64 (k.1 : Nat), .int .i64 (k.2 : Nat)]
def kdat (k : Nat × Nat) : DataW Unit := .agg [.lit (.int .i64 (k.1 : Nat)), .lit (.int .i64 (k.2 : Nat))]
/-- A context whose numbers fit. -/
def CtxOk (c : Ctx) : Prop := c.1 < 256 ∧ c.2.1 < 256 ∧ c.2.2.1 < 256 ∧ c.2.2.2 < 256
/-- How counts read. -/
def cntR (v : Value) : Option (DataW Unit × List MemPlace) :=
  match v with
  | .agg cs => match cs.toList with
    | [.int .i64 z, .int .i64 o] => some (.agg [.lit (.int .i64 z), .lit (.int .i64 o)], [])
    | _ => none
  | _ => none
theorem cntR_mk (k : Nat × Nat) : cntR (kval k) = some (kdat k, []) := rfl
theorem cntR_inv {v : Value} {k : Nat × Nat} {ps : List MemPlace} (h : cntR v = some (kdat k, ps)) : v = kval k := by
  unfold cntR at h
  split at h
  · rename_i cs
    split at h
    · rename_i z o he
      simp only [kdat, Option.some.injEq, Prod.mk.injEq, DataW.agg.injEq, List.cons.injEq, DataW.lit.injEq, Lit.int.injEq, true_and, and_true] at h
      obtain ⟨⟨h1, h2⟩, h3⟩ := h
      subst h1 h2
      unfold kval
      congr 1
      exact Array.toList_inj.1 he
    · cases h
  · cases h
theorem ctx_row : (57 : TypeId) < Try.prog.types.size := of_decide_eq_true (by kernel_rfl)
theorem laid_out : laidOutB Try.prog = true := by kernel_rfl
theorem ctx_law : Go.Maps.Keyed Try.prog 57 :=
  Go.Maps.Keyed.of_law (deep_law_laid laid_out (m := 2) (by omega) ctx_row (by kernel_rfl) (by kernel_rfl))
theorem ctx_cells : Try.prog.cellsOf 57 = 4 := by kernel_rfl
theorem int_cells : Try.prog.cellsOf 3 = 1 := by kernel_rfl
theorem ctx_kt : Try.prog.keyType 57 = true := by kernel_rfl
theorem key_any {c : Ctx} (h : CtxOk c) : ∃ l, keyOf Try.prog 57 (cval c) = some l := by
  obtain ⟨ha, hb, hc, hd⟩ := h
  have key : ∀ x : Nat, x < 256 → (Lit.int .i64 (x : Nat)).wf = true := by
    intro x hx
    exact WalkArith.wf_i64 (by omega)
  have k1 := key _ ha
  have k2 := key _ hb
  have k3 := key _ hc
  have k4 := key _ hd
  obtain ⟨m, hm⟩ : ∃ m, Try.prog.types.size = m + 1 := ⟨_, Try.types_size⟩
  unfold keyOf
  simp only [Try.underlying57]
  rw [if_pos (by simp [ctx_kt, Value.formed, cval, Try.underlying57, ctx_cells]), hm]
  unfold Program.keyLits
  simp only [Try.underlying57, cval, Value.cells, ctx_cells, int_cells]
  simp [Program.keyLits, Try.underlying3, int_cells, k1, k2, k3, k4]
/-- Block b is a table of at most n contexts; the counts at a context are those of f. -/
def CM (w : World) (b n : Nat) (f : Ctx → Nat × Nat) : Prop :=
  ∃ D, w.ownsMap Try.prog 57 cntR b n D ∧ ∀ c, CtxOk c → ∀ l, keyOf Try.prog 57 (cval c) = some l → D.atKey l (kdat (0, 0)) = kdat (f c)
theorem cval_inj {c c' : Ctx} (h : cval c = cval c') : c = c' := by
  obtain ⟨a1, a2, a3, a4⟩ := c
  obtain ⟨b1, b2, b3, b4⟩ := c'
  simp only [cval, Value.agg.injEq, Array.mk.injEq, List.cons.injEq, Value.int.injEq, true_and, and_true] at h
  obtain ⟨h1, h2, h3, h4⟩ := h
  congr 1
  · omega
  congr 1
  · omega
  congr 1
  · omega
  · omega
theorem zero_counts (w : World) : (zeroValue 59).run Try.prog w = .ok (kval (0, 0)) w := by kernel_rfl
/-- Counts, with others at one context. -/
def fset (f : Ctx → Nat × Nat) (c : Ctx) (k : Nat × Nat) (c' : Ctx) : Nat × Nat := if c' = c then k else f c'
section
variable {w w' : World} {b n : Nat} {f : Ctx → Nat × Nat}
theorem CM.made (w : World) : CM (w.alloc (.map #[] 0)) w.heap.size 0 (fun _ => (0, 0)) :=
  ⟨_, World.ownsMap_made _ _ _ _, fun _ _ _ _ => rfl⟩
theorem CM.lt (h : CM w b n f) : b < w.heap.size := by obtain ⟨D, h, _⟩ := h; exact h.lt
theorem CM.kept {row : Option Nat} (h : CM w b n f) (hg : w.grownBy w' row) (hne : some b ≠ row) : CM w' b n f := by obtain ⟨D, h, r⟩ := h; exact ⟨D, h.kept hg hne, r⟩
theorem CM.below {B : Nat} (h : CM w b n f) (hb : Below B w w') (hg : b < B) : CM w' b n f := by
  obtain ⟨D, ⟨es, clock, h1, h2⟩, r⟩ := h
  exact ⟨D, ⟨es, clock, (hb.block b hg).trans h1, h2⟩, r⟩
theorem CM.on (h : CM w b n f) (hb : Below w.heap.size w w') : CM w' b n f := h.below hb h.lt
theorem CM.alloc (h : CM w b n f) (o : Obj) : CM (w.alloc o) b n f := h.on ((Below.refl _ _).alloc (Nat.le_refl _) o)
theorem CM.drew (h : CM w b n f) : CM w.drew b n f := h
theorem CM.drewN (h : CM w b n f) (q : Nat) : CM (w.drewN q) b n f := h
theorem CM.setCell (h : CM w b n f) {a : Addr} (ha : b ≠ a.block) (u : Value) : CM (w.setCell a u) b n f := by obtain ⟨D, h, r⟩ := h; exact ⟨D, h.setCell ha u, r⟩
theorem CM.ne (h : CM w b n f) {g : Nat} {t : TypeId} {cs : Array Value} (hg : Blk w g t cs) : b ≠ g := by
  rintro rfl
  obtain ⟨D, ⟨es, clock, h1, h2⟩, r⟩ := h
  unfold Blk at hg
  rw [hg] at h1
  cases h1
/-- m.table[c]. -/
theorem CM.look (h : CM w b n f) {c : Ctx} (hc : CtxOk c) : (Instr.lookup 46 (.map (some b)) (cval c) false).run Try.prog w = .ok (kval (f c)) w := by
  obtain ⟨D, h, r⟩ := h
  obtain ⟨l, hl⟩ := key_any hc
  obtain ⟨v, ps, hrun, hv⟩ := h.lookup (z := kval (0, 0)) ctx_law Try.underlying46 (zero_counts w) (cntR_mk (0, 0)) hl
  rw [r c hc l hl] at hv
  rw [hrun, cntR_inv hv]
/-- m.table[c] = k. -/
theorem CM.store (h : CM w b n f) {c : Ctx} (hc : CtxOk c) (hn : n < maxLen) (k : Nat × Nat) :
    ∃ w', (Instr.mapUpdate 46 (.map (some b)) (cval c) (kval k)).run Try.prog w = .ok () w' ∧ CM w' b (n + 1) (fset f c k) ∧ w.grownBy w' (some b) := by
  obtain ⟨D, h, r⟩ := h
  obtain ⟨l, hl⟩ := key_any hc
  obtain ⟨w', h1, h2, h3⟩ := h.update ctx_law Try.underlying46 hn hl (cntR_mk k)
  refine ⟨w', h1, ⟨_, h2, fun c' hc' l' hl' => ?_⟩, h3⟩
  by_cases e : c' = c
  · subst e
    rw [hl] at hl'
    cases hl'
    unfold fset
    rw [if_pos rfl, Go.Maps.atKey_put_same h.isMap (ctx_law.key hl)]
  · unfold fset
    rw [if_neg e, Go.Maps.atKey_put_other (fun (e2 : l' = l) => e (cval_inj (ctx_law.inj (show keyOf _ _ (cval c') = some l by rw [← e2]; exact hl') hl)))]
    exact r c' hc' l' hl'
end
/-- The predictor in block s, its table in block b. -/
structure Pm (w : World) (s b n : Nat) (ord la be bg : Nat) (f : Ctx → Nat × Nat) : Prop where
  blk : Blk w s 48 #[.int .i64 (ord : Nat), .map (some b), .int .i64 (la : Nat), .int .i64 (be : Nat), .int .i64 (bg : Nat)]
  cm : CM w b n f
section
variable {w w' : World} {s b n ord la be bg : Nat} {f : Ctx → Nat × Nat}
theorem Pm.c0 (h : Pm w s b n ord la be bg f) : w.cell? ⟨s, 0, none⟩ = some (.int .i64 (ord : Nat)) := by simpa using Blk.cell h.blk 0
theorem Pm.c1 (h : Pm w s b n ord la be bg f) : w.cell? ⟨s, 1, none⟩ = some (.map (some b)) := by simpa using Blk.cell h.blk 1
theorem Pm.c2 (h : Pm w s b n ord la be bg f) : w.cell? ⟨s, 2, none⟩ = some (.int .i64 (la : Nat)) := by simpa using Blk.cell h.blk 2
theorem Pm.c3 (h : Pm w s b n ord la be bg f) : w.cell? ⟨s, 3, none⟩ = some (.int .i64 (be : Nat)) := by simpa using Blk.cell h.blk 3
theorem Pm.c4 (h : Pm w s b n ord la be bg f) : w.cell? ⟨s, 4, none⟩ = some (.int .i64 (bg : Nat)) := by simpa using Blk.cell h.blk 4
theorem Pm.on (h : Pm w s b n ord la be bg f) (hb : Below w.heap.size w w') : Pm w' s b n ord la be bg f := ⟨Blk.on h.blk hb, h.cm.on hb⟩
theorem Pm.below {B : Nat} (h : Pm w s b n ord la be bg f) (hb : Below B w w') (h1 : s < B) (h2 : b < B) : Pm w' s b n ord la be bg f := ⟨Blk.below h.blk hb h1, h.cm.below hb h2⟩
theorem Pm.alloc (h : Pm w s b n ord la be bg f) (o : Obj) : Pm (w.alloc o) s b n ord la be bg f := h.on ((Below.refl _ _).alloc (Nat.le_refl _) o)
theorem Pm.drew (h : Pm w s b n ord la be bg f) : Pm w.drew s b n ord la be bg f := ⟨h.blk, h.cm⟩
theorem Pm.drewN (h : Pm w s b n ord la be bg f) (q : Nat) : Pm (w.drewN q) s b n ord la be bg f := ⟨h.blk, h.cm⟩
theorem Pm.far (h : Pm w s b n ord la be bg f) {p : Addr} (h1 : s ≠ p.block) (h2 : b ≠ p.block) (u : Value) : Pm (w.setCell p u) s b n ord la be bg f := ⟨Blk.far h.blk h1 u, h.cm.setCell h2 u⟩
theorem Pm.lt (h : Pm w s b n ord la be bg f) : s < w.heap.size := Blk.lt h.blk
theorem Pm.ltb (h : Pm w s b n ord la be bg f) : b < w.heap.size := h.cm.lt
theorem Pm.ne (h : Pm w s b n ord la be bg f) : b ≠ s := h.cm.ne h.blk
theorem Pm.grown {row : Option Nat} (h : Pm w s b n ord la be bg f) (hg : w.grownBy w' row) (h1 : some s ≠ row) (h2 : some b ≠ row) : Pm w' s b n ord la be bg f := ⟨Blk.grown h.blk hg h1, h.cm.kept hg h2⟩
end
/-- A look-up in the table in a region that draws its order. -/
theorem wp_look {w : World} {b n : Nat} {f : Ctx → Nat × Nat} (h : CM w b n f) {o : Oper} {a : Act} {K : Act → World → Prop} {Q : Exit → Act → World → Prop} (m x : Operand)
    (ho : o.op = Op.lookup 46 m x false) {c : Ctx} (hc : CtxOk c) (hm : a.eval m = .map (some b)) (hx : a.eval x = cval c) (hK : K (a.put o.dst (kval (f c))) w) : Oper.wp Try.prog o a w K Q := by
  unfold Oper.wp
  simp [execOp, ho, hm, hx, h.look hc, Result.andThen]
  exact hK
/-- A store into the table. -/
theorem wp_store {w : World} {b n : Nat} {f : Ctx → Nat × Nat} (h : CM w b n f) {o : Oper} {a : Act} {K : Act → World → Prop} {Q : Exit → Act → World → Prop} (m x v : Operand)
    (ho : o.op = Op.mapUpdate 46 m x v) {c : Ctx} (hc : CtxOk c) (hn : n < maxLen) {k : Nat × Nat} (hm : a.eval m = .map (some b)) (hx : a.eval x = cval c) (hv : a.eval v = kval k)
    (hK : ∀ w', CM w' b (n + 1) (fset f c k) → w.grownBy w' (some b) → K (a.put o.dst undef) w') : Oper.wp Try.prog o a w K Q := by
  obtain ⟨w', h1, h2, h3⟩ := h.store hc hn k
  unfold Oper.wp
  simp [execOp, ho, hm, hx, hv, h1, Result.andThen]
  exact hK w' h2 h3
end PB
end Go.Proofs.Ytmkkbedbgkhbpaa
