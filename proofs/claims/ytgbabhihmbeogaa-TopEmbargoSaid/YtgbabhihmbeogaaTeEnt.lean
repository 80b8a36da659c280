/-
  Entries of a catalogue: what their cells hold; slices of them; variables of them.
-/
import Derived.Test.YtgbabhihmbeogaaTeRef
namespace Go.Proofs.Ytgbabhihmbeogaa
open Go.RowKit
attribute [local go_sem ↓] Go.wp_at_zero Go.wp_at_succ
set_option linter.unusedVariables false
set_option linter.unusedSimpArgs false
namespace PB
structure Ent where
  cs : List Value
  name : ByteArray
  ver : Int
  kind : Int
  day : Int
  size : Int
  sA : Option Addr
  sN : Nat
  sC : Nat
  src : List Rf
  gA : Option Addr
  gN : Nat
  gC : Nat
  grp : List ByteArray
  emb : Int
  need : Int
  keep : Int
  cz : Int
  pA : Option Addr
  pN : Nat
  pC : Nat
/-- What the cells of an entry are, and what can be read through them. -/
structure Ent.Is (w : World) (e : Ent) : Prop where
  len : e.cs.length = 76
  one : ∀ v ∈ e.cs, v.oneCell' = true
  c0 : e.cs[0]? = some (.string e.name)
  c1 : e.cs[1]? = some (.int .i64 e.ver)
  c2 : e.cs[2]? = some (.int .i64 e.kind)
  c3 : e.cs[3]? = some (.int .i64 e.day)
  c4 : e.cs[4]? = some (.int .i64 e.size)
  c37 : e.cs[37]? = some (.slice e.sA e.sN e.sC)
  c38 : e.cs[38]? = some (.slice e.gA e.gN e.gC)
  c39 : e.cs[39]? = some (.int .i64 e.emb)
  c40 : e.cs[40]? = some (.int .i64 e.need)
  c41 : e.cs[41]? = some (.int .i64 e.keep)
  c42 : e.cs[42]? = some (.int .i64 e.cz)
  c75 : e.cs[75]? = some (.slice e.pA e.pN e.pC)
  src : RdF w e.sA e.sN e.sC e.src
  grp : Rd w e.gA e.gN e.gC (xcells e.grp)
  all : AllRf e.src
  wver : I6 e.ver
  wname : e.name.size ≤ maxLen
  wemb : I6 e.emb
section
variable {w w' : World} {e : Ent}
theorem Rd.lowb {A : Option Addr} {n c : Nat} {xs : List Value} (h : Rd w A n c xs) (b off : Nat) (e : A = some ⟨b, off, none⟩) (hn : 0 < n) : b < w.heap.size := by
  obtain ⟨b', off', e', hlt, _⟩ := h.2.2.2 hn
  rw [e] at e'
  injection e' with e'
  injection e' with e1 e2
  omega
theorem Ent.Is.on (h : e.Is w) (hb : Below w.heap.size w w') : e.Is w' :=
  ⟨h.len, h.one, h.c0, h.c1, h.c2, h.c3, h.c4, h.c37, h.c38, h.c39, h.c40, h.c41, h.c42, h.c75, h.src.on hb, Rd.on h.grp hb, h.all, h.wver, h.wname, h.wemb⟩
theorem Ent.Is.alloc (h : e.Is w) (o : Obj) : e.Is (w.alloc o) := h.on ((Below.refl _ _).alloc (Nat.le_refl _) o)
theorem Ent.Is.drewN (h : e.Is w) (q : Nat) : e.Is (w.drewN q) := ⟨h.len, h.one, h.c0, h.c1, h.c2, h.c3, h.c4, h.c37, h.c38, h.c39, h.c40, h.c41, h.c42, h.c75, h.src.drewN q, Rd.drewN h.grp q, h.all, h.wver, h.wname, h.wemb⟩
end
/-- A variable of the cells cs. -/
theorem Blk.there {w : World} {g : Nat} {t : TypeId} {cs : Array Value} (h : Blk w g t cs) (o n : Nat) (hn : o + n ≤ cs.size) : w.there g o n := fun j hj => by
  refine ⟨?_, Blk.frozen h _⟩
  rw [Blk.cell h, Array.getElem?_eq_getElem (by omega)]
  rfl
theorem Blk.range {w : World} {g : Nat} {t : TypeId} {cs : List Value} (h : Blk w g t cs.toArray) (o n : Nat) : w.rangeAt g o ((cs.drop o).take n) := fun j v hv => by
  rw [Blk.cell h]
  rw [List.getElem?_take] at hv
  split at hv
  · rw [List.getElem?_drop] at hv
    simpa using hv
  · cases hv
theorem Blk.whole {w : World} {g : Nat} {t : TypeId} {cs : List Value} (h : Blk w g t cs.toArray) : w.rangeAt g 0 cs := fun j v hv => by
  rw [Blk.cell h, Nat.zero_add]
  simpa using hv
theorem Blk.lcell {w : World} {g : Nat} {t : TypeId} {cs : List Value} (h : Blk w g t cs.toArray) (i : Nat) {v : Value} (hv : cs[i]? = some v) : w.cell? ⟨g, i, none⟩ = some v := by
  rw [Blk.cell h]
  simpa using hv
/-- What a variable of an entry holds. -/
theorem ecells {w W : World} {s : Nat} {e : Ent} (h : Blk w s 39 e.cs.toArray) (he : e.Is W) :
    w.cell? ⟨s, 0, none⟩ = some (.string e.name) ∧ w.cell? ⟨s, 1, none⟩ = some (.int .i64 e.ver) ∧ w.cell? ⟨s, 2, none⟩ = some (.int .i64 e.kind) ∧ w.cell? ⟨s, 3, none⟩ = some (.int .i64 e.day) ∧ w.cell? ⟨s, 4, none⟩ = some (.int .i64 e.size) ∧
    w.cell? ⟨s, 37, none⟩ = some (.slice e.sA e.sN e.sC) ∧ w.cell? ⟨s, 38, none⟩ = some (.slice e.gA e.gN e.gC) ∧ w.cell? ⟨s, 39, none⟩ = some (.int .i64 e.emb) ∧ w.cell? ⟨s, 40, none⟩ = some (.int .i64 e.need) ∧ w.cell? ⟨s, 41, none⟩ = some (.int .i64 e.keep) ∧
    w.cell? ⟨s, 42, none⟩ = some (.int .i64 e.cz) ∧ w.cell? ⟨s, 75, none⟩ = some (.slice e.pA e.pN e.pC) :=
  ⟨h.lcell 0 he.c0, h.lcell 1 he.c1, h.lcell 2 he.c2, h.lcell 3 he.c3, h.lcell 4 he.c4, h.lcell 37 he.c37, h.lcell 38 he.c38, h.lcell 39 he.c39, h.lcell 40 he.c40, h.lcell 41 he.c41, h.lcell 42 he.c42, h.lcell 75 he.c75⟩
/-- A slice of entries that can be read. -/
def RdE (w : World) (A : Option Addr) (n c : Nat) (es : List Ent) : Prop :=
  es.length = n ∧ n ≤ c ∧ c ≤ maxLen ∧ (0 < n → ∃ b off, A = some ⟨b, off, none⟩ ∧ b < w.heap.size ∧ ∀ (i : Nat) (e : Ent), es[i]? = some e → w.rangeAt b (off + i * 76) e.cs) ∧ ∀ e ∈ es, e.Is w
theorem rangeAt_below {B : Nat} {w w' : World} {b o : Nat} {cs : List Value} (h : w.rangeAt b o cs) (hb : Below B w w') (hB : b < B) : w'.rangeAt b o cs := fun j v hv => (hb.cell (p := ⟨b, o + j, none⟩) hB).trans (h j v hv)
section
variable {w w' : World} {A : Option Addr} {n c : Nat} {es : List Ent}
theorem RdE.on (h : RdE w A n c es) (hb : Below w.heap.size w w') : RdE w' A n c es := by
  obtain ⟨h1, h2, h3, h4, h5⟩ := h
  refine ⟨h1, h2, h3, fun hn => ?_, fun e he => (h5 e he).on hb⟩
  obtain ⟨b, off, e, hlt, hc⟩ := h4 hn
  exact ⟨b, off, e, Nat.lt_of_lt_of_le hlt hb.size, fun i x hx => rangeAt_below (hc i x hx) hb hlt⟩
theorem RdE.alloc (h : RdE w A n c es) (o : Obj) : RdE (w.alloc o) A n c es := h.on ((Below.refl _ _).alloc (Nat.le_refl _) o)
theorem RdE.drewN (h : RdE w A n c es) (q : Nat) : RdE (w.drewN q) A n c es := ⟨h.1, h.2.1, h.2.2.1, h.2.2.2.1, fun e he => (h.2.2.2.2 e he).drewN q⟩
theorem RdE.len (h : RdE w A n c es) : es.length = n := h.1
theorem RdE.is (h : RdE w A n c es) (k : Nat) (hk : k < es.length) : (es[k]).Is w := h.2.2.2.2 _ (List.getElem_mem hk)
theorem RdE.at (h : RdE w A n c es) (k : Nat) (hk : k < es.length) : ∃ b off, A = some ⟨b, off, none⟩ ∧ b < w.heap.size ∧ w.rangeAt b (off + k * 76) (es[k]).cs := by
  obtain ⟨h1, h2, h3, h4, h5⟩ := h
  obtain ⟨b, off, e, hlt, hc⟩ := h4 (by omega)
  exact ⟨b, off, e, hlt, hc k _ (List.getElem?_eq_getElem hk)⟩
theorem RdE.take (h : RdE w A n c es) (k : Nat) (hk : k ≤ n) : RdE w A k c (es.take k) := by
  obtain ⟨h1, h2, h3, h4, h5⟩ := h
  refine ⟨by rw [List.length_take]; omega, by omega, h3, fun h0 => ?_, fun e he => h5 e (List.mem_of_mem_take he)⟩
  obtain ⟨b, off, e, hlt, hc⟩ := h4 (by omega)
  refine ⟨b, off, e, hlt, fun i x hx => hc i x ?_⟩
  rw [List.getElem?_take] at hx
  split at hx
  · exact hx
  · cases hx
end
theorem ent_size : (Try.prog.info? 39).map (·.size) = some 76 := by kernel_rfl
theorem ent_zero : ∃ Z : Array Value, Z.size = 76 ∧ ∀ w, (zeroValue 39).run Try.prog w = .ok (.agg Z) w := by
  have h : (Try.prog.info? 39).map (fun i => (i.zero, i.size)) = some (some (.agg (#[.string ⟨#[]⟩, .int .i64 0, .int .i64 0, .int .i64 0, .int .i64 0] ++ Array.replicate 32 (.int .u8 0) ++ #[.slice none 0 0, .slice none 0 0, .int .i64 0, .int .i64 0, .int .i64 0, .int .i64 0] ++ Array.replicate 32 (.int .u8 0) ++ #[.slice none 0 0])), 76) := by kernel_rfl
  exact ⟨_, by decide +kernel, (zero_of_info h).1⟩
theorem ent_row : ∃ d, Try.prog.underlying 39 = some d ∧ d.isRow = true := ⟨_, Try.underlying39, rfl⟩
/-- An entry out of the middle of a block. -/
theorem ent_load {w : World} {b o : Nat} {cs : List Value} (h : w.rangeAt b o cs) (hl : cs.length = 76) : (Instr.loadAt 39 (.pointer (some ⟨b, o, none⟩))).run Try.prog w = .ok (.agg cs.toArray) w := by
  obtain ⟨d, h1, h2⟩ := ent_row
  exact run_loadAt_mid w b o _ cs d h h1 h2 (by rw [ent_size, hl])
theorem ent_store (w : World) {Z : Array Value} (hZ : Z.size = 76) {cs : List Value} (hl : cs.length = 76) (h1 : ∀ v ∈ cs, v.oneCell' = true) : (Instr.storeAt 39 (.pointer (some ⟨w.heap.size, 0, none⟩)) (.agg cs.toArray)).run Try.prog (w.alloc (.cells Z 39)) = .ok () (w.alloc (.cells cs.toArray 39)) :=
  run_storeAt_new w _ Z cs.toArray (by rw [ent_size]; simp [hl]) (by simp [hZ, hl]) (all_oneCell_toArray h1)
/-- A load whose run is known. -/
theorem wp_load_run {P : Program} {op : Oper} {a : Act} {w : World} {K : Act → World → Prop} {Q : Exit → Act → World → Prop} (ty : TypeId) (x : Operand) (ho : op.op = .load ty x) {p v : Value} (hx : a.eval x = p)
    (hr : (Instr.loadAt ty p).run P w = .ok v w) (h : K (a.put op.dst v) w) : op.wp P a w K Q := by
  unfold Oper.wp execOp
  simp only [ho, hx, Sem.run_bind, Sem.run_pure, hr, Result.andThen_ok]
  exact h
/-- A store whose run is known. -/
theorem wp_store_run {P : Program} {op : Oper} {a : Act} {w w' : World} {K : Act → World → Prop} {Q : Exit → Act → World → Prop} (ty : TypeId) (x y : Operand) (ho : op.op = .store ty x y) {p v : Value} (hx : a.eval x = p) (hy : a.eval y = v)
    (hr : (Instr.storeAt ty p v).run P w = .ok () w') (h : K (a.put op.dst undef) w') : op.wp P a w K Q := by
  unfold Oper.wp execOp
  simp only [ho, hx, hy, Sem.run_bind, Sem.run_pure, hr, Result.andThen_ok]
  exact h
theorem man_size : (Try.prog.info? 37).map (·.size) = some 34 := by kernel_rfl
theorem man_row : ∃ d, Try.prog.underlying 37 = some d ∧ d.isRow = true := ⟨_, Try.underlying37, rfl⟩
theorem man_load {w : World} {b o : Nat} {cs : List Value} (h : w.rangeAt b o cs) (hl : cs.length = 34) : (Instr.loadAt 37 (.pointer (some ⟨b, o, none⟩))).run Try.prog w = .ok (.agg cs.toArray) w := by
  obtain ⟨d, h1, h2⟩ := man_row
  exact run_loadAt_mid w b o _ cs d h h1 h2 (by rw [man_size, hl])
end PB
end Go.Proofs.Ytgbabhihmbeogaa
