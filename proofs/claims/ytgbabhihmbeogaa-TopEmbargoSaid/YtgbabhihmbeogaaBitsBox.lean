/-
  The variables of a function that takes a bit string and hands back a bit string (or a number) and a fault: what they hold behind a call.
-/
import Derived.Test.YtgbabhihmbeogaaRows
import Derived.Test.YtgbabhihmbeogaaBitsNum
import Derived.Test.YtgbabhihmbeogaaBitsAdd
namespace Go.Proofs.Ytgbabhihmbeogaa
open Go.RowKit
set_option linter.unusedVariables false
set_option linter.unusedSimpArgs false
namespace PB
/-- A pair of cells of a type. -/
def Two (w : World) (s : Nat) (t : TypeId) (v0 v1 : Value) : Prop := Blk w s t #[v0, v1]
section
variable {w w' : World} {s : Nat} {t : TypeId} {v0 v1 : Value}
theorem Two.new (w : World) (t : TypeId) (v0 v1 : Value) : Two (w.alloc (.cells #[v0, v1] t)) w.heap.size t v0 v1 := Blk.new w t _
theorem Two.alloc (h : Two w s t v0 v1) (o : Obj) : Two (w.alloc o) s t v0 v1 := Blk.alloc h o
theorem Two.drew (h : Two w s t v0 v1) : Two w.drew s t v0 v1 := h
theorem Two.on (h : Two w s t v0 v1) (hb : Below w.heap.size w w') : Two w' s t v0 v1 := Blk.on h hb
theorem Two.below {B : Nat} (h : Two w s t v0 v1) (hb : Below B w w') (hs : s < B) : Two w' s t v0 v1 := Blk.below h hb hs
theorem Two.grown {row : Option Nat} (h : Two w s t v0 v1) (hb : w.grownBy w' row) (hg : some s ≠ row) : Two w' s t v0 v1 := Blk.grown h hb hg
theorem Two.far (h : Two w s t v0 v1) {p : Addr} (hp : s ≠ p.block) (u : Value) : Two (w.setCell p u) s t v0 v1 := Blk.far h hp u
theorem Two.set0 (h : Two w s t v0 v1) (u : Value) : Two (w.setCell ⟨s, 0, none⟩ u) s t u v1 := by
  have := Blk.set_ h 0 u
  simp at this
  exact this
theorem Two.set1 (h : Two w s t v0 v1) (u : Value) : Two (w.setCell ⟨s, 1, none⟩ u) s t v0 u := by
  have := Blk.set_ h 1 u
  simp at this
  exact this
theorem Two.c0 (h : Two w s t v0 v1) : w.cell? ⟨s, 0, none⟩ = some v0 := by simpa using Blk.cell h 0
theorem Two.c1 (h : Two w s t v0 v1) : w.cell? ⟨s, 1, none⟩ = some v1 := by simpa using Blk.cell h 1
theorem Two.f0 (h : Two w s t v0 v1) : w.frozen? ⟨s, 0, none⟩ = false := Blk.frozen h 0
theorem Two.f1 (h : Two w s t v0 v1) : w.frozen? ⟨s, 1, none⟩ = false := Blk.frozen h 1
theorem Two.lt (h : Two w s t v0 v1) : s < w.heap.size := Blk.lt h
theorem Two.facts (h : Two w s t v0 v1) : w.cell? ⟨s, 0, none⟩ = some v0 ∧ w.cell? ⟨s, 1, none⟩ = some v1 ∧ w.frozen? ⟨s, 0, none⟩ = false ∧ w.frozen? ⟨s, 1, none⟩ = false ∧ s < w.heap.size :=
  ⟨h.c0, h.c1, h.f0, h.f1, h.lt⟩
end
/-- An owned row of bytes is none of the pairs. -/
theorem own_two_ne {w : World} {base : Nat} {e t : TypeId} {size n s : Nat} {v v0 v1 : Value} {xs : List Value} (h : w.ownsRow base e size v n xs) (hg : Two w s t v0 v1) (hne : e ≠ t) : v.ownBlock ≠ some s :=
  fun e => own_blk_ne h hg hne e.symm

theorem below_box3 (w : World) (a b c : Obj) : Below w.heap.size w (((w.alloc a).alloc b).alloc c) :=
  (((Below.refl _ _).alloc (Nat.le_refl _) _).alloc (by simp) _).alloc (by simp; omega) _
theorem below_ends {w w1 : World} (hb : Below w.heap.size w w1) (r0 r1 f0 f1 : Value) :
    Below w.heap.size w ((((w1.setCell ⟨w.heap.size + 1, 0, none⟩ r0).setCell ⟨w.heap.size + 1, 1, none⟩ r1).setCell ⟨w.heap.size + 2, 0, none⟩ f0).setCell ⟨w.heap.size + 2, 1, none⟩ f1) :=
  (((hb.setCell (by simp) _).setCell (by simp) _).setCell (by simp) _).setCell (by simp) _
theorem below_box2 (w : World) (a b : Obj) : Below w.heap.size w ((w.alloc a).alloc b) := ((Below.refl _ _).alloc (Nat.le_refl _) _).alloc (by simp) _
theorem below_ends2 {w w1 : World} (hb : Below w.heap.size w w1) (f0 f1 : Value) :
    Below w.heap.size w ((w1.setCell ⟨w.heap.size + 1, 0, none⟩ f0).setCell ⟨w.heap.size + 1, 1, none⟩ f1) := (hb.setCell (by simp) _).setCell (by simp) _
/-- The zero bit string, and faults, as values. -/
def noBits : Value := .agg #[.slice none 0 0, .int .i64 0]
def flt (code index : Int) : Value := .agg #[.int .i64 code, .int .i64 index]
end PB
end Go.Proofs.Ytgbabhihmbeogaa
