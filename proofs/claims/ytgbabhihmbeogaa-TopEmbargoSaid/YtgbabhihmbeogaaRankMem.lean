/-
  Variables of three cells: what they hold behind a call, a draw, a store.
-/
import Derived.Test.YtgbabhihmbeogaaBitsBox
import Derived.Test.YtgbabhihmbeogaaBitsEx
import Derived.Test.YtgbabhihmbeogaaKit
namespace Go.Proofs.Ytgbabhihmbeogaa
open Go.RowKit
set_option linter.unusedVariables false
set_option linter.unusedSimpArgs false
namespace PB
/-- Three cells of a type. -/
def Three (w : World) (s : Nat) (t : TypeId) (v0 v1 v2 : Value) : Prop := Blk w s t #[v0, v1, v2]
section
variable {w w' : World} {s : Nat} {t : TypeId} {v0 v1 v2 : Value}
theorem Three.new (w : World) (t : TypeId) (v0 v1 v2 : Value) : Three (w.alloc (.cells #[v0, v1, v2] t)) w.heap.size t v0 v1 v2 := Blk.new w t _
theorem Three.new1 (w : World) (o : Obj) (t : TypeId) (v0 v1 v2 : Value) : Three ((w.alloc o).alloc (.cells #[v0, v1, v2] t)) (w.heap.size + 1) t v0 v1 v2 := by
  simpa using Three.new (w.alloc o) t v0 v1 v2
theorem Three.new2 (w : World) (o o2 : Obj) (t : TypeId) (v0 v1 v2 : Value) : Three (((w.alloc o).alloc o2).alloc (.cells #[v0, v1, v2] t)) (w.heap.size + 2) t v0 v1 v2 := by
  simpa using Three.new ((w.alloc o).alloc o2) t v0 v1 v2
theorem Three.alloc (h : Three w s t v0 v1 v2) (o : Obj) : Three (w.alloc o) s t v0 v1 v2 := Blk.alloc h o
theorem Three.drew (h : Three w s t v0 v1 v2) : Three w.drew s t v0 v1 v2 := h
theorem Three.drewN (h : Three w s t v0 v1 v2) (q : Nat) : Three (w.drewN q) s t v0 v1 v2 := h
theorem Three.on (h : Three w s t v0 v1 v2) (hb : Below w.heap.size w w') : Three w' s t v0 v1 v2 := Blk.on h hb
theorem Three.below {B : Nat} (h : Three w s t v0 v1 v2) (hb : Below B w w') (hs : s < B) : Three w' s t v0 v1 v2 := Blk.below h hb hs
theorem Three.grown {row : Option Nat} (h : Three w s t v0 v1 v2) (hb : w.grownBy w' row) (hg : some s ≠ row) : Three w' s t v0 v1 v2 := Blk.grown h hb hg
theorem Three.far (h : Three w s t v0 v1 v2) {p : Addr} (hp : s ≠ p.block) (u : Value) : Three (w.setCell p u) s t v0 v1 v2 := Blk.far h hp u
theorem Three.set0 (h : Three w s t v0 v1 v2) (u : Value) : Three (w.setCell ⟨s, 0, none⟩ u) s t u v1 v2 := by
  have := Blk.set_ h 0 u
  simp at this
  exact this
theorem Three.set1 (h : Three w s t v0 v1 v2) (u : Value) : Three (w.setCell ⟨s, 1, none⟩ u) s t v0 u v2 := by
  have := Blk.set_ h 1 u
  simp at this
  exact this
theorem Three.set2 (h : Three w s t v0 v1 v2) (u : Value) : Three (w.setCell ⟨s, 2, none⟩ u) s t v0 v1 u := by
  have := Blk.set_ h 2 u
  simp at this
  exact this
theorem Three.c0 (h : Three w s t v0 v1 v2) : w.cell? ⟨s, 0, none⟩ = some v0 := by simpa using Blk.cell h 0
theorem Three.c1 (h : Three w s t v0 v1 v2) : w.cell? ⟨s, 1, none⟩ = some v1 := by simpa using Blk.cell h 1
theorem Three.c2 (h : Three w s t v0 v1 v2) : w.cell? ⟨s, 2, none⟩ = some v2 := by simpa using Blk.cell h 2
theorem Three.f0 (h : Three w s t v0 v1 v2) : w.frozen? ⟨s, 0, none⟩ = false := Blk.frozen h 0
theorem Three.f1 (h : Three w s t v0 v1 v2) : w.frozen? ⟨s, 1, none⟩ = false := Blk.frozen h 1
theorem Three.f2 (h : Three w s t v0 v1 v2) : w.frozen? ⟨s, 2, none⟩ = false := Blk.frozen h 2
theorem Three.lt (h : Three w s t v0 v1 v2) : s < w.heap.size := Blk.lt h
end
theorem own_three_ne {w : World} {base : Nat} {e t : TypeId} {size n s : Nat} {v v0 v1 v2 : Value} {xs : List Value} (h : w.ownsRow base e size v n xs) (hg : Three w s t v0 v1 v2) (hne : e ≠ t) : v.ownBlock ≠ some s :=
  fun e => own_blk_ne h hg hne e.symm
/-- A slice that can be read stays so behind a store into a block that was made later. -/
theorem Rd.late {w0 w : World} {A : Option Addr} {n c : Nat} {xs : List Value} (h : Rd w0 A n c xs) (hb : Below w0.heap.size w0 w) : Rd w A n c xs := h.on hb
end PB
end Go.Proofs.Ytgbabhihmbeogaa
