/-
  Variables of one cell, of four cells: what they hold behind a call, a draw, a store. Blocks that are made behind other blocks.
-/
import Derived.Test.YtgbabhihmbeogaaRankMem
import Derived.Test.YtgbabhihmbeogaaBitsApi
namespace Go.Proofs.Ytgbabhihmbeogaa
open Go.RowKit
set_option linter.unusedVariables false
set_option linter.unusedSimpArgs false
namespace PB
/-- One cell of a type. -/
def One (w : World) (s : Nat) (t : TypeId) (v0 : Value) : Prop := Blk w s t #[v0]
section
variable {w w' : World} {s : Nat} {t : TypeId} {v0 : Value}
theorem One.new (w : World) (t : TypeId) (v0 : Value) : One (w.alloc (.cells #[v0] t)) w.heap.size t v0 := Blk.new w t _
theorem One.new1 (w : World) (o0 : Obj) (t : TypeId) (v0 : Value) : One ((w.alloc o0).alloc (.cells #[v0] t)) (w.heap.size + 1) t v0 := by
  simpa using One.new (w.alloc o0) t v0
theorem One.new2 (w : World) (o0 o1 : Obj) (t : TypeId) (v0 : Value) : One (((w.alloc o0).alloc o1).alloc (.cells #[v0] t)) (w.heap.size + 2) t v0 := by
  simpa using One.new ((w.alloc o0).alloc o1) t v0
theorem One.new3 (w : World) (o0 o1 o2 : Obj) (t : TypeId) (v0 : Value) : One ((((w.alloc o0).alloc o1).alloc o2).alloc (.cells #[v0] t)) (w.heap.size + 3) t v0 := by
  simpa using One.new (((w.alloc o0).alloc o1).alloc o2) t v0
theorem One.new4 (w : World) (o0 o1 o2 o3 : Obj) (t : TypeId) (v0 : Value) : One (((((w.alloc o0).alloc o1).alloc o2).alloc o3).alloc (.cells #[v0] t)) (w.heap.size + 4) t v0 := by
  simpa using One.new ((((w.alloc o0).alloc o1).alloc o2).alloc o3) t v0
theorem One.new5 (w : World) (o0 o1 o2 o3 o4 : Obj) (t : TypeId) (v0 : Value) : One ((((((w.alloc o0).alloc o1).alloc o2).alloc o3).alloc o4).alloc (.cells #[v0] t)) (w.heap.size + 5) t v0 := by
  simpa using One.new (((((w.alloc o0).alloc o1).alloc o2).alloc o3).alloc o4) t v0
theorem One.alloc (h : One w s t v0) (o : Obj) : One (w.alloc o) s t v0 := Blk.alloc h o
theorem One.drew (h : One w s t v0) : One w.drew s t v0 := h
theorem One.drewN (h : One w s t v0) (q : Nat) : One (w.drewN q) s t v0 := h
theorem One.on (h : One w s t v0) (hb : Below w.heap.size w w') : One w' s t v0 := Blk.on h hb
theorem One.below {B : Nat} (h : One w s t v0) (hb : Below B w w') (hs : s < B) : One w' s t v0 := Blk.below h hb hs
theorem One.grown {row : Option Nat} (h : One w s t v0) (hb : w.grownBy w' row) (hg : some s ≠ row) : One w' s t v0 := Blk.grown h hb hg
theorem One.far (h : One w s t v0) {p : Addr} (hp : s ≠ p.block) (u : Value) : One (w.setCell p u) s t v0 := Blk.far h hp u
theorem One.lt (h : One w s t v0) : s < w.heap.size := Blk.lt h
theorem One.set0 (h : One w s t v0) (u : Value) : One (w.setCell ⟨s, 0, none⟩ u) s t u := by
  have := Blk.set_ h 0 u
  simp at this
  exact this
theorem One.c0 (h : One w s t v0) : w.cell? ⟨s, 0, none⟩ = some v0 := by simpa using Blk.cell h 0
theorem One.f0 (h : One w s t v0) : w.frozen? ⟨s, 0, none⟩ = false := Blk.frozen h 0
end
theorem own_one_ne {w : World} {base : Nat} {e t : TypeId} {size n s : Nat} {v v0 : Value} {xs : List Value} (h : w.ownsRow base e size v n xs) (hg : One w s t v0) (hne : e ≠ t) : v.ownBlock ≠ some s :=
  fun e => own_blk_ne h hg hne e.symm
/-- Four cells of a type. -/
def Four (w : World) (s : Nat) (t : TypeId) (v0 v1 v2 v3 : Value) : Prop := Blk w s t #[v0, v1, v2, v3]
section
variable {w w' : World} {s : Nat} {t : TypeId} {v0 v1 v2 v3 : Value}
theorem Four.new (w : World) (t : TypeId) (v0 v1 v2 v3 : Value) : Four (w.alloc (.cells #[v0, v1, v2, v3] t)) w.heap.size t v0 v1 v2 v3 := Blk.new w t _
theorem Four.new1 (w : World) (o0 : Obj) (t : TypeId) (v0 v1 v2 v3 : Value) : Four ((w.alloc o0).alloc (.cells #[v0, v1, v2, v3] t)) (w.heap.size + 1) t v0 v1 v2 v3 := by
  simpa using Four.new (w.alloc o0) t v0 v1 v2 v3
theorem Four.new2 (w : World) (o0 o1 : Obj) (t : TypeId) (v0 v1 v2 v3 : Value) : Four (((w.alloc o0).alloc o1).alloc (.cells #[v0, v1, v2, v3] t)) (w.heap.size + 2) t v0 v1 v2 v3 := by
  simpa using Four.new ((w.alloc o0).alloc o1) t v0 v1 v2 v3
theorem Four.new3 (w : World) (o0 o1 o2 : Obj) (t : TypeId) (v0 v1 v2 v3 : Value) : Four ((((w.alloc o0).alloc o1).alloc o2).alloc (.cells #[v0, v1, v2, v3] t)) (w.heap.size + 3) t v0 v1 v2 v3 := by
  simpa using Four.new (((w.alloc o0).alloc o1).alloc o2) t v0 v1 v2 v3
theorem Four.new4 (w : World) (o0 o1 o2 o3 : Obj) (t : TypeId) (v0 v1 v2 v3 : Value) : Four (((((w.alloc o0).alloc o1).alloc o2).alloc o3).alloc (.cells #[v0, v1, v2, v3] t)) (w.heap.size + 4) t v0 v1 v2 v3 := by
  simpa using Four.new ((((w.alloc o0).alloc o1).alloc o2).alloc o3) t v0 v1 v2 v3
theorem Four.new5 (w : World) (o0 o1 o2 o3 o4 : Obj) (t : TypeId) (v0 v1 v2 v3 : Value) : Four ((((((w.alloc o0).alloc o1).alloc o2).alloc o3).alloc o4).alloc (.cells #[v0, v1, v2, v3] t)) (w.heap.size + 5) t v0 v1 v2 v3 := by
  simpa using Four.new (((((w.alloc o0).alloc o1).alloc o2).alloc o3).alloc o4) t v0 v1 v2 v3
theorem Four.alloc (h : Four w s t v0 v1 v2 v3) (o : Obj) : Four (w.alloc o) s t v0 v1 v2 v3 := Blk.alloc h o
theorem Four.drew (h : Four w s t v0 v1 v2 v3) : Four w.drew s t v0 v1 v2 v3 := h
theorem Four.drewN (h : Four w s t v0 v1 v2 v3) (q : Nat) : Four (w.drewN q) s t v0 v1 v2 v3 := h
theorem Four.on (h : Four w s t v0 v1 v2 v3) (hb : Below w.heap.size w w') : Four w' s t v0 v1 v2 v3 := Blk.on h hb
theorem Four.below {B : Nat} (h : Four w s t v0 v1 v2 v3) (hb : Below B w w') (hs : s < B) : Four w' s t v0 v1 v2 v3 := Blk.below h hb hs
theorem Four.grown {row : Option Nat} (h : Four w s t v0 v1 v2 v3) (hb : w.grownBy w' row) (hg : some s ≠ row) : Four w' s t v0 v1 v2 v3 := Blk.grown h hb hg
theorem Four.far (h : Four w s t v0 v1 v2 v3) {p : Addr} (hp : s ≠ p.block) (u : Value) : Four (w.setCell p u) s t v0 v1 v2 v3 := Blk.far h hp u
theorem Four.lt (h : Four w s t v0 v1 v2 v3) : s < w.heap.size := Blk.lt h
theorem Four.set0 (h : Four w s t v0 v1 v2 v3) (u : Value) : Four (w.setCell ⟨s, 0, none⟩ u) s t u v1 v2 v3 := by
  have := Blk.set_ h 0 u
  simp at this
  exact this
theorem Four.c0 (h : Four w s t v0 v1 v2 v3) : w.cell? ⟨s, 0, none⟩ = some v0 := by simpa using Blk.cell h 0
theorem Four.f0 (h : Four w s t v0 v1 v2 v3) : w.frozen? ⟨s, 0, none⟩ = false := Blk.frozen h 0
theorem Four.set1 (h : Four w s t v0 v1 v2 v3) (u : Value) : Four (w.setCell ⟨s, 1, none⟩ u) s t v0 u v2 v3 := by
  have := Blk.set_ h 1 u
  simp at this
  exact this
theorem Four.c1 (h : Four w s t v0 v1 v2 v3) : w.cell? ⟨s, 1, none⟩ = some v1 := by simpa using Blk.cell h 1
theorem Four.f1 (h : Four w s t v0 v1 v2 v3) : w.frozen? ⟨s, 1, none⟩ = false := Blk.frozen h 1
theorem Four.set2 (h : Four w s t v0 v1 v2 v3) (u : Value) : Four (w.setCell ⟨s, 2, none⟩ u) s t v0 v1 u v3 := by
  have := Blk.set_ h 2 u
  simp at this
  exact this
theorem Four.c2 (h : Four w s t v0 v1 v2 v3) : w.cell? ⟨s, 2, none⟩ = some v2 := by simpa using Blk.cell h 2
theorem Four.f2 (h : Four w s t v0 v1 v2 v3) : w.frozen? ⟨s, 2, none⟩ = false := Blk.frozen h 2
theorem Four.set3 (h : Four w s t v0 v1 v2 v3) (u : Value) : Four (w.setCell ⟨s, 3, none⟩ u) s t v0 v1 v2 u := by
  have := Blk.set_ h 3 u
  simp at this
  exact this
theorem Four.c3 (h : Four w s t v0 v1 v2 v3) : w.cell? ⟨s, 3, none⟩ = some v3 := by simpa using Blk.cell h 3
theorem Four.f3 (h : Four w s t v0 v1 v2 v3) : w.frozen? ⟨s, 3, none⟩ = false := Blk.frozen h 3
end
theorem own_four_ne {w : World} {base : Nat} {e t : TypeId} {size n s : Nat} {v v0 v1 v2 v3 : Value} {xs : List Value} (h : w.ownsRow base e size v n xs) (hg : Four w s t v0 v1 v2 v3) (hne : e ≠ t) : v.ownBlock ≠ some s :=
  fun e => own_blk_ne h hg hne e.symm
theorem Two.new3 (w : World) (o0 o1 o2 : Obj) (t : TypeId) (v0 v1 : Value) : Two ((((w.alloc o0).alloc o1).alloc o2).alloc (.cells #[v0, v1] t)) (w.heap.size + 3) t v0 v1 := by
  simpa using Two.new (((w.alloc o0).alloc o1).alloc o2) t v0 v1
theorem Two.new4 (w : World) (o0 o1 o2 o3 : Obj) (t : TypeId) (v0 v1 : Value) : Two (((((w.alloc o0).alloc o1).alloc o2).alloc o3).alloc (.cells #[v0, v1] t)) (w.heap.size + 4) t v0 v1 := by
  simpa using Two.new ((((w.alloc o0).alloc o1).alloc o2).alloc o3) t v0 v1
theorem Two.new5 (w : World) (o0 o1 o2 o3 o4 : Obj) (t : TypeId) (v0 v1 : Value) : Two ((((((w.alloc o0).alloc o1).alloc o2).alloc o3).alloc o4).alloc (.cells #[v0, v1] t)) (w.heap.size + 5) t v0 v1 := by
  simpa using Two.new (((((w.alloc o0).alloc o1).alloc o2).alloc o3).alloc o4) t v0 v1
theorem Three.new3 (w : World) (o0 o1 o2 : Obj) (t : TypeId) (v0 v1 v2 : Value) : Three ((((w.alloc o0).alloc o1).alloc o2).alloc (.cells #[v0, v1, v2] t)) (w.heap.size + 3) t v0 v1 v2 := by
  simpa using Three.new (((w.alloc o0).alloc o1).alloc o2) t v0 v1 v2
theorem Three.new4 (w : World) (o0 o1 o2 o3 : Obj) (t : TypeId) (v0 v1 v2 : Value) : Three (((((w.alloc o0).alloc o1).alloc o2).alloc o3).alloc (.cells #[v0, v1, v2] t)) (w.heap.size + 4) t v0 v1 v2 := by
  simpa using Three.new ((((w.alloc o0).alloc o1).alloc o2).alloc o3) t v0 v1 v2
theorem Three.new5 (w : World) (o0 o1 o2 o3 o4 : Obj) (t : TypeId) (v0 v1 v2 : Value) : Three ((((((w.alloc o0).alloc o1).alloc o2).alloc o3).alloc o4).alloc (.cells #[v0, v1, v2] t)) (w.heap.size + 5) t v0 v1 v2 := by
  simpa using Three.new (((((w.alloc o0).alloc o1).alloc o2).alloc o3).alloc o4) t v0 v1 v2
end PB
end Go.Proofs.Ytgbabhihmbeogaa
