/-
  A strings.Builder that a call has made itself: what it holds behind a write, behind other calls.
-/
import Derived.Test.YtnnpkajmheglgaaArShelf
import Derived.Test.YtnnpkajmheglgaaArText
import Derived.Test.YtnnpkajmheglgaaBitsEx
import Derived.Lib.OthersKept
namespace Go.Proofs.Ytnnpkajmheglgaa
open Go.RowKit Go.Shelf
set_option linter.unusedVariables false
set_option linter.unusedSimpArgs false
namespace PB
/-- Block b is a builder that holds the text of bits. -/
def Bld (w : World) (b : Nat) (l : List Nat) : Prop := Lib.IsBuilderF 76 5 b b (Lib.strCells (bt l)) w
/-- Blocks that hold no bytes stay as they are, but for b. -/
def Oth (b : Nat) (w w' : World) : Prop := Lib.OthersKept 5 (some b) w w'
theorem strCells_bt (a b : List Nat) : Lib.strCells (bt (a ++ b)) = Lib.strCells (bt a) ++ Lib.strCells (bt b) := by
  rw [bt_append]; simp [Lib.strCells]
theorem strCells_len (l : List Nat) : (Lib.strCells (bt l)).length = l.length := by rw [Lib.strCells_length, bt_size]
theorem Bld.new (w : World) : Bld (w.alloc (.cells #[.pointer none, .slice none 0 0] 76)) w.heap.size [] := by
  unfold Bld
  exact Lib.IsBuilderF.of (Lib.fresh_isBuilder _ _ w)
theorem Bld.lt {w : World} {b : Nat} {l : List Nat} (h : Bld w b l) : b < w.heap.size := by
  rcases h with h | h
  · exact h.lt
  · exact h.lt
theorem Bld.on {w w' : World} {b : Nat} {l : List Nat} (h : Bld w b l) (y : Below w.heap.size w w') : Bld w' b l := by
  have key : ∀ p, Lib.BuilderAtF 76 5 b b p (Lib.strCells (bt l)) w → Lib.BuilderAtF 76 5 b b p (Lib.strCells (bt l)) w' := by
    rintro p ⟨hB, v, hb, hown, hne⟩
    have hlt : b < w.heap.size := (Array.getElem?_eq_some_iff.1 hb).1
    exact ⟨hB, v, (y.block b hlt).trans hb, hown.kept (row := none) (only_of_below y none) (Classical.em _), hne⟩
  rcases h with h | h
  · exact .inl (key _ h)
  · exact .inr (key _ h)
theorem Bld.alloc {w : World} {b : Nat} {l : List Nat} (h : Bld w b l) (o : Obj) : Bld (w.alloc o) b l := h.on ((Below.refl _ _).alloc (Nat.le_refl _) o)
theorem Bld.drew {w : World} {b : Nat} {l : List Nat} (h : Bld w b l) : Bld w.drew b l := h
/-- A store into a block that is neither the builder's nor holds bytes. -/
theorem Bld.far {w : World} {b : Nat} {l : List Nat} (h : Bld w b l) {s : Nat} {t : TypeId} {cs : Array Value} (hs : Blk w s t cs) (ht : t ≠ 5) (hb : s ≠ b) (i : Nat) (u : Value) : Bld (w.setCell ⟨s, i, none⟩ u) b l := by
  have key : ∀ p, Lib.BuilderAtF 76 5 b b p (Lib.strCells (bt l)) w → Lib.BuilderAtF 76 5 b b p (Lib.strCells (bt l)) (w.setCell ⟨s, i, none⟩ u) := by
    rintro p ⟨hB, v, hbk, hown, hne⟩
    refine ⟨hB, v, (Below.heap_setCell _ _ _ _ (Ne.symm hb)).trans hbk, ?_, hne⟩
    refine hown.kept (row := some s) ⟨rfl, rfl, rfl, by simp [World.setCell], fun k _ hk => Below.heap_setCell _ _ _ _ (fun e => hk (by simp [e]))⟩ ?_
    refine Or.inr ?_
    exact Lib.ownBlock_neF hown hs ht
  rcases h with h | h
  · exact .inl (key _ h)
  · exact .inr (key _ h)
theorem Oth.blk {w w' : World} {b s : Nat} {t : TypeId} {cs : Array Value} (h : Oth b w w') (hs : Blk w s t cs) (ht : t ≠ 5) (hb : s ≠ b) : Blk w' s t cs :=
  h s _ hs (fun e => hb (Option.some.inj e)) (fun c fz e => ht (by injection e))
theorem bld_add {w : World} {b : Nat} {l s : List Nat} (h : Bld w b l) (hl : l.length + s.length ≤ 1000000) :
    Calls Try.prog 40 #[.pointer (some ⟨b, 0, none⟩), .string (bt s)] w fun e w' => e = .returned (.tuple #[.int .i64 (bt s).size, .nilIface]) ∧ Bld w' b (l ++ s) ∧ Below b w w' ∧ Oth b w w' := by
  refine (Any.Builder_WriteString_k lays166 Try.Builder_Extra_105 b b _ (bt s) w h (by rw [strCells_len, bt_size]; omega) (Nat.le_of_lt h.lt)).mono ?_
  rintro e w' ⟨rfl, hb, y, o⟩
  refine ⟨rfl, .inr ?_, y, o⟩
  unfold PB.Bld at *
  rw [strCells_bt]
  exact hb
theorem bld_str {w : World} {b : Nat} {l : List Nat} (h : Bld w b l) :
    Calls Try.prog 43 #[.pointer (some ⟨b, 0, none⟩)] w fun e w' => e = .returned (.string (bt l)) ∧ Below b w w' := by
  refine (Try.Builder_String_any_f b b (bt l).data.toList w h (Nat.le_of_lt h.lt)).mono ?_
  rintro e w' ⟨rfl, _, y⟩
  exact ⟨by simp, y⟩
end PB
end Go.Proofs.Ytnnpkajmheglgaa
