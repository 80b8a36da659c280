/-
  bits.Slice hands back a part of a bit string, or tells why it cannot.
-/
import Derived.Test.YtnnpkajmheglgaaRows
import Derived.Test.YtnnpkajmheglgaaBitsBox
import Derived.WalkKit
import Derived.WalkSpells
import Derived.WalkLawsBesides
import Derived.Lib.Hide
import Derived.BigQuiet
import Derived.Deep.DrawnRows
import Derived.Deep.RegionHeld3
namespace Go.Proofs.Ytnnpkajmheglgaa
open Go.RowKit
attribute [local go_sem ↓] Go.wp_at_zero Go.wp_at_succ
set_option linter.unusedVariables false
set_option linter.unusedSimpArgs false
namespace PB
/-- bits.put where the list's length is given apart. -/
theorem put_it {A : Option Addr} {n c : Nat} {L : List Nat} {k b : Nat} {base : Nat} {w : World} (hk : L.length = k) (h01 : Is01 L) (hbit : b < 2) (hl : k < 1000000)
    (hown : w.ownsRow base 5 1 (.slice A n c) n (bcells (pack L))) (hbase : base ≤ w.heap.size) :
    Calls Try.prog 56 #[.agg #[.slice A n c, .int .i64 k], .int .i64 b] w fun e w' => ∃ A' n' c', e = .returned (.agg #[.slice A' n' c', .int .i64 ((k : Int) + 1)]) ∧
      w'.ownsRow base 5 1 (.slice A' n' c') n' (bcells (pack (L ++ [b]))) ∧ w.grownBy w' (Value.slice A n c).ownBlock := by
  subst hk
  refine (put_any A n c L _ base w h01 hbit hl hown hbase).mono ?_
  rintro e w' ⟨A', n', c', rfl, h1, h2⟩
  exact ⟨A', n', c', by simp, h1, h2⟩
/-- bits.at where the bit is given apart. -/
theorem at_bit (A : Option Addr) (n c : Nat) (l : List Nat) (i b : Nat) (ii : Int) (hii : ii = (i : Nat)) (B : Nat) (w : World) (h : Reads w B A n c (bcells (pack l))) (h01 : Is01 l) (hi : i < l.length) (hb : b = l.getD i 0) (hB : B ≤ w.heap.size) :
    Calls Try.prog 57 #[.agg #[.slice A n c, .int .i64 l.length], .int .i64 ii] w fun e w' => e = .returned (.int .i64 b) ∧ Below w.heap.size w w' := by
  subst hb hii
  exact at_list A n c l i B w h h01 hi hB
theorem take_drop_snoc {l : List Nat} {f k : Nat} (h : f + k < l.length) : (l.drop f).take (k + 1) = (l.drop f).take k ++ [l.getD (f + k) 0] := by
  rw [List.take_succ_eq_append_getElem (by rw [List.length_drop]; omega), List.getElem_drop, getD_lt h]
theorem Box3.alloc {w : World} {s : Nat} {v0 v1 : Value} (h : Box3 w s v0 v1) (o : Obj) : Box3 (w.alloc o) s v0 v1 := ⟨h.1.alloc o, h.2.1.alloc o, h.2.2.alloc o⟩
theorem Box3.grown {w w' : World} {s : Nat} {v0 v1 : Value} {row : Option Nat} (h : Box3 w s v0 v1) (hb : w.grownBy w' row) (h0 : row ≠ some s) (h1 : row ≠ some (s + 1)) (h2 : row ≠ some (s + 2)) : Box3 w' s v0 v1 :=
  ⟨h.1.grown hb h0.symm, h.2.1.grown hb h1.symm, h.2.2.grown hb h2.symm⟩
theorem Box3.far {w : World} {s : Nat} {v0 v1 : Value} (h : Box3 w s v0 v1) {p : Addr} (hp : s + 2 < p.block) (u : Value) : Box3 (w.setCell p u) s v0 v1 :=
  ⟨h.1.far (by omega) u, h.2.1.far (by omega) u, h.2.2.far (by omega) u⟩
end PB
end Go.Proofs.Ytnnpkajmheglgaa
