/-
  The reference's functions on bits: JoinFault and Joined.
-/
import Derived.Test.YtnahmiglogddaaaRows
import Derived.Test.YtnahmiglogddaaaBitsItems
namespace Go.Proofs.Ytnahmiglogddaaa
open Go.RowKit
set_option linter.unusedVariables false
set_option linter.unusedSimpArgs false
namespace PB
/-- An element of a slice of bit strings: its cells as the walk spells them. -/
theorem RdB.at {w : World} {A : Option Addr} {n c : Nat} {xs : List BItem} (h : RdB w A n c xs) (k : Nat) (hk : k < xs.length) :
    ∃ b off, A = some ⟨b, off, none⟩ ∧ b < w.heap.size ∧ w.cell? ⟨b, off + k * 2, none⟩ = some (.slice xs[k].A xs[k].n xs[k].c) ∧ w.cell? ⟨b, off + k * 2 + 1, none⟩ = some (.int .i64 xs[k].cnt) ∧ Rd w xs[k].A xs[k].n xs[k].c (bcells xs[k].d) := by
  have h0 := h.1
  obtain ⟨b, off, e, hlt, hc⟩ := h.2.2.2 (by omega)
  obtain ⟨q1, q2, q3⟩ := hc k xs[k] (List.getElem?_eq_getElem hk)
  exact ⟨b, off, e, hlt, q1, q2, q3⟩
end PB
end Go.Proofs.Ytnahmiglogddaaa
