/-
  Contracts of package lz as the laws of it want them.
-/
import Derived.Test.YtnahmiglogddaaaRows
import Derived.Test.YtnahmiglogddaaaLzEx
import Derived.Test.YtnahmiglogddaaaLzLawPlain2
import Derived.Deep.RegionHeld3
import Derived.Deep.DrawnRows
import Derived.Lib.SlBytesConst
namespace Go.Proofs.Ytnahmiglogddaaa
open Go.RowKit
attribute [local go_sem ↓] Go.wp_at_zero Go.wp_at_succ
set_option linter.unusedVariables false
set_option linter.unusedSimpArgs false
namespace PB
theorem parse_api {A : Option Addr} {n c : Nat} {data : List Nat} {A2 : Option Addr} {n2 c2 : Nat} {dict : List Nat} {w : World} (h : Rd w A n c (bcells data)) (h2 : Rd w A2 n2 c2 (bcells dict)) (hn : n ≤ 1024) (hn2 : n2 ≤ 512) :
    Calls Try.prog 20 #[.slice A n c, .slice A2 n2 c2] w fun e w' => ∃ A' m c' ts, e = .returned (.tuple #[.slice A' m c', .agg #[.int .i64 0, .int .i64 0]]) ∧ (RdT w' A' m c' ts ∧ PTok data dict ts) ∧ Below w.heap.size w w' := by
  have e2 := h2.len
  rw [bcells_length] at e2
  refine (lzparse_ok h h2 hn hn2).mono ?_
  rintro e w' ⟨L, nn, dd, A', m, c', rfl, hT, ho, hb⟩
  subst e2
  exact ⟨A', m, c', _, rfl, ⟨RdT.own ho, L, nn, dd, hT, rfl⟩, hb⟩
theorem cost_api {A : Option Addr} {m c : Nat} {ts : List Tok} {data dict : List Nat} {w : World} (h : RdT w A m c ts) (hP : PTok data dict ts) (h1 : data.length ≤ 1024) (h2 : dict.length ≤ 512) (r : Nat) (hr : r = costs ts) :
    Calls Try.prog 21 #[.slice A m c] w fun e w' => e = .returned (.tuple #[.int .i64 (r : Nat), .agg #[.int .i64 0, .int .i64 0]]) ∧ Below w.heap.size w w' := by
  subst hr
  obtain ⟨a, b, _⟩ := hP.ok h1 h2
  exact lzcosts_ok h b (AllTok.of _ a)
theorem costs_le (ts : List Tok) (h : AllTok ts ts.length) (hl : ts.length ≤ 1024) : costs ts ≤ 1000000 := by
  have := costs_take_le ts h ts.length
  rw [List.take_of_length_le (Nat.le_refl _)] at this
  omega
end PB
end Go.Proofs.Ytnahmiglogddaaa
