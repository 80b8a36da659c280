/-
  The reference's functions on bits: AppendFault and ReadFault.
-/
import Derived.Test.YtlhglomhfbbinaaRows
import Derived.Test.YtlhglomhfbbinaaBitsRef3
namespace Go.Proofs.Ytlhglomhfbbinaa
open Go.RowKit
set_option linter.unusedVariables false
set_option linter.unusedSimpArgs false
namespace PB
theorem pow_le_int {v m : Nat} : ((v : Int) ≥ ((2 ^ m : Nat) : Int)) ↔ 2 ^ m ≤ v := by omega
theorem rg_bad {A : Option Addr} {n c : Nat} {l : List Nat} {f cd : Nat} {w : World} (h : Rd w A n c (bcells (pack l))) (h01 : Is01 l) (hl : l.length ≤ 131072) (hf : f ≤ l.length) (hG : GAt l f 0 0 cd) (hc : cd ≠ 0) :
    Calls Try.prog 60 #[.agg #[.slice A n c, .int .i64 l.length], .int .i64 (f : Nat)] w fun e w' => e = .returned (.tuple #[.int .i64 0, .int .i64 0, .agg #[.int .i64 (cd : Nat), .int .i64 (-2)]]) ∧ Below w.heap.size w w' := by
  rcases hG with ⟨h1, _, _, rfl⟩ | ⟨h1, h2, _, _, rfl⟩ | ⟨_, _, _, _, h3⟩
  · exact rgamma_corrupt A n c l f _ w h (Nat.le_refl _) h01 hl hf h1
  · exact rgamma_trunc A n c l f _ w h (Nat.le_refl _) h01 hl hf h1 h2
  · exact absurd h3 hc
theorem rg_ok {A : Option Addr} {n c : Nat} {l : List Nat} {f v e1 : Nat} {w : World} (h : Rd w A n c (bcells (pack l))) (h01 : Is01 l) (hl : l.length ≤ 131072) (hf : f ≤ l.length) (hG : GAt l f v e1 0) :
    Calls Try.prog 60 #[.agg #[.slice A n c, .int .i64 l.length], .int .i64 (f : Nat)] w fun e w' => e = .returned (.tuple #[.int .i64 (v : Nat), .int .i64 (e1 : Nat), .agg #[.int .i64 0, .int .i64 0]]) ∧ Below w.heap.size w w' := by
  rcases hG with ⟨_, _, _, h3⟩ | ⟨_, _, _, _, h3⟩ | ⟨h1, h2, rfl, rfl, _⟩
  · cases h3
  · cases h3
  · exact rgamma_ok A n c l f _ w h (Nat.le_refl _) h01 hl hf h1 h2
end PB
end Go.Proofs.Ytlhglomhfbbinaa
