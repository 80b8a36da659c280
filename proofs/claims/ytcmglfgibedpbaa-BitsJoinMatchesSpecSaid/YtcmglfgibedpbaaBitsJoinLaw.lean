/-
  Joined bit strings and parts, with all errors, are as specified: the parts of the walk of the statement BitsJoinMatchesSpec, joined.
-/
import Derived.Test.YtcmglfgibedpbaaRows
import Derived.Test.YtcmglfgibedpbaaBitsApi
import Derived.Test.YtcmglfgibedpbaaBitsJoinLawE
import Derived.Test.YtcmglfgibedpbaaBitsJoinLawO
namespace Go.Proofs.Ytcmglfgibedpbaa
open Go.RowKit
set_option linter.unusedVariables false
set_option linter.unusedSimpArgs false
namespace PB
theorem jm_all {Aq : Option Addr} {nq_ cq : Nat} {xs : List BItem} {A : Option Addr} {n c : Nat} {d : List Nat} {cnt f t : Int} (hw : ∀ x ∈ xs, x.wf) (hd : ∀ k, d.getD k 0 < 256) (hlo : -9223372036854775808 ≤ cnt) (hhi : cnt ≤ 9223372036854775807) (w : World) (hq : RdB w Aq nq_ cq xs) (h : Rd w A n c (bcells d)) :
    Calls Try.prog 9 #[.slice Aq nq_ cq, .agg #[.slice A n c, .int .i64 cnt], .int .i64 f, .int .i64 t] w fun e w' => e = .returned (.bool true) ∧ Below w.heap.size w w' := by
  obtain ⟨code, idx, hJ⟩ := jout_ex xs
  have hS : ¬ Ok d cnt ∨ ∃ l, Is01 l ∧ l.length ≤ 131072 ∧ d = pack l ∧ cnt = (l.length : Nat) ∧ ((f < 0 ∨ ((l.length : Nat) : Int) < f) ∨ (0 ≤ f ∧ f ≤ ((l.length : Nat) : Int) ∧ (t < f ∨ ((l.length : Nat) : Int) < t)) ∨ ∃ f' t' : Nat, f = (f' : Nat) ∧ t = (t' : Nat) ∧ f' ≤ t' ∧ t' ≤ l.length) := by
    by_cases hok : Ok d cnt
    · obtain ⟨l, g1, g2, rfl, rfl⟩ := hok.list hd
      refine .inr ⟨l, g1, g2, rfl, rfl, ?_⟩
      by_cases h1 : f < 0 ∨ ((l.length : Nat) : Int) < f
      · exact .inl h1
      by_cases h2 : t < f ∨ ((l.length : Nat) : Int) < t
      · exact .inr (.inl ⟨by omega, by omega, h2⟩)
      · obtain ⟨f', rfl⟩ := Int.eq_ofNat_of_zero_le (show 0 ≤ f by omega)
        obtain ⟨t', rfl⟩ := Int.eq_ofNat_of_zero_le (show 0 ≤ t by omega)
        exact .inr (.inr ⟨f', t', rfl, rfl, by omega, by omega⟩)
    · exact .inl hok
  by_cases hc : code = 0
  · obtain ⟨hx1, hx2, hx3, rfl⟩ : xs.length ≤ 256 ∧ AllOk xs xs.length ∧ (joined xs).length ≤ 131072 ∧ idx = 0 := by
      subst hc
      rcases hJ with ⟨_, h1, _⟩ | ⟨_, _, _, _, _, h1, _⟩ | ⟨_, _, _, h1, _⟩ | ⟨h1, h2, h3, _, h4⟩
      · cases h1
      · cases h1
      · cases h1
      · exact ⟨h1, h2, h3, h4⟩
    subst hc
    rcases hS with hno | ⟨l, g1, g2, rfl, rfl, hf | ⟨hf0, hf1, ht⟩ | ⟨f', t', rfl, rfl, k1, k2⟩⟩
    · exact jm_ob hw hJ hx2 hx1 hx3 hd hlo hhi hno w hq h
    · exact jm_of hw hJ hx2 hx1 hx3 g1 g2 hf w hq h
    · exact jm_ot hw hJ hx2 hx1 hx3 g1 g2 hf0 hf1 ht w hq h
    · exact jm_oo hw hJ hx2 hx1 hx3 g1 g2 k1 k2 w hq h
  · rcases hS with hno | ⟨l, g1, g2, rfl, rfl, hf | ⟨hf0, hf1, ht⟩ | ⟨f', t', rfl, rfl, k1, k2⟩⟩
    · exact jm_eb hw hJ hc hd hlo hhi hno w hq h
    · exact jm_ef hw hJ hc g1 g2 hf w hq h
    · exact jm_et hw hJ hc g1 g2 hf0 hf1 ht w hq h
    · exact jm_eo hw hJ hc g1 g2 k1 k2 w hq h
end PB
end Go.Proofs.Ytcmglfgibedpbaa
