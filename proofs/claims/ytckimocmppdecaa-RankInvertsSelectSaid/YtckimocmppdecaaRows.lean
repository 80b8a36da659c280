/-
  No cell of these rows narrows 'for every input' (looked for: loops, veiled, ifaces, maps, wideKeys, modest, calm, conditions, laid).
  DERIVED. THE GIVEN ROWS OF THIS SEAT. 5 by the template 'for every input the law returns true; each argument reads behind the call as it read before'; 0 by the template 'total and deterministic' (their statements: YtckimocmppdecaaTotals.lean).
  GIVEN WITH THE SEED: the statements are not yours to turn. If you find one false, say at which input.
  Laid BY PROGRAM, IN A SANDBOX (cutbox-rows.mjs): the forced cells as the released guide's own fill.sh prints them over the translation 790218257ace106e… (all of the seat's roots in one cut). By AI agents, Wed Nov 11 2026. No macro, syntax, notation, axiom, sorry.
-/
import Derived.Test.YtckimocmppdecaaChecked
import GoSem.Claim
import GoSem.ClaimJoined
import GoSem.ClaimMapViews
import Derived.JoinedTies
import Derived.KernelRfl
namespace Go.Proofs.Ytckimocmppdecaa
/- THE CELL 'sum', in the pinned program and in every row, IS THE sha256 OF THE DUMP (.gsa) THAT YtckimocmppdecaaProg.lean LOADS. Nothing in Lean hashes anything: it is a label: what it is worth is what the hold of that sum in a sandbox is worth. -/
noncomputable def Try.pinned : Pinned := { name := "ytckimocmppdecaa", sum := "790218257ace106e503697579c3a829a11504c2763884467ecd4a45e7db79343", checked := Try.checked }
namespace Rows
def none {H : Type} : Left H := { results := [], args := [] }

/-- 'scriptoriumlaw3.RankBuildMatchesSpec': WHATEVER THE INPUT: true; the input reads as it did. -/
def rankBuildMatchesSpecSpec : ChangeSpec := { name := "rankBuildMatchesSpec", fn := fun _ => fun
  | [d1, d2] => { results := [.lit (.bool true)], args := [d1, d2] }
  | _ => none }
def rankBuildMatchesSpecRow : OpenClaim := { program := "ytckimocmppdecaa", sum := "790218257ace106e503697579c3a829a11504c2763884467ecd4a45e7db79343", func := "scriptorium/scriptoriumlaw3.RankBuildMatchesSpec", spec := "rankBuildMatchesSpec", unfollowed := true, recurses := true, apart := false }
def RankBuildMatchesSpecSaid : Prop := rankBuildMatchesSpecRow.holds Try.pinned (OpenSpec.ofChange rankBuildMatchesSpecSpec)

/-- ITS FALSE NEIGHBOUR: 'it returns false'. Refute it at one input. -/
def rankBuildMatchesSpecWrong : ChangeSpec := { name := "rankBuildMatchesSpec", fn := fun _ => fun
  | [d1, d2] => { results := [.lit (.bool false)], args := [d1, d2] }
  | _ => none }
def RankBuildMatchesSpecWrongFalsely : Prop := rankBuildMatchesSpecRow.holds Try.pinned (OpenSpec.ofChange rankBuildMatchesSpecWrong)

/-- 'scriptoriumlaw3.RankMatchesSpec': WHATEVER THE INPUT: true; the input reads as it did. -/
def rankMatchesSpecSpec : ChangeSpec := { name := "rankMatchesSpec", fn := fun _ => fun
  | [d1, d2] => { results := [.lit (.bool true)], args := [d1, d2] }
  | _ => none }
def rankMatchesSpecRow : OpenClaim := { program := "ytckimocmppdecaa", sum := "790218257ace106e503697579c3a829a11504c2763884467ecd4a45e7db79343", func := "scriptorium/scriptoriumlaw3.RankMatchesSpec", spec := "rankMatchesSpec", unfollowed := true, recurses := true, apart := false }
def RankMatchesSpecSaid : Prop := rankMatchesSpecRow.holds Try.pinned (OpenSpec.ofChange rankMatchesSpecSpec)

/-- ITS FALSE NEIGHBOUR: 'it returns false'. Refute it at one input. -/
def rankMatchesSpecWrong : ChangeSpec := { name := "rankMatchesSpec", fn := fun _ => fun
  | [d1, d2] => { results := [.lit (.bool false)], args := [d1, d2] }
  | _ => none }
def RankMatchesSpecWrongFalsely : Prop := rankMatchesSpecRow.holds Try.pinned (OpenSpec.ofChange rankMatchesSpecWrong)

/-- 'scriptoriumlaw3.RankInvertsSelect': WHATEVER THE INPUT: true; the input reads as it did. -/
def rankInvertsSelectSpec : ChangeSpec := { name := "rankInvertsSelect", fn := fun _ => fun
  | [d1, d2] => { results := [.lit (.bool true)], args := [d1, d2] }
  | _ => none }
def rankInvertsSelectRow : OpenClaim := { program := "ytckimocmppdecaa", sum := "790218257ace106e503697579c3a829a11504c2763884467ecd4a45e7db79343", func := "scriptorium/scriptoriumlaw3.RankInvertsSelect", spec := "rankInvertsSelect", unfollowed := true, recurses := true, apart := false }
def RankInvertsSelectSaid : Prop := rankInvertsSelectRow.holds Try.pinned (OpenSpec.ofChange rankInvertsSelectSpec)

/-- ITS FALSE NEIGHBOUR: 'it returns false'. Refute it at one input. -/
def rankInvertsSelectWrong : ChangeSpec := { name := "rankInvertsSelect", fn := fun _ => fun
  | [d1, d2] => { results := [.lit (.bool false)], args := [d1, d2] }
  | _ => none }
def RankInvertsSelectWrongFalsely : Prop := rankInvertsSelectRow.holds Try.pinned (OpenSpec.ofChange rankInvertsSelectWrong)

/-- 'scriptoriumlaw3.RankReadersMatchSpec': WHATEVER THE INPUT: true; the input reads as it did. -/
def rankReadersMatchSpecSpec : ChangeSpec := { name := "rankReadersMatchSpec", fn := fun _ => fun
  | [d1, d2] => { results := [.lit (.bool true)], args := [d1, d2] }
  | _ => none }
def rankReadersMatchSpecRow : OpenClaim := { program := "ytckimocmppdecaa", sum := "790218257ace106e503697579c3a829a11504c2763884467ecd4a45e7db79343", func := "scriptorium/scriptoriumlaw3.RankReadersMatchSpec", spec := "rankReadersMatchSpec", unfollowed := true, recurses := true, apart := false }
def RankReadersMatchSpecSaid : Prop := rankReadersMatchSpecRow.holds Try.pinned (OpenSpec.ofChange rankReadersMatchSpecSpec)

/-- ITS FALSE NEIGHBOUR: 'it returns false'. Refute it at one input. -/
def rankReadersMatchSpecWrong : ChangeSpec := { name := "rankReadersMatchSpec", fn := fun _ => fun
  | [d1, d2] => { results := [.lit (.bool false)], args := [d1, d2] }
  | _ => none }
def RankReadersMatchSpecWrongFalsely : Prop := rankReadersMatchSpecRow.holds Try.pinned (OpenSpec.ofChange rankReadersMatchSpecWrong)

/-- 'scriptoriumlaw3.RankAdds': WHATEVER THE INPUT: true; the input reads as it did. -/
def rankAddsSpec : ChangeSpec := { name := "rankAdds", fn := fun _ => fun
  | [d1, d2, d3] => { results := [.lit (.bool true)], args := [d1, d2, d3] }
  | _ => none }
def rankAddsRow : OpenClaim := { program := "ytckimocmppdecaa", sum := "790218257ace106e503697579c3a829a11504c2763884467ecd4a45e7db79343", func := "scriptorium/scriptoriumlaw3.RankAdds", spec := "rankAdds", unfollowed := true, recurses := true, apart := false }
def RankAddsSaid : Prop := rankAddsRow.holds Try.pinned (OpenSpec.ofChange rankAddsSpec)

/-- ITS FALSE NEIGHBOUR: 'it returns false'. Refute it at one input. -/
def rankAddsWrong : ChangeSpec := { name := "rankAdds", fn := fun _ => fun
  | [d1, d2, d3] => { results := [.lit (.bool false)], args := [d1, d2, d3] }
  | _ => none }
def RankAddsWrongFalsely : Prop := rankAddsRow.holds Try.pinned (OpenSpec.ofChange rankAddsWrong)

/- THE SECOND FORM. 'bulk': how many values and letters a reading holds, each counted each time it is reached (what is shared counts as often as it is met; a slice's spare places count too). A statement '..UptoSaid' is the law's where the arguments, and the package variables that the reading takes, are together of bulk at most 1048576: NARROWER than '..Said'. Prove '..Said' where nothing that the law and all that it calls make is longer than what came in: it says more and counts as full. Else prove '..UptoSaid'. A law counts once. -/
mutual
def uptoBulk {H : Type} : DataW H → Nat
  | .lit (.string bytes) => bytes.length + 1
  | .lit _ => 1
  | .nil => 1
  | .ptr d => uptoBulk d + 1
  | .slice elems spare => uptoBulkAll elems + uptoBulkAll spare + 1
  | .agg parts => uptoBulkAll parts + 1
  | .iface _ d => uptoBulk d + 1
  | .map entries => uptoBulkEntries entries + 1
  | .held _ => 1
def uptoBulkAll {H : Type} : List (DataW H) → Nat
  | [] => 0
  | d :: r => uptoBulk d + uptoBulkAll r
def uptoBulkEntries {H : Type} : List (Lit × DataW H) → Nat
  | [] => 0
  | x :: r => uptoBulkEntry x + uptoBulkEntries r
def uptoBulkEntry {H : Type} : Lit × DataW H → Nat
  | (.string bytes, d) => bytes.length + uptoBulk d + 1
  | (_, d) => uptoBulk d + 1
 end
def uptoSmall : (H : Type) → List (DataW H) → Bool := fun _ ds => decide (uptoBulkAll ds ≤ 1048576)
def OpenSpec.upto (s : _root_.Go.ChangeSpec) : _root_.Go.OpenSpec := { _root_.Go.OpenSpec.ofChange s with cond := some uptoSmall }

/-- 'scriptoriumlaw3.RankBuildMatchesSpec', WHERE WHAT IT READS IS OF BULK AT MOST 1048576: true; the input reads as it did. -/
def rankBuildMatchesSpecUptoRow : OpenClaim := { program := "ytckimocmppdecaa", sum := "790218257ace106e503697579c3a829a11504c2763884467ecd4a45e7db79343", func := "scriptorium/scriptoriumlaw3.RankBuildMatchesSpec", spec := "rankBuildMatchesSpec", unfollowed := true, recurses := true, apart := false, narrowed := true }
def RankBuildMatchesSpecUptoSaid : Prop := rankBuildMatchesSpecUptoRow.holds Try.pinned (OpenSpec.upto rankBuildMatchesSpecSpec)

/-- 'scriptoriumlaw3.RankMatchesSpec', WHERE WHAT IT READS IS OF BULK AT MOST 1048576: true; the input reads as it did. -/
def rankMatchesSpecUptoRow : OpenClaim := { program := "ytckimocmppdecaa", sum := "790218257ace106e503697579c3a829a11504c2763884467ecd4a45e7db79343", func := "scriptorium/scriptoriumlaw3.RankMatchesSpec", spec := "rankMatchesSpec", unfollowed := true, recurses := true, apart := false, narrowed := true }
def RankMatchesSpecUptoSaid : Prop := rankMatchesSpecUptoRow.holds Try.pinned (OpenSpec.upto rankMatchesSpecSpec)

/-- 'scriptoriumlaw3.RankInvertsSelect', WHERE WHAT IT READS IS OF BULK AT MOST 1048576: true; the input reads as it did. -/
def rankInvertsSelectUptoRow : OpenClaim := { program := "ytckimocmppdecaa", sum := "790218257ace106e503697579c3a829a11504c2763884467ecd4a45e7db79343", func := "scriptorium/scriptoriumlaw3.RankInvertsSelect", spec := "rankInvertsSelect", unfollowed := true, recurses := true, apart := false, narrowed := true }
def RankInvertsSelectUptoSaid : Prop := rankInvertsSelectUptoRow.holds Try.pinned (OpenSpec.upto rankInvertsSelectSpec)

/-- 'scriptoriumlaw3.RankReadersMatchSpec', WHERE WHAT IT READS IS OF BULK AT MOST 1048576: true; the input reads as it did. -/
def rankReadersMatchSpecUptoRow : OpenClaim := { program := "ytckimocmppdecaa", sum := "790218257ace106e503697579c3a829a11504c2763884467ecd4a45e7db79343", func := "scriptorium/scriptoriumlaw3.RankReadersMatchSpec", spec := "rankReadersMatchSpec", unfollowed := true, recurses := true, apart := false, narrowed := true }
def RankReadersMatchSpecUptoSaid : Prop := rankReadersMatchSpecUptoRow.holds Try.pinned (OpenSpec.upto rankReadersMatchSpecSpec)

/-- 'scriptoriumlaw3.RankAdds', WHERE WHAT IT READS IS OF BULK AT MOST 1048576: true; the input reads as it did. -/
def rankAddsUptoRow : OpenClaim := { program := "ytckimocmppdecaa", sum := "790218257ace106e503697579c3a829a11504c2763884467ecd4a45e7db79343", func := "scriptorium/scriptoriumlaw3.RankAdds", spec := "rankAdds", unfollowed := true, recurses := true, apart := false, narrowed := true }
def RankAddsUptoSaid : Prop := rankAddsUptoRow.holds Try.pinned (OpenSpec.upto rankAddsSpec)

end Rows
end Go.Proofs.Ytckimocmppdecaa
