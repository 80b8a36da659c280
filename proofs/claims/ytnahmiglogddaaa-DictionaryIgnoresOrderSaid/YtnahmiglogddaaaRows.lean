/-
  No cell of these rows narrows 'for every input' (looked for: loops, veiled, ifaces, maps, wideKeys, modest, calm, conditions, laid).
  DERIVED. THE GIVEN ROWS OF THIS SEAT. 5 by the template 'for every input the law returns true; each argument reads behind the call as it read before'; 0 by the template 'total and deterministic' (their statements: YtnahmiglogddaaaTotals.lean).
  GIVEN WITH THE SEED: the statements are not yours to turn. If you find one false, say at which input.
  Laid BY PROGRAM, IN A SANDBOX (cutbox-rows.mjs): the forced cells as the released guide's own fill.sh prints them over the translation ab01da3da72f62b0… (all of the seat's roots in one cut). By AI agents, Wed Nov 11 2026. No macro, syntax, notation, axiom, sorry.
-/
import Derived.Test.YtnahmiglogddaaaChecked
import GoSem.Claim
import GoSem.ClaimJoined
import GoSem.ClaimMapViews
import Derived.JoinedTies
import Derived.KernelRfl
namespace Go.Proofs.Ytnahmiglogddaaa
/- THE CELL 'sum', in the pinned program and in every row, IS THE sha256 OF THE DUMP (.gsa) THAT YtnahmiglogddaaaProg.lean LOADS. Nothing in Lean hashes anything: it is a label: what it is worth is what the hold of that sum in a sandbox is worth. -/
noncomputable def Try.pinned : Pinned := { name := "ytnahmiglogddaaa", sum := "ab01da3da72f62b03679e624f1827cbb30a383913affddc45690fc33eaad9c55", checked := Try.checked }
namespace Rows
def none {H : Type} : Left H := { results := [], args := [] }

/-- 'scriptoriumlaw3.DictionaryTrainMatchesSpec': WHATEVER THE INPUT: true; the input reads as it did. -/
def dictionaryTrainMatchesSpecSpec : ChangeSpec := { name := "dictionaryTrainMatchesSpec", fn := fun _ => fun
  | [d1, d2] => { results := [.lit (.bool true)], args := [d1, d2] }
  | _ => none }
def dictionaryTrainMatchesSpecRow : OpenClaim := { program := "ytnahmiglogddaaa", sum := "ab01da3da72f62b03679e624f1827cbb30a383913affddc45690fc33eaad9c55", func := "scriptorium/scriptoriumlaw3.DictionaryTrainMatchesSpec", spec := "dictionaryTrainMatchesSpec", inPlace := ["internal/bytealg.IndexByte", "internal/bytealg.Index"], unfollowed := true, recurses := true, named := ["internal/bytealg.MaxLen"], apart := false }
def DictionaryTrainMatchesSpecSaid : Prop := dictionaryTrainMatchesSpecRow.holds Try.pinned (OpenSpec.ofChange dictionaryTrainMatchesSpecSpec)

/-- ITS FALSE NEIGHBOUR: 'it returns false'. Refute it at one input. -/
def dictionaryTrainMatchesSpecWrong : ChangeSpec := { name := "dictionaryTrainMatchesSpec", fn := fun _ => fun
  | [d1, d2] => { results := [.lit (.bool false)], args := [d1, d2] }
  | _ => none }
def DictionaryTrainMatchesSpecWrongFalsely : Prop := dictionaryTrainMatchesSpecRow.holds Try.pinned (OpenSpec.ofChange dictionaryTrainMatchesSpecWrong)

/-- 'scriptoriumlaw3.DictionaryNextMatchesSpec': WHATEVER THE INPUT: true; the input reads as it did. -/
def dictionaryNextMatchesSpecSpec : ChangeSpec := { name := "dictionaryNextMatchesSpec", fn := fun _ => fun
  | [d1, d2, d3] => { results := [.lit (.bool true)], args := [d1, d2, d3] }
  | _ => none }
def dictionaryNextMatchesSpecRow : OpenClaim := { program := "ytnahmiglogddaaa", sum := "ab01da3da72f62b03679e624f1827cbb30a383913affddc45690fc33eaad9c55", func := "scriptorium/scriptoriumlaw3.DictionaryNextMatchesSpec", spec := "dictionaryNextMatchesSpec", inPlace := ["internal/bytealg.IndexByte", "internal/bytealg.Index"], unfollowed := true, recurses := true, named := ["internal/bytealg.MaxLen"], apart := false }
def DictionaryNextMatchesSpecSaid : Prop := dictionaryNextMatchesSpecRow.holds Try.pinned (OpenSpec.ofChange dictionaryNextMatchesSpecSpec)

/-- ITS FALSE NEIGHBOUR: 'it returns false'. Refute it at one input. -/
def dictionaryNextMatchesSpecWrong : ChangeSpec := { name := "dictionaryNextMatchesSpec", fn := fun _ => fun
  | [d1, d2, d3] => { results := [.lit (.bool false)], args := [d1, d2, d3] }
  | _ => none }
def DictionaryNextMatchesSpecWrongFalsely : Prop := dictionaryNextMatchesSpecRow.holds Try.pinned (OpenSpec.ofChange dictionaryNextMatchesSpecWrong)

/-- 'scriptoriumlaw3.DictionaryIgnoresOrder': WHATEVER THE INPUT: true; the input reads as it did. -/
def dictionaryIgnoresOrderSpec : ChangeSpec := { name := "dictionaryIgnoresOrder", fn := fun _ => fun
  | [d1, d2, d3] => { results := [.lit (.bool true)], args := [d1, d2, d3] }
  | _ => none }
def dictionaryIgnoresOrderRow : OpenClaim := { program := "ytnahmiglogddaaa", sum := "ab01da3da72f62b03679e624f1827cbb30a383913affddc45690fc33eaad9c55", func := "scriptorium/scriptoriumlaw3.DictionaryIgnoresOrder", spec := "dictionaryIgnoresOrder", inPlace := ["internal/bytealg.IndexByte", "internal/bytealg.Index"], unfollowed := true, recurses := true, named := ["internal/bytealg.MaxLen"], apart := false }
def DictionaryIgnoresOrderSaid : Prop := dictionaryIgnoresOrderRow.holds Try.pinned (OpenSpec.ofChange dictionaryIgnoresOrderSpec)

/-- ITS FALSE NEIGHBOUR: 'it returns false'. Refute it at one input. -/
def dictionaryIgnoresOrderWrong : ChangeSpec := { name := "dictionaryIgnoresOrder", fn := fun _ => fun
  | [d1, d2, d3] => { results := [.lit (.bool false)], args := [d1, d2, d3] }
  | _ => none }
def DictionaryIgnoresOrderWrongFalsely : Prop := dictionaryIgnoresOrderRow.holds Try.pinned (OpenSpec.ofChange dictionaryIgnoresOrderWrong)

/-- 'scriptoriumlaw3.DictionaryIsComplete': WHATEVER THE INPUT: true; the input reads as it did. -/
def dictionaryIsCompleteSpec : ChangeSpec := { name := "dictionaryIsComplete", fn := fun _ => fun
  | [d1, d2, d3] => { results := [.lit (.bool true)], args := [d1, d2, d3] }
  | _ => none }
def dictionaryIsCompleteRow : OpenClaim := { program := "ytnahmiglogddaaa", sum := "ab01da3da72f62b03679e624f1827cbb30a383913affddc45690fc33eaad9c55", func := "scriptorium/scriptoriumlaw3.DictionaryIsComplete", spec := "dictionaryIsComplete", inPlace := ["internal/bytealg.IndexByte", "internal/bytealg.Index"], unfollowed := true, recurses := true, named := ["internal/bytealg.MaxLen"], apart := false }
def DictionaryIsCompleteSaid : Prop := dictionaryIsCompleteRow.holds Try.pinned (OpenSpec.ofChange dictionaryIsCompleteSpec)

/-- ITS FALSE NEIGHBOUR: 'it returns false'. Refute it at one input. -/
def dictionaryIsCompleteWrong : ChangeSpec := { name := "dictionaryIsComplete", fn := fun _ => fun
  | [d1, d2, d3] => { results := [.lit (.bool false)], args := [d1, d2, d3] }
  | _ => none }
def DictionaryIsCompleteWrongFalsely : Prop := dictionaryIsCompleteRow.holds Try.pinned (OpenSpec.ofChange dictionaryIsCompleteWrong)

/-- 'scriptoriumlaw3.DictionaryWorthMatchesSpec': WHATEVER THE INPUT: true; the input reads as it did. -/
def dictionaryWorthMatchesSpecSpec : ChangeSpec := { name := "dictionaryWorthMatchesSpec", fn := fun _ => fun
  | [d1, d2] => { results := [.lit (.bool true)], args := [d1, d2] }
  | _ => none }
def dictionaryWorthMatchesSpecRow : OpenClaim := { program := "ytnahmiglogddaaa", sum := "ab01da3da72f62b03679e624f1827cbb30a383913affddc45690fc33eaad9c55", func := "scriptorium/scriptoriumlaw3.DictionaryWorthMatchesSpec", spec := "dictionaryWorthMatchesSpec", inPlace := ["internal/bytealg.IndexByte", "internal/bytealg.Index"], unfollowed := true, recurses := true, named := ["internal/bytealg.MaxLen"], apart := false }
def DictionaryWorthMatchesSpecSaid : Prop := dictionaryWorthMatchesSpecRow.holds Try.pinned (OpenSpec.ofChange dictionaryWorthMatchesSpecSpec)

/-- ITS FALSE NEIGHBOUR: 'it returns false'. Refute it at one input. -/
def dictionaryWorthMatchesSpecWrong : ChangeSpec := { name := "dictionaryWorthMatchesSpec", fn := fun _ => fun
  | [d1, d2] => { results := [.lit (.bool false)], args := [d1, d2] }
  | _ => none }
def DictionaryWorthMatchesSpecWrongFalsely : Prop := dictionaryWorthMatchesSpecRow.holds Try.pinned (OpenSpec.ofChange dictionaryWorthMatchesSpecWrong)

/- THE SECOND FORM. 'bulk': how many values and letters a reading holds, each counted each time it is reached (what is shared counts as often as it is met; a slice's spare places count too). A statement '..UptoSaid' is the law's where the arguments, and the package variables that the reading takes, are together of bulk at most 1048576: NARROWER than '..Said'. Prove '..Said' where nothing that the law and all that it calls make is longer than what came in: it says more and counts as full. Else prove '..UptoSaid'. A law counts once. -/
mutual
def uptoBulk {H : Type} : DataW H → Nat
  | .lit (.string bytes) => bytes.length + 1
  | .lit _ => 1
  | .nil => 1
  | .ptr d => uptoBulk d + 1
  | .slice elems spare => uptoBulkAll elems + uptoBulkAll spare + 1
  | .agg parts => uptoBulkAll parts + 1
  | .iface _ d => uptoBulk d + 1
  | .map entries => uptoBulkEntries entries + 1
  | .held _ => 1
def uptoBulkAll {H : Type} : List (DataW H) → Nat
  | [] => 0
  | d :: r => uptoBulk d + uptoBulkAll r
def uptoBulkEntries {H : Type} : List (Lit × DataW H) → Nat
  | [] => 0
  | x :: r => uptoBulkEntry x + uptoBulkEntries r
def uptoBulkEntry {H : Type} : Lit × DataW H → Nat
  | (.string bytes, d) => bytes.length + uptoBulk d + 1
  | (_, d) => uptoBulk d + 1
 end
def uptoSmall : (H : Type) → List (DataW H) → Bool := fun _ ds => decide (uptoBulkAll ds ≤ 1048576)
def OpenSpec.upto (s : _root_.Go.ChangeSpec) : _root_.Go.OpenSpec := { _root_.Go.OpenSpec.ofChange s with cond := some uptoSmall }

/-- 'scriptoriumlaw3.DictionaryTrainMatchesSpec', WHERE WHAT IT READS IS OF BULK AT MOST 1048576: true; the input reads as it did. -/
def dictionaryTrainMatchesSpecUptoRow : OpenClaim := { program := "ytnahmiglogddaaa", sum := "ab01da3da72f62b03679e624f1827cbb30a383913affddc45690fc33eaad9c55", func := "scriptorium/scriptoriumlaw3.DictionaryTrainMatchesSpec", spec := "dictionaryTrainMatchesSpec", inPlace := ["internal/bytealg.IndexByte", "internal/bytealg.Index"], unfollowed := true, recurses := true, named := ["internal/bytealg.MaxLen"], apart := false, narrowed := true }
def DictionaryTrainMatchesSpecUptoSaid : Prop := dictionaryTrainMatchesSpecUptoRow.holds Try.pinned (OpenSpec.upto dictionaryTrainMatchesSpecSpec)

/-- 'scriptoriumlaw3.DictionaryNextMatchesSpec', WHERE WHAT IT READS IS OF BULK AT MOST 1048576: true; the input reads as it did. -/
def dictionaryNextMatchesSpecUptoRow : OpenClaim := { program := "ytnahmiglogddaaa", sum := "ab01da3da72f62b03679e624f1827cbb30a383913affddc45690fc33eaad9c55", func := "scriptorium/scriptoriumlaw3.DictionaryNextMatchesSpec", spec := "dictionaryNextMatchesSpec", inPlace := ["internal/bytealg.IndexByte", "internal/bytealg.Index"], unfollowed := true, recurses := true, named := ["internal/bytealg.MaxLen"], apart := false, narrowed := true }
def DictionaryNextMatchesSpecUptoSaid : Prop := dictionaryNextMatchesSpecUptoRow.holds Try.pinned (OpenSpec.upto dictionaryNextMatchesSpecSpec)

/-- 'scriptoriumlaw3.DictionaryIgnoresOrder', WHERE WHAT IT READS IS OF BULK AT MOST 1048576: true; the input reads as it did. -/
def dictionaryIgnoresOrderUptoRow : OpenClaim := { program := "ytnahmiglogddaaa", sum := "ab01da3da72f62b03679e624f1827cbb30a383913affddc45690fc33eaad9c55", func := "scriptorium/scriptoriumlaw3.DictionaryIgnoresOrder", spec := "dictionaryIgnoresOrder", inPlace := ["internal/bytealg.IndexByte", "internal/bytealg.Index"], unfollowed := true, recurses := true, named := ["internal/bytealg.MaxLen"], apart := false, narrowed := true }
def DictionaryIgnoresOrderUptoSaid : Prop := dictionaryIgnoresOrderUptoRow.holds Try.pinned (OpenSpec.upto dictionaryIgnoresOrderSpec)

/-- 'scriptoriumlaw3.DictionaryIsComplete', WHERE WHAT IT READS IS OF BULK AT MOST 1048576: true; the input reads as it did. -/
def dictionaryIsCompleteUptoRow : OpenClaim := { program := "ytnahmiglogddaaa", sum := "ab01da3da72f62b03679e624f1827cbb30a383913affddc45690fc33eaad9c55", func := "scriptorium/scriptoriumlaw3.DictionaryIsComplete", spec := "dictionaryIsComplete", inPlace := ["internal/bytealg.IndexByte", "internal/bytealg.Index"], unfollowed := true, recurses := true, named := ["internal/bytealg.MaxLen"], apart := false, narrowed := true }
def DictionaryIsCompleteUptoSaid : Prop := dictionaryIsCompleteUptoRow.holds Try.pinned (OpenSpec.upto dictionaryIsCompleteSpec)

/-- 'scriptoriumlaw3.DictionaryWorthMatchesSpec', WHERE WHAT IT READS IS OF BULK AT MOST 1048576: true; the input reads as it did. -/
def dictionaryWorthMatchesSpecUptoRow : OpenClaim := { program := "ytnahmiglogddaaa", sum := "ab01da3da72f62b03679e624f1827cbb30a383913affddc45690fc33eaad9c55", func := "scriptorium/scriptoriumlaw3.DictionaryWorthMatchesSpec", spec := "dictionaryWorthMatchesSpec", inPlace := ["internal/bytealg.IndexByte", "internal/bytealg.Index"], unfollowed := true, recurses := true, named := ["internal/bytealg.MaxLen"], apart := false, narrowed := true }
def DictionaryWorthMatchesSpecUptoSaid : Prop := dictionaryWorthMatchesSpecUptoRow.holds Try.pinned (OpenSpec.upto dictionaryWorthMatchesSpecSpec)

end Rows
end Go.Proofs.Ytnahmiglogddaaa
