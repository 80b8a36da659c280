/-
  No cell of these rows narrows 'for every input' (looked for: loops, veiled, ifaces, maps, wideKeys, modest, calm, conditions, laid).
  DERIVED. THE GIVEN ROWS OF THIS SEAT. 8 by the template 'for every input the law returns true; each argument reads behind the call as it read before'; 0 by the template 'total and deterministic' (their statements: YtlhglomhfbbinaaTotals.lean).
  GIVEN WITH THE SEED: the statements are not yours to turn. If you find one false, say at which input.
  Laid BY PROGRAM, IN A SANDBOX (cutbox-rows.mjs): the forced cells as the released guide's own fill.sh prints them over the translation c684b3a90bd1a03c… (all of the seat's roots in one cut). By AI agents, Wed Nov 11 2026. No macro, syntax, notation, axiom, sorry.
-/
import Derived.Test.YtlhglomhfbbinaaChecked
import GoSem.Claim
import GoSem.ClaimJoined
import GoSem.ClaimMapViews
import Derived.JoinedTies
import Derived.KernelRfl
namespace Go.Proofs.Ytlhglomhfbbinaa
/- THE CELL 'sum', in the pinned program and in every row, IS THE sha256 OF THE DUMP (.gsa) THAT YtlhglomhfbbinaaProg.lean LOADS. Nothing in Lean hashes anything: it is a label: what it is worth is what the hold of that sum in a sandbox is worth. -/
noncomputable def Try.pinned : Pinned := { name := "ytlhglomhfbbinaa", sum := "c684b3a90bd1a03c3edc30307450770d2c3b19c8d7380048ec6986ab248bd8a5", checked := Try.checked }
namespace Rows
def none {H : Type} : Left H := { results := [], args := [] }

/-- 'scriptoriumlaw3.LzParseMatchesSpec': WHATEVER THE INPUT: true; the input reads as it did. -/
def lzParseMatchesSpecSpec : ChangeSpec := { name := "lzParseMatchesSpec", fn := fun _ => fun
  | [d1, d2] => { results := [.lit (.bool true)], args := [d1, d2] }
  | _ => none }
def lzParseMatchesSpecRow : OpenClaim := { program := "ytlhglomhfbbinaa", sum := "c684b3a90bd1a03c3edc30307450770d2c3b19c8d7380048ec6986ab248bd8a5", func := "scriptorium/scriptoriumlaw3.LzParseMatchesSpec", spec := "lzParseMatchesSpec", apart := false }
def LzParseMatchesSpecSaid : Prop := lzParseMatchesSpecRow.holds Try.pinned (OpenSpec.ofChange lzParseMatchesSpecSpec)

/-- ITS FALSE NEIGHBOUR: 'it returns false'. Refute it at one input. -/
def lzParseMatchesSpecWrong : ChangeSpec := { name := "lzParseMatchesSpec", fn := fun _ => fun
  | [d1, d2] => { results := [.lit (.bool false)], args := [d1, d2] }
  | _ => none }
def LzParseMatchesSpecWrongFalsely : Prop := lzParseMatchesSpecRow.holds Try.pinned (OpenSpec.ofChange lzParseMatchesSpecWrong)

/-- 'scriptoriumlaw3.LzExpandMatchesSpec': WHATEVER THE INPUT: true; the input reads as it did. -/
def lzExpandMatchesSpecSpec : ChangeSpec := { name := "lzExpandMatchesSpec", fn := fun _ => fun
  | [d1, d2] => { results := [.lit (.bool true)], args := [d1, d2] }
  | _ => none }
def lzExpandMatchesSpecRow : OpenClaim := { program := "ytlhglomhfbbinaa", sum := "c684b3a90bd1a03c3edc30307450770d2c3b19c8d7380048ec6986ab248bd8a5", func := "scriptorium/scriptoriumlaw3.LzExpandMatchesSpec", spec := "lzExpandMatchesSpec", apart := false }
def LzExpandMatchesSpecSaid : Prop := lzExpandMatchesSpecRow.holds Try.pinned (OpenSpec.ofChange lzExpandMatchesSpecSpec)

/-- ITS FALSE NEIGHBOUR: 'it returns false'. Refute it at one input. -/
def lzExpandMatchesSpecWrong : ChangeSpec := { name := "lzExpandMatchesSpec", fn := fun _ => fun
  | [d1, d2] => { results := [.lit (.bool false)], args := [d1, d2] }
  | _ => none }
def LzExpandMatchesSpecWrongFalsely : Prop := lzExpandMatchesSpecRow.holds Try.pinned (OpenSpec.ofChange lzExpandMatchesSpecWrong)

/-- 'scriptoriumlaw3.LzRoundTrips': WHATEVER THE INPUT: true; the input reads as it did. -/
def lzRoundTripsSpec : ChangeSpec := { name := "lzRoundTrips", fn := fun _ => fun
  | [d1, d2] => { results := [.lit (.bool true)], args := [d1, d2] }
  | _ => none }
def lzRoundTripsRow : OpenClaim := { program := "ytlhglomhfbbinaa", sum := "c684b3a90bd1a03c3edc30307450770d2c3b19c8d7380048ec6986ab248bd8a5", func := "scriptorium/scriptoriumlaw3.LzRoundTrips", spec := "lzRoundTrips", apart := false }
def LzRoundTripsSaid : Prop := lzRoundTripsRow.holds Try.pinned (OpenSpec.ofChange lzRoundTripsSpec)

/-- ITS FALSE NEIGHBOUR: 'it returns false'. Refute it at one input. -/
def lzRoundTripsWrong : ChangeSpec := { name := "lzRoundTrips", fn := fun _ => fun
  | [d1, d2] => { results := [.lit (.bool false)], args := [d1, d2] }
  | _ => none }
def LzRoundTripsWrongFalsely : Prop := lzRoundTripsRow.holds Try.pinned (OpenSpec.ofChange lzRoundTripsWrong)

/-- 'scriptoriumlaw3.LzNoTokensCostLess': WHATEVER THE INPUT: true; the input reads as it did. -/
def lzNoTokensCostLessSpec : ChangeSpec := { name := "lzNoTokensCostLess", fn := fun _ => fun
  | [d1, d2] => { results := [.lit (.bool true)], args := [d1, d2] }
  | _ => none }
def lzNoTokensCostLessRow : OpenClaim := { program := "ytlhglomhfbbinaa", sum := "c684b3a90bd1a03c3edc30307450770d2c3b19c8d7380048ec6986ab248bd8a5", func := "scriptorium/scriptoriumlaw3.LzNoTokensCostLess", spec := "lzNoTokensCostLess", apart := false }
def LzNoTokensCostLessSaid : Prop := lzNoTokensCostLessRow.holds Try.pinned (OpenSpec.ofChange lzNoTokensCostLessSpec)

/-- ITS FALSE NEIGHBOUR: 'it returns false'. Refute it at one input. -/
def lzNoTokensCostLessWrong : ChangeSpec := { name := "lzNoTokensCostLess", fn := fun _ => fun
  | [d1, d2] => { results := [.lit (.bool false)], args := [d1, d2] }
  | _ => none }
def LzNoTokensCostLessWrongFalsely : Prop := lzNoTokensCostLessRow.holds Try.pinned (OpenSpec.ofChange lzNoTokensCostLessWrong)

/-- 'scriptoriumlaw3.LzMoreDictionaryCostsNoMore': WHATEVER THE INPUT: true; the input reads as it did. -/
def lzMoreDictionaryCostsNoMoreSpec : ChangeSpec := { name := "lzMoreDictionaryCostsNoMore", fn := fun _ => fun
  | [d1, d2, d3] => { results := [.lit (.bool true)], args := [d1, d2, d3] }
  | _ => none }
def lzMoreDictionaryCostsNoMoreRow : OpenClaim := { program := "ytlhglomhfbbinaa", sum := "c684b3a90bd1a03c3edc30307450770d2c3b19c8d7380048ec6986ab248bd8a5", func := "scriptorium/scriptoriumlaw3.LzMoreDictionaryCostsNoMore", spec := "lzMoreDictionaryCostsNoMore", apart := false }
def LzMoreDictionaryCostsNoMoreSaid : Prop := lzMoreDictionaryCostsNoMoreRow.holds Try.pinned (OpenSpec.ofChange lzMoreDictionaryCostsNoMoreSpec)

/-- ITS FALSE NEIGHBOUR: 'it returns false'. Refute it at one input. -/
def lzMoreDictionaryCostsNoMoreWrong : ChangeSpec := { name := "lzMoreDictionaryCostsNoMore", fn := fun _ => fun
  | [d1, d2, d3] => { results := [.lit (.bool false)], args := [d1, d2, d3] }
  | _ => none }
def LzMoreDictionaryCostsNoMoreWrongFalsely : Prop := lzMoreDictionaryCostsNoMoreRow.holds Try.pinned (OpenSpec.ofChange lzMoreDictionaryCostsNoMoreWrong)

/-- 'scriptoriumlaw3.LzCodesMatchSpec': WHATEVER THE INPUT: true; the input reads as it did. -/
def lzCodesMatchSpecSpec : ChangeSpec := { name := "lzCodesMatchSpec", fn := fun _ => fun
  | [d] => { results := [.lit (.bool true)], args := [d] }
  | _ => none }
def lzCodesMatchSpecRow : OpenClaim := { program := "ytlhglomhfbbinaa", sum := "c684b3a90bd1a03c3edc30307450770d2c3b19c8d7380048ec6986ab248bd8a5", func := "scriptorium/scriptoriumlaw3.LzCodesMatchSpec", spec := "lzCodesMatchSpec", apart := false }
def LzCodesMatchSpecSaid : Prop := lzCodesMatchSpecRow.holds Try.pinned (OpenSpec.ofChange lzCodesMatchSpecSpec)

/-- ITS FALSE NEIGHBOUR: 'it returns false'. Refute it at one input. -/
def lzCodesMatchSpecWrong : ChangeSpec := { name := "lzCodesMatchSpec", fn := fun _ => fun
  | [d] => { results := [.lit (.bool false)], args := [d] }
  | _ => none }
def LzCodesMatchSpecWrongFalsely : Prop := lzCodesMatchSpecRow.holds Try.pinned (OpenSpec.ofChange lzCodesMatchSpecWrong)

/-- 'scriptoriumlaw3.LzDecodeMatchesSpec': WHATEVER THE INPUT: true; the input reads as it did. -/
def lzDecodeMatchesSpecSpec : ChangeSpec := { name := "lzDecodeMatchesSpec", fn := fun _ => fun
  | [d1, d2] => { results := [.lit (.bool true)], args := [d1, d2] }
  | _ => none }
def lzDecodeMatchesSpecRow : OpenClaim := { program := "ytlhglomhfbbinaa", sum := "c684b3a90bd1a03c3edc30307450770d2c3b19c8d7380048ec6986ab248bd8a5", func := "scriptorium/scriptoriumlaw3.LzDecodeMatchesSpec", spec := "lzDecodeMatchesSpec", apart := false }
def LzDecodeMatchesSpecSaid : Prop := lzDecodeMatchesSpecRow.holds Try.pinned (OpenSpec.ofChange lzDecodeMatchesSpecSpec)

/-- ITS FALSE NEIGHBOUR: 'it returns false'. Refute it at one input. -/
def lzDecodeMatchesSpecWrong : ChangeSpec := { name := "lzDecodeMatchesSpec", fn := fun _ => fun
  | [d1, d2] => { results := [.lit (.bool false)], args := [d1, d2] }
  | _ => none }
def LzDecodeMatchesSpecWrongFalsely : Prop := lzDecodeMatchesSpecRow.holds Try.pinned (OpenSpec.ofChange lzDecodeMatchesSpecWrong)

/-- 'scriptoriumlaw3.LzDecodesItsCodes': WHATEVER THE INPUT: true; the input reads as it did. -/
def lzDecodesItsCodesSpec : ChangeSpec := { name := "lzDecodesItsCodes", fn := fun _ => fun
  | [d1, d2, d3] => { results := [.lit (.bool true)], args := [d1, d2, d3] }
  | _ => none }
def lzDecodesItsCodesRow : OpenClaim := { program := "ytlhglomhfbbinaa", sum := "c684b3a90bd1a03c3edc30307450770d2c3b19c8d7380048ec6986ab248bd8a5", func := "scriptorium/scriptoriumlaw3.LzDecodesItsCodes", spec := "lzDecodesItsCodes", apart := false }
def LzDecodesItsCodesSaid : Prop := lzDecodesItsCodesRow.holds Try.pinned (OpenSpec.ofChange lzDecodesItsCodesSpec)

/-- ITS FALSE NEIGHBOUR: 'it returns false'. Refute it at one input. -/
def lzDecodesItsCodesWrong : ChangeSpec := { name := "lzDecodesItsCodes", fn := fun _ => fun
  | [d1, d2, d3] => { results := [.lit (.bool false)], args := [d1, d2, d3] }
  | _ => none }
def LzDecodesItsCodesWrongFalsely : Prop := lzDecodesItsCodesRow.holds Try.pinned (OpenSpec.ofChange lzDecodesItsCodesWrong)

/- THE SECOND FORM. 'bulk': how many values and letters a reading holds, each counted each time it is reached (what is shared counts as often as it is met; a slice's spare places count too). A statement '..UptoSaid' is the law's where the arguments, and the package variables that the reading takes, are together of bulk at most 1048576: NARROWER than '..Said'. Prove '..Said' where nothing that the law and all that it calls make is longer than what came in: it says more and counts as full. Else prove '..UptoSaid'. A law counts once. -/
mutual
def uptoBulk {H : Type} : DataW H → Nat
  | .lit (.string bytes) => bytes.length + 1
  | .lit _ => 1
  | .nil => 1
  | .ptr d => uptoBulk d + 1
  | .slice elems spare => uptoBulkAll elems + uptoBulkAll spare + 1
  | .agg parts => uptoBulkAll parts + 1
  | .iface _ d => uptoBulk d + 1
  | .map entries => uptoBulkEntries entries + 1
  | .held _ => 1
def uptoBulkAll {H : Type} : List (DataW H) → Nat
  | [] => 0
  | d :: r => uptoBulk d + uptoBulkAll r
def uptoBulkEntries {H : Type} : List (Lit × DataW H) → Nat
  | [] => 0
  | x :: r => uptoBulkEntry x + uptoBulkEntries r
def uptoBulkEntry {H : Type} : Lit × DataW H → Nat
  | (.string bytes, d) => bytes.length + uptoBulk d + 1
  | (_, d) => uptoBulk d + 1
 end
def uptoSmall : (H : Type) → List (DataW H) → Bool := fun _ ds => decide (uptoBulkAll ds ≤ 1048576)
def OpenSpec.upto (s : _root_.Go.ChangeSpec) : _root_.Go.OpenSpec := { _root_.Go.OpenSpec.ofChange s with cond := some uptoSmall }

/-- 'scriptoriumlaw3.LzParseMatchesSpec', WHERE WHAT IT READS IS OF BULK AT MOST 1048576: true; the input reads as it did. -/
def lzParseMatchesSpecUptoRow : OpenClaim := { program := "ytlhglomhfbbinaa", sum := "c684b3a90bd1a03c3edc30307450770d2c3b19c8d7380048ec6986ab248bd8a5", func := "scriptorium/scriptoriumlaw3.LzParseMatchesSpec", spec := "lzParseMatchesSpec", apart := false, narrowed := true }
def LzParseMatchesSpecUptoSaid : Prop := lzParseMatchesSpecUptoRow.holds Try.pinned (OpenSpec.upto lzParseMatchesSpecSpec)

/-- 'scriptoriumlaw3.LzExpandMatchesSpec', WHERE WHAT IT READS IS OF BULK AT MOST 1048576: true; the input reads as it did. -/
def lzExpandMatchesSpecUptoRow : OpenClaim := { program := "ytlhglomhfbbinaa", sum := "c684b3a90bd1a03c3edc30307450770d2c3b19c8d7380048ec6986ab248bd8a5", func := "scriptorium/scriptoriumlaw3.LzExpandMatchesSpec", spec := "lzExpandMatchesSpec", apart := false, narrowed := true }
def LzExpandMatchesSpecUptoSaid : Prop := lzExpandMatchesSpecUptoRow.holds Try.pinned (OpenSpec.upto lzExpandMatchesSpecSpec)

/-- 'scriptoriumlaw3.LzRoundTrips', WHERE WHAT IT READS IS OF BULK AT MOST 1048576: true; the input reads as it did. -/
def lzRoundTripsUptoRow : OpenClaim := { program := "ytlhglomhfbbinaa", sum := "c684b3a90bd1a03c3edc30307450770d2c3b19c8d7380048ec6986ab248bd8a5", func := "scriptorium/scriptoriumlaw3.LzRoundTrips", spec := "lzRoundTrips", apart := false, narrowed := true }
def LzRoundTripsUptoSaid : Prop := lzRoundTripsUptoRow.holds Try.pinned (OpenSpec.upto lzRoundTripsSpec)

/-- 'scriptoriumlaw3.LzNoTokensCostLess', WHERE WHAT IT READS IS OF BULK AT MOST 1048576: true; the input reads as it did. -/
def lzNoTokensCostLessUptoRow : OpenClaim := { program := "ytlhglomhfbbinaa", sum := "c684b3a90bd1a03c3edc30307450770d2c3b19c8d7380048ec6986ab248bd8a5", func := "scriptorium/scriptoriumlaw3.LzNoTokensCostLess", spec := "lzNoTokensCostLess", apart := false, narrowed := true }
def LzNoTokensCostLessUptoSaid : Prop := lzNoTokensCostLessUptoRow.holds Try.pinned (OpenSpec.upto lzNoTokensCostLessSpec)

/-- 'scriptoriumlaw3.LzMoreDictionaryCostsNoMore', WHERE WHAT IT READS IS OF BULK AT MOST 1048576: true; the input reads as it did. -/
def lzMoreDictionaryCostsNoMoreUptoRow : OpenClaim := { program := "ytlhglomhfbbinaa", sum := "c684b3a90bd1a03c3edc30307450770d2c3b19c8d7380048ec6986ab248bd8a5", func := "scriptorium/scriptoriumlaw3.LzMoreDictionaryCostsNoMore", spec := "lzMoreDictionaryCostsNoMore", apart := false, narrowed := true }
def LzMoreDictionaryCostsNoMoreUptoSaid : Prop := lzMoreDictionaryCostsNoMoreUptoRow.holds Try.pinned (OpenSpec.upto lzMoreDictionaryCostsNoMoreSpec)

/-- 'scriptoriumlaw3.LzCodesMatchSpec', WHERE WHAT IT READS IS OF BULK AT MOST 1048576: true; the input reads as it did. -/
def lzCodesMatchSpecUptoRow : OpenClaim := { program := "ytlhglomhfbbinaa", sum := "c684b3a90bd1a03c3edc30307450770d2c3b19c8d7380048ec6986ab248bd8a5", func := "scriptorium/scriptoriumlaw3.LzCodesMatchSpec", spec := "lzCodesMatchSpec", apart := false, narrowed := true }
def LzCodesMatchSpecUptoSaid : Prop := lzCodesMatchSpecUptoRow.holds Try.pinned (OpenSpec.upto lzCodesMatchSpecSpec)

/-- 'scriptoriumlaw3.LzDecodeMatchesSpec', WHERE WHAT IT READS IS OF BULK AT MOST 1048576: true; the input reads as it did. -/
def lzDecodeMatchesSpecUptoRow : OpenClaim := { program := "ytlhglomhfbbinaa", sum := "c684b3a90bd1a03c3edc30307450770d2c3b19c8d7380048ec6986ab248bd8a5", func := "scriptorium/scriptoriumlaw3.LzDecodeMatchesSpec", spec := "lzDecodeMatchesSpec", apart := false, narrowed := true }
def LzDecodeMatchesSpecUptoSaid : Prop := lzDecodeMatchesSpecUptoRow.holds Try.pinned (OpenSpec.upto lzDecodeMatchesSpecSpec)

/-- 'scriptoriumlaw3.LzDecodesItsCodes', WHERE WHAT IT READS IS OF BULK AT MOST 1048576: true; the input reads as it did. -/
def lzDecodesItsCodesUptoRow : OpenClaim := { program := "ytlhglomhfbbinaa", sum := "c684b3a90bd1a03c3edc30307450770d2c3b19c8d7380048ec6986ab248bd8a5", func := "scriptorium/scriptoriumlaw3.LzDecodesItsCodes", spec := "lzDecodesItsCodes", apart := false, narrowed := true }
def LzDecodesItsCodesUptoSaid : Prop := lzDecodesItsCodesUptoRow.holds Try.pinned (OpenSpec.upto lzDecodesItsCodesSpec)

end Rows
end Go.Proofs.Ytlhglomhfbbinaa
