/-
  No cell of these rows narrows 'for every input' (looked for: loops, veiled, ifaces, maps, wideKeys, modest, calm, conditions, laid).
  DERIVED. THE GIVEN ROWS OF THIS SEAT. 8 by the template 'for every input the law returns true; each argument reads behind the call as it read before'; 0 by the template 'total and deterministic' (their statements: YtnnpkajmheglgaaTotals.lean).
  GIVEN WITH THE SEED: the statements are not yours to turn. If you find one false, say at which input.
  Laid BY PROGRAM, IN A SANDBOX (cutbox-rows.mjs): the forced cells as the released guide's own fill.sh prints them over the translation 32265851b6edab35… (all of the seat's roots in one cut). By AI agents, Wed Nov 11 2026. No macro, syntax, notation, axiom, sorry.
-/
import Derived.Test.YtnnpkajmheglgaaChecked
import GoSem.Claim
import GoSem.ClaimJoined
import GoSem.ClaimMapViews
import Derived.JoinedTies
import Derived.KernelRfl
namespace Go.Proofs.Ytnnpkajmheglgaa
/- THE CELL 'sum', in the pinned program and in every row, IS THE sha256 OF THE DUMP (.gsa) THAT YtnnpkajmheglgaaProg.lean LOADS. Nothing in Lean hashes anything: it is a label: what it is worth is what the hold of that sum in a sandbox is worth. -/
noncomputable def Try.pinned : Pinned := { name := "ytnnpkajmheglgaa", sum := "32265851b6edab35361295c4b0aa92ffed888df60db8391f84a478f44d4e1deb", checked := Try.checked }
namespace Rows
def none {H : Type} : Left H := { results := [], args := [] }

/-- 'scriptoriumlaw3.ArithEncodeMatchesSpec': WHATEVER THE INPUT: true; the input reads as it did. -/
def arithEncodeMatchesSpecSpec : ChangeSpec := { name := "arithEncodeMatchesSpec", fn := fun _ => fun
  | [d] => { results := [.lit (.bool true)], args := [d] }
  | _ => none }
def arithEncodeMatchesSpecRow : OpenClaim := { program := "ytnnpkajmheglgaa", sum := "32265851b6edab35361295c4b0aa92ffed888df60db8391f84a478f44d4e1deb", func := "scriptorium/scriptoriumlaw3.ArithEncodeMatchesSpec", spec := "arithEncodeMatchesSpec", inPlace := ["internal/abi.NoEscape", "internal/bytealg.MakeNoZero"], apart := false }
def ArithEncodeMatchesSpecSaid : Prop := arithEncodeMatchesSpecRow.holds Try.pinned (OpenSpec.ofChange arithEncodeMatchesSpecSpec)

/-- ITS FALSE NEIGHBOUR: 'it returns false'. Refute it at one input. -/
def arithEncodeMatchesSpecWrong : ChangeSpec := { name := "arithEncodeMatchesSpec", fn := fun _ => fun
  | [d] => { results := [.lit (.bool false)], args := [d] }
  | _ => none }
def ArithEncodeMatchesSpecWrongFalsely : Prop := arithEncodeMatchesSpecRow.holds Try.pinned (OpenSpec.ofChange arithEncodeMatchesSpecWrong)

/-- 'scriptoriumlaw3.ArithDecodeMatchesSpec': WHATEVER THE INPUT: true; the input reads as it did. -/
def arithDecodeMatchesSpecSpec : ChangeSpec := { name := "arithDecodeMatchesSpec", fn := fun _ => fun
  | [d1, d2] => { results := [.lit (.bool true)], args := [d1, d2] }
  | _ => none }
def arithDecodeMatchesSpecRow : OpenClaim := { program := "ytnnpkajmheglgaa", sum := "32265851b6edab35361295c4b0aa92ffed888df60db8391f84a478f44d4e1deb", func := "scriptorium/scriptoriumlaw3.ArithDecodeMatchesSpec", spec := "arithDecodeMatchesSpec", inPlace := ["internal/abi.NoEscape", "internal/bytealg.MakeNoZero"], apart := false }
def ArithDecodeMatchesSpecSaid : Prop := arithDecodeMatchesSpecRow.holds Try.pinned (OpenSpec.ofChange arithDecodeMatchesSpecSpec)

/-- ITS FALSE NEIGHBOUR: 'it returns false'. Refute it at one input. -/
def arithDecodeMatchesSpecWrong : ChangeSpec := { name := "arithDecodeMatchesSpec", fn := fun _ => fun
  | [d1, d2] => { results := [.lit (.bool false)], args := [d1, d2] }
  | _ => none }
def ArithDecodeMatchesSpecWrongFalsely : Prop := arithDecodeMatchesSpecRow.holds Try.pinned (OpenSpec.ofChange arithDecodeMatchesSpecWrong)

/-- 'scriptoriumlaw3.ArithRoundTrips': WHATEVER THE INPUT: true; the input reads as it did. -/
def arithRoundTripsSpec : ChangeSpec := { name := "arithRoundTrips", fn := fun _ => fun
  | [d] => { results := [.lit (.bool true)], args := [d] }
  | _ => none }
def arithRoundTripsRow : OpenClaim := { program := "ytnnpkajmheglgaa", sum := "32265851b6edab35361295c4b0aa92ffed888df60db8391f84a478f44d4e1deb", func := "scriptorium/scriptoriumlaw3.ArithRoundTrips", spec := "arithRoundTrips", inPlace := ["internal/abi.NoEscape", "internal/bytealg.MakeNoZero"], apart := false }
def ArithRoundTripsSaid : Prop := arithRoundTripsRow.holds Try.pinned (OpenSpec.ofChange arithRoundTripsSpec)

/-- ITS FALSE NEIGHBOUR: 'it returns false'. Refute it at one input. -/
def arithRoundTripsWrong : ChangeSpec := { name := "arithRoundTrips", fn := fun _ => fun
  | [d] => { results := [.lit (.bool false)], args := [d] }
  | _ => none }
def ArithRoundTripsWrongFalsely : Prop := arithRoundTripsRow.holds Try.pinned (OpenSpec.ofChange arithRoundTripsWrong)

/-- 'scriptoriumlaw3.ArithKeepsProportions': WHATEVER THE INPUT: true; the input reads as it did. -/
def arithKeepsProportionsSpec : ChangeSpec := { name := "arithKeepsProportions", fn := fun _ => fun
  | [d1, d2, d3] => { results := [.lit (.bool true)], args := [d1, d2, d3] }
  | _ => none }
def arithKeepsProportionsRow : OpenClaim := { program := "ytnnpkajmheglgaa", sum := "32265851b6edab35361295c4b0aa92ffed888df60db8391f84a478f44d4e1deb", func := "scriptorium/scriptoriumlaw3.ArithKeepsProportions", spec := "arithKeepsProportions", inPlace := ["internal/abi.NoEscape", "internal/bytealg.MakeNoZero"], apart := false }
def ArithKeepsProportionsSaid : Prop := arithKeepsProportionsRow.holds Try.pinned (OpenSpec.ofChange arithKeepsProportionsSpec)

/-- ITS FALSE NEIGHBOUR: 'it returns false'. Refute it at one input. -/
def arithKeepsProportionsWrong : ChangeSpec := { name := "arithKeepsProportions", fn := fun _ => fun
  | [d1, d2, d3] => { results := [.lit (.bool false)], args := [d1, d2, d3] }
  | _ => none }
def ArithKeepsProportionsWrongFalsely : Prop := arithKeepsProportionsRow.holds Try.pinned (OpenSpec.ofChange arithKeepsProportionsWrong)

/-- 'scriptoriumlaw3.ArithLikelyBitsAreShort': WHATEVER THE INPUT: true; the input reads as it did. -/
def arithLikelyBitsAreShortSpec : ChangeSpec := { name := "arithLikelyBitsAreShort", fn := fun _ => fun
  | [d] => { results := [.lit (.bool true)], args := [d] }
  | _ => none }
def arithLikelyBitsAreShortRow : OpenClaim := { program := "ytnnpkajmheglgaa", sum := "32265851b6edab35361295c4b0aa92ffed888df60db8391f84a478f44d4e1deb", func := "scriptorium/scriptoriumlaw3.ArithLikelyBitsAreShort", spec := "arithLikelyBitsAreShort", inPlace := ["internal/abi.NoEscape", "internal/bytealg.MakeNoZero"], apart := false }
def ArithLikelyBitsAreShortSaid : Prop := arithLikelyBitsAreShortRow.holds Try.pinned (OpenSpec.ofChange arithLikelyBitsAreShortSpec)

/-- ITS FALSE NEIGHBOUR: 'it returns false'. Refute it at one input. -/
def arithLikelyBitsAreShortWrong : ChangeSpec := { name := "arithLikelyBitsAreShort", fn := fun _ => fun
  | [d] => { results := [.lit (.bool false)], args := [d] }
  | _ => none }
def ArithLikelyBitsAreShortWrongFalsely : Prop := arithLikelyBitsAreShortRow.holds Try.pinned (OpenSpec.ofChange arithLikelyBitsAreShortWrong)

/-- 'scriptoriumlaw3.ArithPutMatchesSpec': WHATEVER THE INPUT: true; the input reads as it did. -/
def arithPutMatchesSpecSpec : ChangeSpec := { name := "arithPutMatchesSpec", fn := fun _ => fun
  | [d1, d2, d3] => { results := [.lit (.bool true)], args := [d1, d2, d3] }
  | _ => none }
def arithPutMatchesSpecRow : OpenClaim := { program := "ytnnpkajmheglgaa", sum := "32265851b6edab35361295c4b0aa92ffed888df60db8391f84a478f44d4e1deb", func := "scriptorium/scriptoriumlaw3.ArithPutMatchesSpec", spec := "arithPutMatchesSpec", inPlace := ["internal/abi.NoEscape", "internal/bytealg.MakeNoZero"], apart := false }
def ArithPutMatchesSpecSaid : Prop := arithPutMatchesSpecRow.holds Try.pinned (OpenSpec.ofChange arithPutMatchesSpecSpec)

/-- ITS FALSE NEIGHBOUR: 'it returns false'. Refute it at one input. -/
def arithPutMatchesSpecWrong : ChangeSpec := { name := "arithPutMatchesSpec", fn := fun _ => fun
  | [d1, d2, d3] => { results := [.lit (.bool false)], args := [d1, d2, d3] }
  | _ => none }
def ArithPutMatchesSpecWrongFalsely : Prop := arithPutMatchesSpecRow.holds Try.pinned (OpenSpec.ofChange arithPutMatchesSpecWrong)

/-- 'scriptoriumlaw3.ArithGetMatchesSpec': WHATEVER THE INPUT: true; the input reads as it did. -/
def arithGetMatchesSpecSpec : ChangeSpec := { name := "arithGetMatchesSpec", fn := fun _ => fun
  | [d1, d2, d3] => { results := [.lit (.bool true)], args := [d1, d2, d3] }
  | _ => none }
def arithGetMatchesSpecRow : OpenClaim := { program := "ytnnpkajmheglgaa", sum := "32265851b6edab35361295c4b0aa92ffed888df60db8391f84a478f44d4e1deb", func := "scriptorium/scriptoriumlaw3.ArithGetMatchesSpec", spec := "arithGetMatchesSpec", inPlace := ["internal/abi.NoEscape", "internal/bytealg.MakeNoZero"], apart := false }
def ArithGetMatchesSpecSaid : Prop := arithGetMatchesSpecRow.holds Try.pinned (OpenSpec.ofChange arithGetMatchesSpecSpec)

/-- ITS FALSE NEIGHBOUR: 'it returns false'. Refute it at one input. -/
def arithGetMatchesSpecWrong : ChangeSpec := { name := "arithGetMatchesSpec", fn := fun _ => fun
  | [d1, d2, d3] => { results := [.lit (.bool false)], args := [d1, d2, d3] }
  | _ => none }
def ArithGetMatchesSpecWrongFalsely : Prop := arithGetMatchesSpecRow.holds Try.pinned (OpenSpec.ofChange arithGetMatchesSpecWrong)

/-- 'scriptoriumlaw3.ArithStepsMakeTheCode': WHATEVER THE INPUT: true; the input reads as it did. -/
def arithStepsMakeTheCodeSpec : ChangeSpec := { name := "arithStepsMakeTheCode", fn := fun _ => fun
  | [d] => { results := [.lit (.bool true)], args := [d] }
  | _ => none }
def arithStepsMakeTheCodeRow : OpenClaim := { program := "ytnnpkajmheglgaa", sum := "32265851b6edab35361295c4b0aa92ffed888df60db8391f84a478f44d4e1deb", func := "scriptorium/scriptoriumlaw3.ArithStepsMakeTheCode", spec := "arithStepsMakeTheCode", inPlace := ["internal/abi.NoEscape", "internal/bytealg.MakeNoZero"], apart := false }
def ArithStepsMakeTheCodeSaid : Prop := arithStepsMakeTheCodeRow.holds Try.pinned (OpenSpec.ofChange arithStepsMakeTheCodeSpec)

/-- ITS FALSE NEIGHBOUR: 'it returns false'. Refute it at one input. -/
def arithStepsMakeTheCodeWrong : ChangeSpec := { name := "arithStepsMakeTheCode", fn := fun _ => fun
  | [d] => { results := [.lit (.bool false)], args := [d] }
  | _ => none }
def ArithStepsMakeTheCodeWrongFalsely : Prop := arithStepsMakeTheCodeRow.holds Try.pinned (OpenSpec.ofChange arithStepsMakeTheCodeWrong)

/- THE SECOND FORM. 'bulk': how many values and letters a reading holds, each counted each time it is reached (what is shared counts as often as it is met; a slice's spare places count too). A statement '..UptoSaid' is the law's where the arguments, and the package variables that the reading takes, are together of bulk at most 1048576: NARROWER than '..Said'. Prove '..Said' where nothing that the law and all that it calls make is longer than what came in: it says more and counts as full. Else prove '..UptoSaid'. A law counts once. -/
mutual
def uptoBulk {H : Type} : DataW H → Nat
  | .lit (.string bytes) => bytes.length + 1
  | .lit _ => 1
  | .nil => 1
  | .ptr d => uptoBulk d + 1
  | .slice elems spare => uptoBulkAll elems + uptoBulkAll spare + 1
  | .agg parts => uptoBulkAll parts + 1
  | .iface _ d => uptoBulk d + 1
  | .map entries => uptoBulkEntries entries + 1
  | .held _ => 1
def uptoBulkAll {H : Type} : List (DataW H) → Nat
  | [] => 0
  | d :: r => uptoBulk d + uptoBulkAll r
def uptoBulkEntries {H : Type} : List (Lit × DataW H) → Nat
  | [] => 0
  | x :: r => uptoBulkEntry x + uptoBulkEntries r
def uptoBulkEntry {H : Type} : Lit × DataW H → Nat
  | (.string bytes, d) => bytes.length + uptoBulk d + 1
  | (_, d) => uptoBulk d + 1
 end
def uptoSmall : (H : Type) → List (DataW H) → Bool := fun _ ds => decide (uptoBulkAll ds ≤ 1048576)
def OpenSpec.upto (s : _root_.Go.ChangeSpec) : _root_.Go.OpenSpec := { _root_.Go.OpenSpec.ofChange s with cond := some uptoSmall }

/-- 'scriptoriumlaw3.ArithEncodeMatchesSpec', WHERE WHAT IT READS IS OF BULK AT MOST 1048576: true; the input reads as it did. -/
def arithEncodeMatchesSpecUptoRow : OpenClaim := { program := "ytnnpkajmheglgaa", sum := "32265851b6edab35361295c4b0aa92ffed888df60db8391f84a478f44d4e1deb", func := "scriptorium/scriptoriumlaw3.ArithEncodeMatchesSpec", spec := "arithEncodeMatchesSpec", inPlace := ["internal/abi.NoEscape", "internal/bytealg.MakeNoZero"], apart := false, narrowed := true }
def ArithEncodeMatchesSpecUptoSaid : Prop := arithEncodeMatchesSpecUptoRow.holds Try.pinned (OpenSpec.upto arithEncodeMatchesSpecSpec)

/-- 'scriptoriumlaw3.ArithDecodeMatchesSpec', WHERE WHAT IT READS IS OF BULK AT MOST 1048576: true; the input reads as it did. -/
def arithDecodeMatchesSpecUptoRow : OpenClaim := { program := "ytnnpkajmheglgaa", sum := "32265851b6edab35361295c4b0aa92ffed888df60db8391f84a478f44d4e1deb", func := "scriptorium/scriptoriumlaw3.ArithDecodeMatchesSpec", spec := "arithDecodeMatchesSpec", inPlace := ["internal/abi.NoEscape", "internal/bytealg.MakeNoZero"], apart := false, narrowed := true }
def ArithDecodeMatchesSpecUptoSaid : Prop := arithDecodeMatchesSpecUptoRow.holds Try.pinned (OpenSpec.upto arithDecodeMatchesSpecSpec)

/-- 'scriptoriumlaw3.ArithRoundTrips', WHERE WHAT IT READS IS OF BULK AT MOST 1048576: true; the input reads as it did. -/
def arithRoundTripsUptoRow : OpenClaim := { program := "ytnnpkajmheglgaa", sum := "32265851b6edab35361295c4b0aa92ffed888df60db8391f84a478f44d4e1deb", func := "scriptorium/scriptoriumlaw3.ArithRoundTrips", spec := "arithRoundTrips", inPlace := ["internal/abi.NoEscape", "internal/bytealg.MakeNoZero"], apart := false, narrowed := true }
def ArithRoundTripsUptoSaid : Prop := arithRoundTripsUptoRow.holds Try.pinned (OpenSpec.upto arithRoundTripsSpec)

/-- 'scriptoriumlaw3.ArithKeepsProportions', WHERE WHAT IT READS IS OF BULK AT MOST 1048576: true; the input reads as it did. -/
def arithKeepsProportionsUptoRow : OpenClaim := { program := "ytnnpkajmheglgaa", sum := "32265851b6edab35361295c4b0aa92ffed888df60db8391f84a478f44d4e1deb", func := "scriptorium/scriptoriumlaw3.ArithKeepsProportions", spec := "arithKeepsProportions", inPlace := ["internal/abi.NoEscape", "internal/bytealg.MakeNoZero"], apart := false, narrowed := true }
def ArithKeepsProportionsUptoSaid : Prop := arithKeepsProportionsUptoRow.holds Try.pinned (OpenSpec.upto arithKeepsProportionsSpec)

/-- 'scriptoriumlaw3.ArithLikelyBitsAreShort', WHERE WHAT IT READS IS OF BULK AT MOST 1048576: true; the input reads as it did. -/
def arithLikelyBitsAreShortUptoRow : OpenClaim := { program := "ytnnpkajmheglgaa", sum := "32265851b6edab35361295c4b0aa92ffed888df60db8391f84a478f44d4e1deb", func := "scriptorium/scriptoriumlaw3.ArithLikelyBitsAreShort", spec := "arithLikelyBitsAreShort", inPlace := ["internal/abi.NoEscape", "internal/bytealg.MakeNoZero"], apart := false, narrowed := true }
def ArithLikelyBitsAreShortUptoSaid : Prop := arithLikelyBitsAreShortUptoRow.holds Try.pinned (OpenSpec.upto arithLikelyBitsAreShortSpec)

/-- 'scriptoriumlaw3.ArithPutMatchesSpec', WHERE WHAT IT READS IS OF BULK AT MOST 1048576: true; the input reads as it did. -/
def arithPutMatchesSpecUptoRow : OpenClaim := { program := "ytnnpkajmheglgaa", sum := "32265851b6edab35361295c4b0aa92ffed888df60db8391f84a478f44d4e1deb", func := "scriptorium/scriptoriumlaw3.ArithPutMatchesSpec", spec := "arithPutMatchesSpec", inPlace := ["internal/abi.NoEscape", "internal/bytealg.MakeNoZero"], apart := false, narrowed := true }
def ArithPutMatchesSpecUptoSaid : Prop := arithPutMatchesSpecUptoRow.holds Try.pinned (OpenSpec.upto arithPutMatchesSpecSpec)

/-- 'scriptoriumlaw3.ArithGetMatchesSpec', WHERE WHAT IT READS IS OF BULK AT MOST 1048576: true; the input reads as it did. -/
def arithGetMatchesSpecUptoRow : OpenClaim := { program := "ytnnpkajmheglgaa", sum := "32265851b6edab35361295c4b0aa92ffed888df60db8391f84a478f44d4e1deb", func := "scriptorium/scriptoriumlaw3.ArithGetMatchesSpec", spec := "arithGetMatchesSpec", inPlace := ["internal/abi.NoEscape", "internal/bytealg.MakeNoZero"], apart := false, narrowed := true }
def ArithGetMatchesSpecUptoSaid : Prop := arithGetMatchesSpecUptoRow.holds Try.pinned (OpenSpec.upto arithGetMatchesSpecSpec)

/-- 'scriptoriumlaw3.ArithStepsMakeTheCode', WHERE WHAT IT READS IS OF BULK AT MOST 1048576: true; the input reads as it did. -/
def arithStepsMakeTheCodeUptoRow : OpenClaim := { program := "ytnnpkajmheglgaa", sum := "32265851b6edab35361295c4b0aa92ffed888df60db8391f84a478f44d4e1deb", func := "scriptorium/scriptoriumlaw3.ArithStepsMakeTheCode", spec := "arithStepsMakeTheCode", inPlace := ["internal/abi.NoEscape", "internal/bytealg.MakeNoZero"], apart := false, narrowed := true }
def ArithStepsMakeTheCodeUptoSaid : Prop := arithStepsMakeTheCodeUptoRow.holds Try.pinned (OpenSpec.upto arithStepsMakeTheCodeSpec)

end Rows
end Go.Proofs.Ytnnpkajmheglgaa
