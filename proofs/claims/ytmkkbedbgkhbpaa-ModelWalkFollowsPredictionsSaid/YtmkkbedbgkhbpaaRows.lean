/-
  No cell of these rows narrows 'for every input' (looked for: loops, veiled, ifaces, maps, wideKeys, modest, calm, conditions, laid).
  DERIVED. THE GIVEN ROWS OF THIS SEAT. 5 by the template 'for every input the law returns true; each argument reads behind the call as it read before'; 0 by the template 'total and deterministic' (their statements: YtmkkbedbgkhbpaaTotals.lean).
  GIVEN WITH THE SEED: the statements are not yours to turn. If you find one false, say at which input.
  Laid BY PROGRAM, IN A SANDBOX (cutbox-rows.mjs): the forced cells as the released guide's own fill.sh prints them over the translation e92f7494c3ed7d13… (all of the seat's roots in one cut). By AI agents, Wed Nov 11 2026. No macro, syntax, notation, axiom, sorry.
-/
import Derived.Test.YtmkkbedbgkhbpaaChecked
import GoSem.Claim
import GoSem.ClaimJoined
import GoSem.ClaimMapViews
import Derived.JoinedTies
import Derived.KernelRfl
namespace Go.Proofs.Ytmkkbedbgkhbpaa
/- THE CELL 'sum', in the pinned program and in every row, IS THE sha256 OF THE DUMP (.gsa) THAT YtmkkbedbgkhbpaaProg.lean LOADS. Nothing in Lean hashes anything: it is a label: what it is worth is what the hold of that sum in a sandbox is worth. -/
noncomputable def Try.pinned : Pinned := { name := "ytmkkbedbgkhbpaa", sum := "e92f7494c3ed7d13ee7a52d262e7df853a48592e7446b5883f0d20b25a96e535", checked := Try.checked }
namespace Rows
def none {H : Type} : Left H := { results := [], args := [] }

/-- 'scriptoriumlaw3.ModelPredictMatchesSpec': WHATEVER THE INPUT: true; the input reads as it did. -/
def modelPredictMatchesSpecSpec : ChangeSpec := { name := "modelPredictMatchesSpec", fn := fun _ => fun
  | [d1, d2] => { results := [.lit (.bool true)], args := [d1, d2] }
  | _ => none }
def modelPredictMatchesSpecRow : OpenClaim := { program := "ytmkkbedbgkhbpaa", sum := "e92f7494c3ed7d13ee7a52d262e7df853a48592e7446b5883f0d20b25a96e535", func := "scriptorium/scriptoriumlaw3.ModelPredictMatchesSpec", spec := "modelPredictMatchesSpec", unfollowed := true, recurses := true, plainKeys := false, apart := false }
def ModelPredictMatchesSpecSaid : Prop := modelPredictMatchesSpecRow.holds Try.pinned (OpenSpec.ofChange modelPredictMatchesSpecSpec)

/-- ITS FALSE NEIGHBOUR: 'it returns false'. Refute it at one input. -/
def modelPredictMatchesSpecWrong : ChangeSpec := { name := "modelPredictMatchesSpec", fn := fun _ => fun
  | [d1, d2] => { results := [.lit (.bool false)], args := [d1, d2] }
  | _ => none }
def ModelPredictMatchesSpecWrongFalsely : Prop := modelPredictMatchesSpecRow.holds Try.pinned (OpenSpec.ofChange modelPredictMatchesSpecWrong)

/-- 'scriptoriumlaw3.ModelStaysInside': WHATEVER THE INPUT: true; the input reads as it did. -/
def modelStaysInsideSpec : ChangeSpec := { name := "modelStaysInside", fn := fun _ => fun
  | [d1, d2] => { results := [.lit (.bool true)], args := [d1, d2] }
  | _ => none }
def modelStaysInsideRow : OpenClaim := { program := "ytmkkbedbgkhbpaa", sum := "e92f7494c3ed7d13ee7a52d262e7df853a48592e7446b5883f0d20b25a96e535", func := "scriptorium/scriptoriumlaw3.ModelStaysInside", spec := "modelStaysInside", unfollowed := true, recurses := true, plainKeys := false, apart := false }
def ModelStaysInsideSaid : Prop := modelStaysInsideRow.holds Try.pinned (OpenSpec.ofChange modelStaysInsideSpec)

/-- ITS FALSE NEIGHBOUR: 'it returns false'. Refute it at one input. -/
def modelStaysInsideWrong : ChangeSpec := { name := "modelStaysInside", fn := fun _ => fun
  | [d1, d2] => { results := [.lit (.bool false)], args := [d1, d2] }
  | _ => none }
def ModelStaysInsideWrongFalsely : Prop := modelStaysInsideRow.holds Try.pinned (OpenSpec.ofChange modelStaysInsideWrong)

/-- 'scriptoriumlaw3.ModelLooksBackOnly': WHATEVER THE INPUT: true; the input reads as it did. -/
def modelLooksBackOnlySpec : ChangeSpec := { name := "modelLooksBackOnly", fn := fun _ => fun
  | [d1, d2, d3] => { results := [.lit (.bool true)], args := [d1, d2, d3] }
  | _ => none }
def modelLooksBackOnlyRow : OpenClaim := { program := "ytmkkbedbgkhbpaa", sum := "e92f7494c3ed7d13ee7a52d262e7df853a48592e7446b5883f0d20b25a96e535", func := "scriptorium/scriptoriumlaw3.ModelLooksBackOnly", spec := "modelLooksBackOnly", unfollowed := true, recurses := true, plainKeys := false, apart := false }
def ModelLooksBackOnlySaid : Prop := modelLooksBackOnlyRow.holds Try.pinned (OpenSpec.ofChange modelLooksBackOnlySpec)

/-- ITS FALSE NEIGHBOUR: 'it returns false'. Refute it at one input. -/
def modelLooksBackOnlyWrong : ChangeSpec := { name := "modelLooksBackOnly", fn := fun _ => fun
  | [d1, d2, d3] => { results := [.lit (.bool false)], args := [d1, d2, d3] }
  | _ => none }
def ModelLooksBackOnlyWrongFalsely : Prop := modelLooksBackOnlyRow.holds Try.pinned (OpenSpec.ofChange modelLooksBackOnlyWrong)

/-- 'scriptoriumlaw3.ModelWalkFollowsPredictions': WHATEVER THE INPUT: true; the input reads as it did. -/
def modelWalkFollowsPredictionsSpec : ChangeSpec := { name := "modelWalkFollowsPredictions", fn := fun _ => fun
  | [d1, d2, d3] => { results := [.lit (.bool true)], args := [d1, d2, d3] }
  | _ => none }
def modelWalkFollowsPredictionsRow : OpenClaim := { program := "ytmkkbedbgkhbpaa", sum := "e92f7494c3ed7d13ee7a52d262e7df853a48592e7446b5883f0d20b25a96e535", func := "scriptorium/scriptoriumlaw3.ModelWalkFollowsPredictions", spec := "modelWalkFollowsPredictions", unfollowed := true, recurses := true, plainKeys := false, apart := false }
def ModelWalkFollowsPredictionsSaid : Prop := modelWalkFollowsPredictionsRow.holds Try.pinned (OpenSpec.ofChange modelWalkFollowsPredictionsSpec)

/-- ITS FALSE NEIGHBOUR: 'it returns false'. Refute it at one input. -/
def modelWalkFollowsPredictionsWrong : ChangeSpec := { name := "modelWalkFollowsPredictions", fn := fun _ => fun
  | [d1, d2, d3] => { results := [.lit (.bool false)], args := [d1, d2, d3] }
  | _ => none }
def ModelWalkFollowsPredictionsWrongFalsely : Prop := modelWalkFollowsPredictionsRow.holds Try.pinned (OpenSpec.ofChange modelWalkFollowsPredictionsWrong)

/-- 'scriptoriumlaw3.ModelTrustsRepetition': WHATEVER THE INPUT: true; the input reads as it did. -/
def modelTrustsRepetitionSpec : ChangeSpec := { name := "modelTrustsRepetition", fn := fun _ => fun
  | [d1, d2] => { results := [.lit (.bool true)], args := [d1, d2] }
  | _ => none }
def modelTrustsRepetitionRow : OpenClaim := { program := "ytmkkbedbgkhbpaa", sum := "e92f7494c3ed7d13ee7a52d262e7df853a48592e7446b5883f0d20b25a96e535", func := "scriptorium/scriptoriumlaw3.ModelTrustsRepetition", spec := "modelTrustsRepetition", unfollowed := true, recurses := true, plainKeys := false, apart := false }
def ModelTrustsRepetitionSaid : Prop := modelTrustsRepetitionRow.holds Try.pinned (OpenSpec.ofChange modelTrustsRepetitionSpec)

/-- ITS FALSE NEIGHBOUR: 'it returns false'. Refute it at one input. -/
def modelTrustsRepetitionWrong : ChangeSpec := { name := "modelTrustsRepetition", fn := fun _ => fun
  | [d1, d2] => { results := [.lit (.bool false)], args := [d1, d2] }
  | _ => none }
def ModelTrustsRepetitionWrongFalsely : Prop := modelTrustsRepetitionRow.holds Try.pinned (OpenSpec.ofChange modelTrustsRepetitionWrong)

/- THE SECOND FORM. 'bulk': how many values and letters a reading holds, each counted each time it is reached (what is shared counts as often as it is met; a slice's spare places count too). A statement '..UptoSaid' is the law's where the arguments, and the package variables that the reading takes, are together of bulk at most 1048576: NARROWER than '..Said'. Prove '..Said' where nothing that the law and all that it calls make is longer than what came in: it says more and counts as full. Else prove '..UptoSaid'. A law counts once. -/
mutual
def uptoBulk {H : Type} : DataW H → Nat
  | .lit (.string bytes) => bytes.length + 1
  | .lit _ => 1
  | .nil => 1
  | .ptr d => uptoBulk d + 1
  | .slice elems spare => uptoBulkAll elems + uptoBulkAll spare + 1
  | .agg parts => uptoBulkAll parts + 1
  | .iface _ d => uptoBulk d + 1
  | .map entries => uptoBulkEntries entries + 1
  | .held _ => 1
def uptoBulkAll {H : Type} : List (DataW H) → Nat
  | [] => 0
  | d :: r => uptoBulk d + uptoBulkAll r
def uptoBulkEntries {H : Type} : List (Lit × DataW H) → Nat
  | [] => 0
  | x :: r => uptoBulkEntry x + uptoBulkEntries r
def uptoBulkEntry {H : Type} : Lit × DataW H → Nat
  | (.string bytes, d) => bytes.length + uptoBulk d + 1
  | (_, d) => uptoBulk d + 1
 end
def uptoSmall : (H : Type) → List (DataW H) → Bool := fun _ ds => decide (uptoBulkAll ds ≤ 1048576)
def OpenSpec.upto (s : _root_.Go.ChangeSpec) : _root_.Go.OpenSpec := { _root_.Go.OpenSpec.ofChange s with cond := some uptoSmall }

/-- 'scriptoriumlaw3.ModelPredictMatchesSpec', WHERE WHAT IT READS IS OF BULK AT MOST 1048576: true; the input reads as it did. -/
def modelPredictMatchesSpecUptoRow : OpenClaim := { program := "ytmkkbedbgkhbpaa", sum := "e92f7494c3ed7d13ee7a52d262e7df853a48592e7446b5883f0d20b25a96e535", func := "scriptorium/scriptoriumlaw3.ModelPredictMatchesSpec", spec := "modelPredictMatchesSpec", unfollowed := true, recurses := true, plainKeys := false, apart := false, narrowed := true }
def ModelPredictMatchesSpecUptoSaid : Prop := modelPredictMatchesSpecUptoRow.holds Try.pinned (OpenSpec.upto modelPredictMatchesSpecSpec)

/-- 'scriptoriumlaw3.ModelStaysInside', WHERE WHAT IT READS IS OF BULK AT MOST 1048576: true; the input reads as it did. -/
def modelStaysInsideUptoRow : OpenClaim := { program := "ytmkkbedbgkhbpaa", sum := "e92f7494c3ed7d13ee7a52d262e7df853a48592e7446b5883f0d20b25a96e535", func := "scriptorium/scriptoriumlaw3.ModelStaysInside", spec := "modelStaysInside", unfollowed := true, recurses := true, plainKeys := false, apart := false, narrowed := true }
def ModelStaysInsideUptoSaid : Prop := modelStaysInsideUptoRow.holds Try.pinned (OpenSpec.upto modelStaysInsideSpec)

/-- 'scriptoriumlaw3.ModelLooksBackOnly', WHERE WHAT IT READS IS OF BULK AT MOST 1048576: true; the input reads as it did. -/
def modelLooksBackOnlyUptoRow : OpenClaim := { program := "ytmkkbedbgkhbpaa", sum := "e92f7494c3ed7d13ee7a52d262e7df853a48592e7446b5883f0d20b25a96e535", func := "scriptorium/scriptoriumlaw3.ModelLooksBackOnly", spec := "modelLooksBackOnly", unfollowed := true, recurses := true, plainKeys := false, apart := false, narrowed := true }
def ModelLooksBackOnlyUptoSaid : Prop := modelLooksBackOnlyUptoRow.holds Try.pinned (OpenSpec.upto modelLooksBackOnlySpec)

/-- 'scriptoriumlaw3.ModelWalkFollowsPredictions', WHERE WHAT IT READS IS OF BULK AT MOST 1048576: true; the input reads as it did. -/
def modelWalkFollowsPredictionsUptoRow : OpenClaim := { program := "ytmkkbedbgkhbpaa", sum := "e92f7494c3ed7d13ee7a52d262e7df853a48592e7446b5883f0d20b25a96e535", func := "scriptorium/scriptoriumlaw3.ModelWalkFollowsPredictions", spec := "modelWalkFollowsPredictions", unfollowed := true, recurses := true, plainKeys := false, apart := false, narrowed := true }
def ModelWalkFollowsPredictionsUptoSaid : Prop := modelWalkFollowsPredictionsUptoRow.holds Try.pinned (OpenSpec.upto modelWalkFollowsPredictionsSpec)

/-- 'scriptoriumlaw3.ModelTrustsRepetition', WHERE WHAT IT READS IS OF BULK AT MOST 1048576: true; the input reads as it did. -/
def modelTrustsRepetitionUptoRow : OpenClaim := { program := "ytmkkbedbgkhbpaa", sum := "e92f7494c3ed7d13ee7a52d262e7df853a48592e7446b5883f0d20b25a96e535", func := "scriptorium/scriptoriumlaw3.ModelTrustsRepetition", spec := "modelTrustsRepetition", unfollowed := true, recurses := true, plainKeys := false, apart := false, narrowed := true }
def ModelTrustsRepetitionUptoSaid : Prop := modelTrustsRepetitionUptoRow.holds Try.pinned (OpenSpec.upto modelTrustsRepetitionSpec)

end Rows
end Go.Proofs.Ytmkkbedbgkhbpaa
