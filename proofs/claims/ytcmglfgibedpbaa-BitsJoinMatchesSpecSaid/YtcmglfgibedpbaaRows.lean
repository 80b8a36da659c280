/-
  No cell of these rows narrows 'for every input' (looked for: loops, veiled, ifaces, maps, wideKeys, modest, calm, conditions, laid).
  DERIVED. THE GIVEN ROWS OF THIS SEAT. 8 by the template 'for every input the law returns true; each argument reads behind the call as it read before'; 0 by the template 'total and deterministic' (their statements: YtcmglfgibedpbaaTotals.lean).
  GIVEN WITH THE SEED: the statements are not yours to turn. If you find one false, say at which input.
  Laid BY PROGRAM, IN A SANDBOX (cutbox-rows.mjs): the forced cells as the released guide's own fill.sh prints them over the translation 53cea1cca5917dbc… (all of the seat's roots in one cut). By AI agents, Wed Nov 11 2026. No macro, syntax, notation, axiom, sorry.
-/
import Derived.Test.YtcmglfgibedpbaaChecked
import GoSem.Claim
import GoSem.ClaimJoined
import GoSem.ClaimMapViews
import Derived.JoinedTies
import Derived.KernelRfl
namespace Go.Proofs.Ytcmglfgibedpbaa
/- THE CELL 'sum', in the pinned program and in every row, IS THE sha256 OF THE DUMP (.gsa) THAT YtcmglfgibedpbaaProg.lean LOADS. Nothing in Lean hashes anything: it is a label: what it is worth is what the hold of that sum in a sandbox is worth. -/
noncomputable def Try.pinned : Pinned := { name := "ytcmglfgibedpbaa", sum := "53cea1cca5917dbc379439830b298d0754d8b2c619b4c5db317413c7890be400", checked := Try.checked }
namespace Rows
def none {H : Type} : Left H := { results := [], args := [] }

/-- 'scriptoriumlaw3.BitsMakeMatchesSpec': WHATEVER THE INPUT: true; the input reads as it did. -/
def bitsMakeMatchesSpecSpec : ChangeSpec := { name := "bitsMakeMatchesSpec", fn := fun _ => fun
  | [d1, d2] => { results := [.lit (.bool true)], args := [d1, d2] }
  | _ => none }
def bitsMakeMatchesSpecRow : OpenClaim := { program := "ytcmglfgibedpbaa", sum := "53cea1cca5917dbc379439830b298d0754d8b2c619b4c5db317413c7890be400", func := "scriptorium/scriptoriumlaw3.BitsMakeMatchesSpec", spec := "bitsMakeMatchesSpec", apart := false }
def BitsMakeMatchesSpecSaid : Prop := bitsMakeMatchesSpecRow.holds Try.pinned (OpenSpec.ofChange bitsMakeMatchesSpecSpec)

/-- ITS FALSE NEIGHBOUR: 'it returns false'. Refute it at one input. -/
def bitsMakeMatchesSpecWrong : ChangeSpec := { name := "bitsMakeMatchesSpec", fn := fun _ => fun
  | [d1, d2] => { results := [.lit (.bool false)], args := [d1, d2] }
  | _ => none }
def BitsMakeMatchesSpecWrongFalsely : Prop := bitsMakeMatchesSpecRow.holds Try.pinned (OpenSpec.ofChange bitsMakeMatchesSpecWrong)

/-- 'scriptoriumlaw3.BitsGammaMatchesSpec': WHATEVER THE INPUT: true; the input reads as it did. -/
def bitsGammaMatchesSpecSpec : ChangeSpec := { name := "bitsGammaMatchesSpec", fn := fun _ => fun
  | [d1, d2, d3] => { results := [.lit (.bool true)], args := [d1, d2, d3] }
  | _ => none }
def bitsGammaMatchesSpecRow : OpenClaim := { program := "ytcmglfgibedpbaa", sum := "53cea1cca5917dbc379439830b298d0754d8b2c619b4c5db317413c7890be400", func := "scriptorium/scriptoriumlaw3.BitsGammaMatchesSpec", spec := "bitsGammaMatchesSpec", apart := false }
def BitsGammaMatchesSpecSaid : Prop := bitsGammaMatchesSpecRow.holds Try.pinned (OpenSpec.ofChange bitsGammaMatchesSpecSpec)

/-- ITS FALSE NEIGHBOUR: 'it returns false'. Refute it at one input. -/
def bitsGammaMatchesSpecWrong : ChangeSpec := { name := "bitsGammaMatchesSpec", fn := fun _ => fun
  | [d1, d2, d3] => { results := [.lit (.bool false)], args := [d1, d2, d3] }
  | _ => none }
def BitsGammaMatchesSpecWrongFalsely : Prop := bitsGammaMatchesSpecRow.holds Try.pinned (OpenSpec.ofChange bitsGammaMatchesSpecWrong)

/-- 'scriptoriumlaw3.BitsNumbersMatchSpec': WHATEVER THE INPUT: true; the input reads as it did. -/
def bitsNumbersMatchSpecSpec : ChangeSpec := { name := "bitsNumbersMatchSpec", fn := fun _ => fun
  | [d1, d2, d3, d4] => { results := [.lit (.bool true)], args := [d1, d2, d3, d4] }
  | _ => none }
def bitsNumbersMatchSpecRow : OpenClaim := { program := "ytcmglfgibedpbaa", sum := "53cea1cca5917dbc379439830b298d0754d8b2c619b4c5db317413c7890be400", func := "scriptorium/scriptoriumlaw3.BitsNumbersMatchSpec", spec := "bitsNumbersMatchSpec", apart := false }
def BitsNumbersMatchSpecSaid : Prop := bitsNumbersMatchSpecRow.holds Try.pinned (OpenSpec.ofChange bitsNumbersMatchSpecSpec)

/-- ITS FALSE NEIGHBOUR: 'it returns false'. Refute it at one input. -/
def bitsNumbersMatchSpecWrong : ChangeSpec := { name := "bitsNumbersMatchSpec", fn := fun _ => fun
  | [d1, d2, d3, d4] => { results := [.lit (.bool false)], args := [d1, d2, d3, d4] }
  | _ => none }
def BitsNumbersMatchSpecWrongFalsely : Prop := bitsNumbersMatchSpecRow.holds Try.pinned (OpenSpec.ofChange bitsNumbersMatchSpecWrong)

/-- 'scriptoriumlaw3.BitsGammaPrefixFree': WHATEVER THE INPUT: true; the input reads as it did. -/
def bitsGammaPrefixFreeSpec : ChangeSpec := { name := "bitsGammaPrefixFree", fn := fun _ => fun
  | [d1, d2] => { results := [.lit (.bool true)], args := [d1, d2] }
  | _ => none }
def bitsGammaPrefixFreeRow : OpenClaim := { program := "ytcmglfgibedpbaa", sum := "53cea1cca5917dbc379439830b298d0754d8b2c619b4c5db317413c7890be400", func := "scriptorium/scriptoriumlaw3.BitsGammaPrefixFree", spec := "bitsGammaPrefixFree", apart := false }
def BitsGammaPrefixFreeSaid : Prop := bitsGammaPrefixFreeRow.holds Try.pinned (OpenSpec.ofChange bitsGammaPrefixFreeSpec)

/-- ITS FALSE NEIGHBOUR: 'it returns false'. Refute it at one input. -/
def bitsGammaPrefixFreeWrong : ChangeSpec := { name := "bitsGammaPrefixFree", fn := fun _ => fun
  | [d1, d2] => { results := [.lit (.bool false)], args := [d1, d2] }
  | _ => none }
def BitsGammaPrefixFreeWrongFalsely : Prop := bitsGammaPrefixFreeRow.holds Try.pinned (OpenSpec.ofChange bitsGammaPrefixFreeWrong)

/-- 'scriptoriumlaw3.BitsGammaReadBack': WHATEVER THE INPUT: true; the input reads as it did. -/
def bitsGammaReadBackSpec : ChangeSpec := { name := "bitsGammaReadBack", fn := fun _ => fun
  | [d1, d2, d3] => { results := [.lit (.bool true)], args := [d1, d2, d3] }
  | _ => none }
def bitsGammaReadBackRow : OpenClaim := { program := "ytcmglfgibedpbaa", sum := "53cea1cca5917dbc379439830b298d0754d8b2c619b4c5db317413c7890be400", func := "scriptorium/scriptoriumlaw3.BitsGammaReadBack", spec := "bitsGammaReadBack", apart := false }
def BitsGammaReadBackSaid : Prop := bitsGammaReadBackRow.holds Try.pinned (OpenSpec.ofChange bitsGammaReadBackSpec)

/-- ITS FALSE NEIGHBOUR: 'it returns false'. Refute it at one input. -/
def bitsGammaReadBackWrong : ChangeSpec := { name := "bitsGammaReadBack", fn := fun _ => fun
  | [d1, d2, d3] => { results := [.lit (.bool false)], args := [d1, d2, d3] }
  | _ => none }
def BitsGammaReadBackWrongFalsely : Prop := bitsGammaReadBackRow.holds Try.pinned (OpenSpec.ofChange bitsGammaReadBackWrong)

/-- 'scriptoriumlaw3.BitsReadBack': WHATEVER THE INPUT: true; the input reads as it did. -/
def bitsReadBackSpec : ChangeSpec := { name := "bitsReadBack", fn := fun _ => fun
  | [d1, d2, d3] => { results := [.lit (.bool true)], args := [d1, d2, d3] }
  | _ => none }
def bitsReadBackRow : OpenClaim := { program := "ytcmglfgibedpbaa", sum := "53cea1cca5917dbc379439830b298d0754d8b2c619b4c5db317413c7890be400", func := "scriptorium/scriptoriumlaw3.BitsReadBack", spec := "bitsReadBack", apart := false }
def BitsReadBackSaid : Prop := bitsReadBackRow.holds Try.pinned (OpenSpec.ofChange bitsReadBackSpec)

/-- ITS FALSE NEIGHBOUR: 'it returns false'. Refute it at one input. -/
def bitsReadBackWrong : ChangeSpec := { name := "bitsReadBack", fn := fun _ => fun
  | [d1, d2, d3] => { results := [.lit (.bool false)], args := [d1, d2, d3] }
  | _ => none }
def BitsReadBackWrongFalsely : Prop := bitsReadBackRow.holds Try.pinned (OpenSpec.ofChange bitsReadBackWrong)

/-- 'scriptoriumlaw3.BitsJoinMatchesSpec': WHATEVER THE INPUT: true; the input reads as it did. -/
def bitsJoinMatchesSpecSpec : ChangeSpec := { name := "bitsJoinMatchesSpec", fn := fun _ => fun
  | [d1, d2, d3, d4] => { results := [.lit (.bool true)], args := [d1, d2, d3, d4] }
  | _ => none }
def bitsJoinMatchesSpecRow : OpenClaim := { program := "ytcmglfgibedpbaa", sum := "53cea1cca5917dbc379439830b298d0754d8b2c619b4c5db317413c7890be400", func := "scriptorium/scriptoriumlaw3.BitsJoinMatchesSpec", spec := "bitsJoinMatchesSpec", apart := false }
def BitsJoinMatchesSpecSaid : Prop := bitsJoinMatchesSpecRow.holds Try.pinned (OpenSpec.ofChange bitsJoinMatchesSpecSpec)

/-- ITS FALSE NEIGHBOUR: 'it returns false'. Refute it at one input. -/
def bitsJoinMatchesSpecWrong : ChangeSpec := { name := "bitsJoinMatchesSpec", fn := fun _ => fun
  | [d1, d2, d3, d4] => { results := [.lit (.bool false)], args := [d1, d2, d3, d4] }
  | _ => none }
def BitsJoinMatchesSpecWrongFalsely : Prop := bitsJoinMatchesSpecRow.holds Try.pinned (OpenSpec.ofChange bitsJoinMatchesSpecWrong)

/-- 'scriptoriumlaw3.BitsPartsJoin': WHATEVER THE INPUT: true; the input reads as it did. -/
def bitsPartsJoinSpec : ChangeSpec := { name := "bitsPartsJoin", fn := fun _ => fun
  | [d1, d2] => { results := [.lit (.bool true)], args := [d1, d2] }
  | _ => none }
def bitsPartsJoinRow : OpenClaim := { program := "ytcmglfgibedpbaa", sum := "53cea1cca5917dbc379439830b298d0754d8b2c619b4c5db317413c7890be400", func := "scriptorium/scriptoriumlaw3.BitsPartsJoin", spec := "bitsPartsJoin", apart := false }
def BitsPartsJoinSaid : Prop := bitsPartsJoinRow.holds Try.pinned (OpenSpec.ofChange bitsPartsJoinSpec)

/-- ITS FALSE NEIGHBOUR: 'it returns false'. Refute it at one input. -/
def bitsPartsJoinWrong : ChangeSpec := { name := "bitsPartsJoin", fn := fun _ => fun
  | [d1, d2] => { results := [.lit (.bool false)], args := [d1, d2] }
  | _ => none }
def BitsPartsJoinWrongFalsely : Prop := bitsPartsJoinRow.holds Try.pinned (OpenSpec.ofChange bitsPartsJoinWrong)

/- THE SECOND FORM. 'bulk': how many values and letters a reading holds, each counted each time it is reached (what is shared counts as often as it is met; a slice's spare places count too). A statement '..UptoSaid' is the law's where the arguments, and the package variables that the reading takes, are together of bulk at most 1048576: NARROWER than '..Said'. Prove '..Said' where nothing that the law and all that it calls make is longer than what came in: it says more and counts as full. Else prove '..UptoSaid'. A law counts once. -/
mutual
def uptoBulk {H : Type} : DataW H → Nat
  | .lit (.string bytes) => bytes.length + 1
  | .lit _ => 1
  | .nil => 1
  | .ptr d => uptoBulk d + 1
  | .slice elems spare => uptoBulkAll elems + uptoBulkAll spare + 1
  | .agg parts => uptoBulkAll parts + 1
  | .iface _ d => uptoBulk d + 1
  | .map entries => uptoBulkEntries entries + 1
  | .held _ => 1
def uptoBulkAll {H : Type} : List (DataW H) → Nat
  | [] => 0
  | d :: r => uptoBulk d + uptoBulkAll r
def uptoBulkEntries {H : Type} : List (Lit × DataW H) → Nat
  | [] => 0
  | x :: r => uptoBulkEntry x + uptoBulkEntries r
def uptoBulkEntry {H : Type} : Lit × DataW H → Nat
  | (.string bytes, d) => bytes.length + uptoBulk d + 1
  | (_, d) => uptoBulk d + 1
 end
def uptoSmall : (H : Type) → List (DataW H) → Bool := fun _ ds => decide (uptoBulkAll ds ≤ 1048576)
def OpenSpec.upto (s : _root_.Go.ChangeSpec) : _root_.Go.OpenSpec := { _root_.Go.OpenSpec.ofChange s with cond := some uptoSmall }

/-- 'scriptoriumlaw3.BitsMakeMatchesSpec', WHERE WHAT IT READS IS OF BULK AT MOST 1048576: true; the input reads as it did. -/
def bitsMakeMatchesSpecUptoRow : OpenClaim := { program := "ytcmglfgibedpbaa", sum := "53cea1cca5917dbc379439830b298d0754d8b2c619b4c5db317413c7890be400", func := "scriptorium/scriptoriumlaw3.BitsMakeMatchesSpec", spec := "bitsMakeMatchesSpec", apart := false, narrowed := true }
def BitsMakeMatchesSpecUptoSaid : Prop := bitsMakeMatchesSpecUptoRow.holds Try.pinned (OpenSpec.upto bitsMakeMatchesSpecSpec)

/-- 'scriptoriumlaw3.BitsGammaMatchesSpec', WHERE WHAT IT READS IS OF BULK AT MOST 1048576: true; the input reads as it did. -/
def bitsGammaMatchesSpecUptoRow : OpenClaim := { program := "ytcmglfgibedpbaa", sum := "53cea1cca5917dbc379439830b298d0754d8b2c619b4c5db317413c7890be400", func := "scriptorium/scriptoriumlaw3.BitsGammaMatchesSpec", spec := "bitsGammaMatchesSpec", apart := false, narrowed := true }
def BitsGammaMatchesSpecUptoSaid : Prop := bitsGammaMatchesSpecUptoRow.holds Try.pinned (OpenSpec.upto bitsGammaMatchesSpecSpec)

/-- 'scriptoriumlaw3.BitsNumbersMatchSpec', WHERE WHAT IT READS IS OF BULK AT MOST 1048576: true; the input reads as it did. -/
def bitsNumbersMatchSpecUptoRow : OpenClaim := { program := "ytcmglfgibedpbaa", sum := "53cea1cca5917dbc379439830b298d0754d8b2c619b4c5db317413c7890be400", func := "scriptorium/scriptoriumlaw3.BitsNumbersMatchSpec", spec := "bitsNumbersMatchSpec", apart := false, narrowed := true }
def BitsNumbersMatchSpecUptoSaid : Prop := bitsNumbersMatchSpecUptoRow.holds Try.pinned (OpenSpec.upto bitsNumbersMatchSpecSpec)

/-- 'scriptoriumlaw3.BitsGammaPrefixFree', WHERE WHAT IT READS IS OF BULK AT MOST 1048576: true; the input reads as it did. -/
def bitsGammaPrefixFreeUptoRow : OpenClaim := { program := "ytcmglfgibedpbaa", sum := "53cea1cca5917dbc379439830b298d0754d8b2c619b4c5db317413c7890be400", func := "scriptorium/scriptoriumlaw3.BitsGammaPrefixFree", spec := "bitsGammaPrefixFree", apart := false, narrowed := true }
def BitsGammaPrefixFreeUptoSaid : Prop := bitsGammaPrefixFreeUptoRow.holds Try.pinned (OpenSpec.upto bitsGammaPrefixFreeSpec)

/-- 'scriptoriumlaw3.BitsGammaReadBack', WHERE WHAT IT READS IS OF BULK AT MOST 1048576: true; the input reads as it did. -/
def bitsGammaReadBackUptoRow : OpenClaim := { program := "ytcmglfgibedpbaa", sum := "53cea1cca5917dbc379439830b298d0754d8b2c619b4c5db317413c7890be400", func := "scriptorium/scriptoriumlaw3.BitsGammaReadBack", spec := "bitsGammaReadBack", apart := false, narrowed := true }
def BitsGammaReadBackUptoSaid : Prop := bitsGammaReadBackUptoRow.holds Try.pinned (OpenSpec.upto bitsGammaReadBackSpec)

/-- 'scriptoriumlaw3.BitsReadBack', WHERE WHAT IT READS IS OF BULK AT MOST 1048576: true; the input reads as it did. -/
def bitsReadBackUptoRow : OpenClaim := { program := "ytcmglfgibedpbaa", sum := "53cea1cca5917dbc379439830b298d0754d8b2c619b4c5db317413c7890be400", func := "scriptorium/scriptoriumlaw3.BitsReadBack", spec := "bitsReadBack", apart := false, narrowed := true }
def BitsReadBackUptoSaid : Prop := bitsReadBackUptoRow.holds Try.pinned (OpenSpec.upto bitsReadBackSpec)

/-- 'scriptoriumlaw3.BitsJoinMatchesSpec', WHERE WHAT IT READS IS OF BULK AT MOST 1048576: true; the input reads as it did. -/
def bitsJoinMatchesSpecUptoRow : OpenClaim := { program := "ytcmglfgibedpbaa", sum := "53cea1cca5917dbc379439830b298d0754d8b2c619b4c5db317413c7890be400", func := "scriptorium/scriptoriumlaw3.BitsJoinMatchesSpec", spec := "bitsJoinMatchesSpec", apart := false, narrowed := true }
def BitsJoinMatchesSpecUptoSaid : Prop := bitsJoinMatchesSpecUptoRow.holds Try.pinned (OpenSpec.upto bitsJoinMatchesSpecSpec)

/-- 'scriptoriumlaw3.BitsPartsJoin', WHERE WHAT IT READS IS OF BULK AT MOST 1048576: true; the input reads as it did. -/
def bitsPartsJoinUptoRow : OpenClaim := { program := "ytcmglfgibedpbaa", sum := "53cea1cca5917dbc379439830b298d0754d8b2c619b4c5db317413c7890be400", func := "scriptorium/scriptoriumlaw3.BitsPartsJoin", spec := "bitsPartsJoin", apart := false, narrowed := true }
def BitsPartsJoinUptoSaid : Prop := bitsPartsJoinUptoRow.holds Try.pinned (OpenSpec.upto bitsPartsJoinSpec)

end Rows
end Go.Proofs.Ytcmglfgibedpbaa
