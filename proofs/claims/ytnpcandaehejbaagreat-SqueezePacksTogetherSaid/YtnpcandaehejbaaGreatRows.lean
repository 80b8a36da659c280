/-
  No cell of these rows narrows 'for every input' (looked for: loops, veiled, ifaces, maps, wideKeys, modest, calm, conditions, laid).
  DERIVED. THE GIVEN ROWS OF THIS SEAT. 5 by the template 'for every input the law returns true; each argument reads behind the call as it read before'; 0 by the template 'total and deterministic' (their statements: YtnpcandaehejbaaGreatTotals.lean).
  GIVEN WITH THE SEED: the statements are not yours to turn. If you find one false, say at which input.
  Laid BY PROGRAM, IN A SANDBOX (cutbox-rows.mjs): the forced cells as the released guide's own fill.sh prints them over the translation 8cbc503c41523e8f… (all of the seat's roots in one cut). By AI agents, Wed Nov 11 2026. No macro, syntax, notation, axiom, sorry.
-/
import Derived.Test.YtnpcandaehejbaaGreatChecked
import GoSem.Claim
import GoSem.ClaimJoined
import GoSem.ClaimMapViews
import Derived.JoinedTies
import Derived.KernelRfl
namespace Go.Proofs.YtnpcandaehejbaaGreat
/- THE CELL 'sum', in the pinned program and in every row, IS THE sha256 OF THE DUMP (.gsa) THAT YtnpcandaehejbaaGreatProg.lean LOADS. Nothing in Lean hashes anything: it is a label: what it is worth is what the hold of that sum in a sandbox is worth. -/
noncomputable def Tryz.pinned : Pinned := { name := "ytnpcandaehejbaagreat", sum := "8cbc503c41523e8f1bca7f30a5ed84cdbdc94848dadb68170203df5bc1f293a8", checked := Tryz.checked }
namespace Rows
def none {H : Type} : Left H := { results := [], args := [] }

/-- 'scriptoriumlaw3.SqueezePackMatchesSpec': WHATEVER THE INPUT: true; the input reads as it did. -/
def squeezePackMatchesSpecSpec : ChangeSpec := { name := "squeezePackMatchesSpec", fn := fun _ => fun
  | [d1, d2] => { results := [.lit (.bool true)], args := [d1, d2] }
  | _ => none }
def squeezePackMatchesSpecRow : OpenClaim := { program := "ytnpcandaehejbaagreat", sum := "8cbc503c41523e8f1bca7f30a5ed84cdbdc94848dadb68170203df5bc1f293a8", func := "scriptorium/scriptoriumlaw3.SqueezePackMatchesSpec", spec := "squeezePackMatchesSpec", inPlace := ["(*sync.WaitGroup).Add", "internal/race.ReleaseMerge", "internal/race.Disable", "internal/race.Enable", "internal/synctest.IsInBubble", "internal/synctest.Associate[sync.WaitGroup]", "sync.fatal", "sync/atomic.OrUint64", "sync/atomic.AddUint64", "internal/race.Read", "sync/atomic.LoadUint64", "sync/atomic.StoreUint64", "internal/synctest.Disassociate[sync.WaitGroup]", "sync.runtime_Semrelease", "(*sync.WaitGroup).Done", "(*sync.WaitGroup).Wait", "internal/race.Acquire", "internal/synctest.IsAssociated[sync.WaitGroup]", "sync/atomic.CompareAndSwapUint64", "internal/race.Write", "sync.runtime_SemacquireWaitGroup"], unfollowed := true, recurses := true, plainKeys := false, leaving := true, apart := false }
def SqueezePackMatchesSpecSaid : Prop := squeezePackMatchesSpecRow.holds Tryz.pinned (OpenSpec.ofChange squeezePackMatchesSpecSpec)

/-- ITS FALSE NEIGHBOUR: 'it returns false'. Refute it at one input. -/
def squeezePackMatchesSpecWrong : ChangeSpec := { name := "squeezePackMatchesSpec", fn := fun _ => fun
  | [d1, d2] => { results := [.lit (.bool false)], args := [d1, d2] }
  | _ => none }
def SqueezePackMatchesSpecWrongFalsely : Prop := squeezePackMatchesSpecRow.holds Tryz.pinned (OpenSpec.ofChange squeezePackMatchesSpecWrong)

/-- 'scriptoriumlaw3.SqueezeUnpackMatchesSpec': WHATEVER THE INPUT: true; the input reads as it did. -/
def squeezeUnpackMatchesSpecSpec : ChangeSpec := { name := "squeezeUnpackMatchesSpec", fn := fun _ => fun
  | [d1, d2] => { results := [.lit (.bool true)], args := [d1, d2] }
  | _ => none }
def squeezeUnpackMatchesSpecRow : OpenClaim := { program := "ytnpcandaehejbaagreat", sum := "8cbc503c41523e8f1bca7f30a5ed84cdbdc94848dadb68170203df5bc1f293a8", func := "scriptorium/scriptoriumlaw3.SqueezeUnpackMatchesSpec", spec := "squeezeUnpackMatchesSpec", inPlace := ["(*sync.WaitGroup).Add", "internal/race.ReleaseMerge", "internal/race.Disable", "internal/race.Enable", "internal/synctest.IsInBubble", "internal/synctest.Associate[sync.WaitGroup]", "sync.fatal", "sync/atomic.OrUint64", "sync/atomic.AddUint64", "internal/race.Read", "sync/atomic.LoadUint64", "sync/atomic.StoreUint64", "internal/synctest.Disassociate[sync.WaitGroup]", "sync.runtime_Semrelease", "(*sync.WaitGroup).Done", "(*sync.WaitGroup).Wait", "internal/race.Acquire", "internal/synctest.IsAssociated[sync.WaitGroup]", "sync/atomic.CompareAndSwapUint64", "internal/race.Write", "sync.runtime_SemacquireWaitGroup"], unfollowed := true, recurses := true, plainKeys := false, leaving := true, apart := false }
def SqueezeUnpackMatchesSpecSaid : Prop := squeezeUnpackMatchesSpecRow.holds Tryz.pinned (OpenSpec.ofChange squeezeUnpackMatchesSpecSpec)

/-- ITS FALSE NEIGHBOUR: 'it returns false'. Refute it at one input. -/
def squeezeUnpackMatchesSpecWrong : ChangeSpec := { name := "squeezeUnpackMatchesSpec", fn := fun _ => fun
  | [d1, d2] => { results := [.lit (.bool false)], args := [d1, d2] }
  | _ => none }
def SqueezeUnpackMatchesSpecWrongFalsely : Prop := squeezeUnpackMatchesSpecRow.holds Tryz.pinned (OpenSpec.ofChange squeezeUnpackMatchesSpecWrong)

/-- 'scriptoriumlaw3.SqueezeRoundTrips': WHATEVER THE INPUT: true; the input reads as it did. -/
def squeezeRoundTripsSpec : ChangeSpec := { name := "squeezeRoundTrips", fn := fun _ => fun
  | [d1, d2] => { results := [.lit (.bool true)], args := [d1, d2] }
  | _ => none }
def squeezeRoundTripsRow : OpenClaim := { program := "ytnpcandaehejbaagreat", sum := "8cbc503c41523e8f1bca7f30a5ed84cdbdc94848dadb68170203df5bc1f293a8", func := "scriptorium/scriptoriumlaw3.SqueezeRoundTrips", spec := "squeezeRoundTrips", inPlace := ["(*sync.WaitGroup).Add", "internal/race.ReleaseMerge", "internal/race.Disable", "internal/race.Enable", "internal/synctest.IsInBubble", "internal/synctest.Associate[sync.WaitGroup]", "sync.fatal", "sync/atomic.OrUint64", "sync/atomic.AddUint64", "internal/race.Read", "sync/atomic.LoadUint64", "sync/atomic.StoreUint64", "internal/synctest.Disassociate[sync.WaitGroup]", "sync.runtime_Semrelease", "(*sync.WaitGroup).Done", "(*sync.WaitGroup).Wait", "internal/race.Acquire", "internal/synctest.IsAssociated[sync.WaitGroup]", "sync/atomic.CompareAndSwapUint64", "internal/race.Write", "sync.runtime_SemacquireWaitGroup"], unfollowed := true, recurses := true, plainKeys := false, leaving := true, apart := false }
def SqueezeRoundTripsSaid : Prop := squeezeRoundTripsRow.holds Tryz.pinned (OpenSpec.ofChange squeezeRoundTripsSpec)

/-- ITS FALSE NEIGHBOUR: 'it returns false'. Refute it at one input. -/
def squeezeRoundTripsWrong : ChangeSpec := { name := "squeezeRoundTrips", fn := fun _ => fun
  | [d1, d2] => { results := [.lit (.bool false)], args := [d1, d2] }
  | _ => none }
def SqueezeRoundTripsWrongFalsely : Prop := squeezeRoundTripsRow.holds Tryz.pinned (OpenSpec.ofChange squeezeRoundTripsWrong)

/-- 'scriptoriumlaw3.SqueezeIsShortest': WHATEVER THE INPUT: true; the input reads as it did. -/
def squeezeIsShortestSpec : ChangeSpec := { name := "squeezeIsShortest", fn := fun _ => fun
  | [d1, d2] => { results := [.lit (.bool true)], args := [d1, d2] }
  | _ => none }
def squeezeIsShortestRow : OpenClaim := { program := "ytnpcandaehejbaagreat", sum := "8cbc503c41523e8f1bca7f30a5ed84cdbdc94848dadb68170203df5bc1f293a8", func := "scriptorium/scriptoriumlaw3.SqueezeIsShortest", spec := "squeezeIsShortest", inPlace := ["(*sync.WaitGroup).Add", "internal/race.ReleaseMerge", "internal/race.Disable", "internal/race.Enable", "internal/synctest.IsInBubble", "internal/synctest.Associate[sync.WaitGroup]", "sync.fatal", "sync/atomic.OrUint64", "sync/atomic.AddUint64", "internal/race.Read", "sync/atomic.LoadUint64", "sync/atomic.StoreUint64", "internal/synctest.Disassociate[sync.WaitGroup]", "sync.runtime_Semrelease", "(*sync.WaitGroup).Done", "(*sync.WaitGroup).Wait", "internal/race.Acquire", "internal/synctest.IsAssociated[sync.WaitGroup]", "sync/atomic.CompareAndSwapUint64", "internal/race.Write", "sync.runtime_SemacquireWaitGroup"], unfollowed := true, recurses := true, plainKeys := false, leaving := true, apart := false }
def SqueezeIsShortestSaid : Prop := squeezeIsShortestRow.holds Tryz.pinned (OpenSpec.ofChange squeezeIsShortestSpec)

/-- ITS FALSE NEIGHBOUR: 'it returns false'. Refute it at one input. -/
def squeezeIsShortestWrong : ChangeSpec := { name := "squeezeIsShortest", fn := fun _ => fun
  | [d1, d2] => { results := [.lit (.bool false)], args := [d1, d2] }
  | _ => none }
def SqueezeIsShortestWrongFalsely : Prop := squeezeIsShortestRow.holds Tryz.pinned (OpenSpec.ofChange squeezeIsShortestWrong)

/-- 'scriptoriumlaw3.SqueezePacksTogether': WHATEVER THE INPUT: true; the input reads as it did. -/
def squeezePacksTogetherSpec : ChangeSpec := { name := "squeezePacksTogether", fn := fun _ => fun
  | [d1, d2] => { results := [.lit (.bool true)], args := [d1, d2] }
  | _ => none }
def squeezePacksTogetherRow : OpenClaim := { program := "ytnpcandaehejbaagreat", sum := "8cbc503c41523e8f1bca7f30a5ed84cdbdc94848dadb68170203df5bc1f293a8", func := "scriptorium/scriptoriumlaw3.SqueezePacksTogether", spec := "squeezePacksTogether", inPlace := ["(*sync.WaitGroup).Add", "internal/race.ReleaseMerge", "internal/race.Disable", "internal/race.Enable", "internal/synctest.IsInBubble", "internal/synctest.Associate[sync.WaitGroup]", "sync.fatal", "sync/atomic.OrUint64", "sync/atomic.AddUint64", "internal/race.Read", "sync/atomic.LoadUint64", "sync/atomic.StoreUint64", "internal/synctest.Disassociate[sync.WaitGroup]", "sync.runtime_Semrelease", "(*sync.WaitGroup).Done", "(*sync.WaitGroup).Wait", "internal/race.Acquire", "internal/synctest.IsAssociated[sync.WaitGroup]", "sync/atomic.CompareAndSwapUint64", "internal/race.Write", "sync.runtime_SemacquireWaitGroup"], unfollowed := true, recurses := true, plainKeys := false, leaving := true, apart := false }
def SqueezePacksTogetherSaid : Prop := squeezePacksTogetherRow.holds Tryz.pinned (OpenSpec.ofChange squeezePacksTogetherSpec)

/-- ITS FALSE NEIGHBOUR: 'it returns false'. Refute it at one input. -/
def squeezePacksTogetherWrong : ChangeSpec := { name := "squeezePacksTogether", fn := fun _ => fun
  | [d1, d2] => { results := [.lit (.bool false)], args := [d1, d2] }
  | _ => none }
def SqueezePacksTogetherWrongFalsely : Prop := squeezePacksTogetherRow.holds Tryz.pinned (OpenSpec.ofChange squeezePacksTogetherWrong)

/- THE SECOND FORM. 'bulk': how many values and letters a reading holds, each counted each time it is reached (what is shared counts as often as it is met; a slice's spare places count too). A statement '..UptoSaid' is the law's where the arguments, and the package variables that the reading takes, are together of bulk at most 1048576: NARROWER than '..Said'. Prove '..Said' where nothing that the law and all that it calls make is longer than what came in: it says more and counts as full. Else prove '..UptoSaid'. A law counts once. -/
mutual
def uptoBulk {H : Type} : DataW H → Nat
  | .lit (.string bytes) => bytes.length + 1
  | .lit _ => 1
  | .nil => 1
  | .ptr d => uptoBulk d + 1
  | .slice elems spare => uptoBulkAll elems + uptoBulkAll spare + 1
  | .agg parts => uptoBulkAll parts + 1
  | .iface _ d => uptoBulk d + 1
  | .map entries => uptoBulkEntries entries + 1
  | .held _ => 1
def uptoBulkAll {H : Type} : List (DataW H) → Nat
  | [] => 0
  | d :: r => uptoBulk d + uptoBulkAll r
def uptoBulkEntries {H : Type} : List (Lit × DataW H) → Nat
  | [] => 0
  | x :: r => uptoBulkEntry x + uptoBulkEntries r
def uptoBulkEntry {H : Type} : Lit × DataW H → Nat
  | (.string bytes, d) => bytes.length + uptoBulk d + 1
  | (_, d) => uptoBulk d + 1
 end
def uptoSmall : (H : Type) → List (DataW H) → Bool := fun _ ds => decide (uptoBulkAll ds ≤ 1048576)
def OpenSpec.upto (s : _root_.Go.ChangeSpec) : _root_.Go.OpenSpec := { _root_.Go.OpenSpec.ofChange s with cond := some uptoSmall }

/-- 'scriptoriumlaw3.SqueezePackMatchesSpec', WHERE WHAT IT READS IS OF BULK AT MOST 1048576: true; the input reads as it did. -/
def squeezePackMatchesSpecUptoRow : OpenClaim := { program := "ytnpcandaehejbaagreat", sum := "8cbc503c41523e8f1bca7f30a5ed84cdbdc94848dadb68170203df5bc1f293a8", func := "scriptorium/scriptoriumlaw3.SqueezePackMatchesSpec", spec := "squeezePackMatchesSpec", inPlace := ["(*sync.WaitGroup).Add", "internal/race.ReleaseMerge", "internal/race.Disable", "internal/race.Enable", "internal/synctest.IsInBubble", "internal/synctest.Associate[sync.WaitGroup]", "sync.fatal", "sync/atomic.OrUint64", "sync/atomic.AddUint64", "internal/race.Read", "sync/atomic.LoadUint64", "sync/atomic.StoreUint64", "internal/synctest.Disassociate[sync.WaitGroup]", "sync.runtime_Semrelease", "(*sync.WaitGroup).Done", "(*sync.WaitGroup).Wait", "internal/race.Acquire", "internal/synctest.IsAssociated[sync.WaitGroup]", "sync/atomic.CompareAndSwapUint64", "internal/race.Write", "sync.runtime_SemacquireWaitGroup"], unfollowed := true, recurses := true, plainKeys := false, leaving := true, apart := false, narrowed := true }
def SqueezePackMatchesSpecUptoSaid : Prop := squeezePackMatchesSpecUptoRow.holds Tryz.pinned (OpenSpec.upto squeezePackMatchesSpecSpec)

/-- 'scriptoriumlaw3.SqueezeUnpackMatchesSpec', WHERE WHAT IT READS IS OF BULK AT MOST 1048576: true; the input reads as it did. -/
def squeezeUnpackMatchesSpecUptoRow : OpenClaim := { program := "ytnpcandaehejbaagreat", sum := "8cbc503c41523e8f1bca7f30a5ed84cdbdc94848dadb68170203df5bc1f293a8", func := "scriptorium/scriptoriumlaw3.SqueezeUnpackMatchesSpec", spec := "squeezeUnpackMatchesSpec", inPlace := ["(*sync.WaitGroup).Add", "internal/race.ReleaseMerge", "internal/race.Disable", "internal/race.Enable", "internal/synctest.IsInBubble", "internal/synctest.Associate[sync.WaitGroup]", "sync.fatal", "sync/atomic.OrUint64", "sync/atomic.AddUint64", "internal/race.Read", "sync/atomic.LoadUint64", "sync/atomic.StoreUint64", "internal/synctest.Disassociate[sync.WaitGroup]", "sync.runtime_Semrelease", "(*sync.WaitGroup).Done", "(*sync.WaitGroup).Wait", "internal/race.Acquire", "internal/synctest.IsAssociated[sync.WaitGroup]", "sync/atomic.CompareAndSwapUint64", "internal/race.Write", "sync.runtime_SemacquireWaitGroup"], unfollowed := true, recurses := true, plainKeys := false, leaving := true, apart := false, narrowed := true }
def SqueezeUnpackMatchesSpecUptoSaid : Prop := squeezeUnpackMatchesSpecUptoRow.holds Tryz.pinned (OpenSpec.upto squeezeUnpackMatchesSpecSpec)

/-- 'scriptoriumlaw3.SqueezeRoundTrips', WHERE WHAT IT READS IS OF BULK AT MOST 1048576: true; the input reads as it did. -/
def squeezeRoundTripsUptoRow : OpenClaim := { program := "ytnpcandaehejbaagreat", sum := "8cbc503c41523e8f1bca7f30a5ed84cdbdc94848dadb68170203df5bc1f293a8", func := "scriptorium/scriptoriumlaw3.SqueezeRoundTrips", spec := "squeezeRoundTrips", inPlace := ["(*sync.WaitGroup).Add", "internal/race.ReleaseMerge", "internal/race.Disable", "internal/race.Enable", "internal/synctest.IsInBubble", "internal/synctest.Associate[sync.WaitGroup]", "sync.fatal", "sync/atomic.OrUint64", "sync/atomic.AddUint64", "internal/race.Read", "sync/atomic.LoadUint64", "sync/atomic.StoreUint64", "internal/synctest.Disassociate[sync.WaitGroup]", "sync.runtime_Semrelease", "(*sync.WaitGroup).Done", "(*sync.WaitGroup).Wait", "internal/race.Acquire", "internal/synctest.IsAssociated[sync.WaitGroup]", "sync/atomic.CompareAndSwapUint64", "internal/race.Write", "sync.runtime_SemacquireWaitGroup"], unfollowed := true, recurses := true, plainKeys := false, leaving := true, apart := false, narrowed := true }
def SqueezeRoundTripsUptoSaid : Prop := squeezeRoundTripsUptoRow.holds Tryz.pinned (OpenSpec.upto squeezeRoundTripsSpec)

/-- 'scriptoriumlaw3.SqueezeIsShortest', WHERE WHAT IT READS IS OF BULK AT MOST 1048576: true; the input reads as it did. -/
def squeezeIsShortestUptoRow : OpenClaim := { program := "ytnpcandaehejbaagreat", sum := "8cbc503c41523e8f1bca7f30a5ed84cdbdc94848dadb68170203df5bc1f293a8", func := "scriptorium/scriptoriumlaw3.SqueezeIsShortest", spec := "squeezeIsShortest", inPlace := ["(*sync.WaitGroup).Add", "internal/race.ReleaseMerge", "internal/race.Disable", "internal/race.Enable", "internal/synctest.IsInBubble", "internal/synctest.Associate[sync.WaitGroup]", "sync.fatal", "sync/atomic.OrUint64", "sync/atomic.AddUint64", "internal/race.Read", "sync/atomic.LoadUint64", "sync/atomic.StoreUint64", "internal/synctest.Disassociate[sync.WaitGroup]", "sync.runtime_Semrelease", "(*sync.WaitGroup).Done", "(*sync.WaitGroup).Wait", "internal/race.Acquire", "internal/synctest.IsAssociated[sync.WaitGroup]", "sync/atomic.CompareAndSwapUint64", "internal/race.Write", "sync.runtime_SemacquireWaitGroup"], unfollowed := true, recurses := true, plainKeys := false, leaving := true, apart := false, narrowed := true }
def SqueezeIsShortestUptoSaid : Prop := squeezeIsShortestUptoRow.holds Tryz.pinned (OpenSpec.upto squeezeIsShortestSpec)

/-- 'scriptoriumlaw3.SqueezePacksTogether', WHERE WHAT IT READS IS OF BULK AT MOST 1048576: true; the input reads as it did. -/
def squeezePacksTogetherUptoRow : OpenClaim := { program := "ytnpcandaehejbaagreat", sum := "8cbc503c41523e8f1bca7f30a5ed84cdbdc94848dadb68170203df5bc1f293a8", func := "scriptorium/scriptoriumlaw3.SqueezePacksTogether", spec := "squeezePacksTogether", inPlace := ["(*sync.WaitGroup).Add", "internal/race.ReleaseMerge", "internal/race.Disable", "internal/race.Enable", "internal/synctest.IsInBubble", "internal/synctest.Associate[sync.WaitGroup]", "sync.fatal", "sync/atomic.OrUint64", "sync/atomic.AddUint64", "internal/race.Read", "sync/atomic.LoadUint64", "sync/atomic.StoreUint64", "internal/synctest.Disassociate[sync.WaitGroup]", "sync.runtime_Semrelease", "(*sync.WaitGroup).Done", "(*sync.WaitGroup).Wait", "internal/race.Acquire", "internal/synctest.IsAssociated[sync.WaitGroup]", "sync/atomic.CompareAndSwapUint64", "internal/race.Write", "sync.runtime_SemacquireWaitGroup"], unfollowed := true, recurses := true, plainKeys := false, leaving := true, apart := false, narrowed := true }
def SqueezePacksTogetherUptoSaid : Prop := squeezePacksTogetherUptoRow.holds Tryz.pinned (OpenSpec.upto squeezePacksTogetherSpec)

end Rows
end Go.Proofs.YtnpcandaehejbaaGreat
