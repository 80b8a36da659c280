/-
  For every input the law SqueezePacksTogether returns true: blocks that are packed together have the same forms as alone, and all errors are as specified; each argument reads behind the call as it read before.
-/
import Derived.Test.YtnpcandaehejbaaGreatRows
import Derived.Conc.Beside
import Derived.Conc.CrowdCom2
import Derived.Conc.Own
import Derived.Conc.Events
import Derived.WalkKit
import Derived.Conc.CrowdStepC2
import Derived.Conc.CrowdRun
import Derived.Conc.FxBegin
import Derived.Conc.CompanyDraw
import Derived.KernelRfl
import Derived.Conc.Walk
import Derived.Conc.Own4
import Derived.WalkSpells
import Derived.WalkLawsBesides
import Derived.Laws.BitsAllLaws
import Derived.Lib.Hide
import Derived.Deep.AppendLies
import Derived.RegionTactic
import Derived.BigRegion
import Derived.Maps.AppendAt
import Derived.OwnWalk
import Derived.Deep.RegionHeld3
import Derived.Deep.DrawnRows
import Derived.StillTailTactics
import Derived.BigQuiet
import Derived.Laws.BytesString
import Derived.Laws.Cells
import Derived.Shelf.Strings.Builder1
import Derived.Shelf.Strings.Builder2
import Derived.Shelf.Small.Bits
import Derived.Shelf.Strings.BuilderF
import Derived.Shelf.Strings.BuilderK
import Derived.Shelf.Strings.Builder2Cap
import Derived.Shelf.Strconv.Itoa0
import Derived.Shelf.Strings.Prefix
import Derived.Shelf.Bits.Mul64
import Derived.Shelf.Strings.Repeat
import Derived.Shelf.Strings.BuilderCap
import Derived.Test.YtnpcandaehejbaaGreatProg
import Derived.Lib.ItoaNum
import Derived.Deep.QuietTactic
import Derived.Orders
import Derived.Lib.AppendZerosOnto
import Derived.Deep.Cut
import Derived.Lib.SlBytesConst
import Derived.Lib.OthersKept
import Derived.Maps.OwnSet
import Derived.DeepKeys4
import Derived.Laws.EntriesVeiled
import Derived.Handy
import Derived.Deep.RegionWith
import Derived.Laws.CopyOwn
import Derived.Conc.WgGenN2
import Derived.Conc.WgWords
import Derived.Conc.WgGenN3
import Derived.Conc.CompanyWords
import Derived.Test.YtnpcandaehejbaaGreatChecked
import Derived.Conc.WgLib
import Derived.Deep.RegionHeldLaw
import Derived.Conc.LeavingOf
import Derived.ProofKit
import Derived.OpenShut
import Derived.ShutString
import Derived.ChangeOld
import Derived.Lib.SmallJoins
import Derived.Deep.Slices
import Derived.Deep.Fields
import Derived.ChangeSame
import Derived.HandedShaped
import Derived.Test.YtnpcandaehejbaaGreatSqV13
set_option maxHeartbeats 6400000
set_option maxRecDepth 100000
namespace Go.Proofs.YtnpcandaehejbaaGreat.squeezePacksTogether
open Go.ChangeShapes Go.WideShapes Go.ChangeAt Go.RowKit Go.Proofs.YtnpcandaehejbaaGreat Go.Proofs.YtnpcandaehejbaaGreat.PB
set_option linter.unusedVariables false
set_option linter.unusedSimpArgs false
set_option maxRecDepth 100000 in
theorem lifted (os : Os) (started : os.Started) (H : Type) (enc : TypeId × Value → H) :
    ReturnsInLeavingWide {} Tryz.checked os 7 .any (Rows.squeezePacksTogetherSpec.pre6 enc Tryz.prog Tryz.f7 Rows.squeezePacksTogetherRow.domain false) (Rows.squeezePacksTogetherSpec.post enc Tryz.prog Tryz.f7 false true false false) := by
  refine Cw.leaving_shaped (C := Tryz.checked) Tryz.own started Tryz.func7
    (ChangeSpec.witness6 (enc := enc) (C := Tryz.checked) false ⟨#[], #[.slice none 0 0, .slice none 0 0], []⟩ 8 (by kernel_rfl) (by kernel_rfl) (by kernel_rfl) (by kernel_rfl)) ?_
  intro W base args ds gs before hval0 hW hsh
  have hval : ∀ (j : Nat) t v, Tryz.f7.params[j]? = some t → args[j]? = some v → Value.okWide Tryz.prog W .any base t v := hval0
  have hW' := hW
  obtain ⟨p, q, hA0, hV, rfl, hfz, hnd⟩ := hW
  have hA : DataW.TrodAll enc Tryz.prog W 0 (fun _ => true) true Tryz.f7.params.toList args.toList ds p := hA0
  rw [Tryz.params7] at hA hval
  obtain ⟨v0, vs0, d0, ds0, p0, q0, hargs, rfl, rfl, h0, r0⟩ := trodAll_cons hA
  obtain ⟨v1, vs1, d1, ds1, p1, q1, rfl, rfl, rfl, h1, r1⟩ := trodAll_cons r0
  obtain ⟨rfl, rfl, rfl⟩ := trodAll_nil r1
  obtain rfl : args = #[v0, v1] := by cases args; simp_all
  obtain ⟨rfl, rfl⟩ := trodVars_none hV
  have k0 := h0
  have lt0 : ∀ x ∈ p0, x.block < W.heap.size := by obtain ⟨m, hm⟩ := k0; exact DataW.trod_lt m _ _ _ hm
  have o0 := hval 0 35 v0 rfl rfl
  have s0 := Cw.row_of_list hsh o0
  obtain ⟨A0, n0, c0, xs, rfl, R0, byte0, _, inner0⟩ := open_bss7 o0 h0
  have k1 := h1
  have lt1 : ∀ x ∈ p1, x.block < W.heap.size := by obtain ⟨m, hm⟩ := k1; exact DataW.trod_lt m _ _ _ hm
  have o1 := hval 1 22 v1 rfl rfl
  have s1 := Cw.row_of_arg hsh o1
  obtain ⟨A1, n1, c1, bs1, rfl, R1, lt256_1⟩ := open_bytes o1 h1
  clear hA0 hval0
  have rows : ∀ b, Cw.Rows A0 A1 xs b → Tryz.prog.globals.size ≤ b ∧ ∃ c t f, W.heap[b]? = some (.cells c t f) := by
    rintro b ((⟨a, e, rfl⟩ | ⟨a, e, rfl⟩) | ⟨x, hx, hne, a, e, rfl⟩)
    · subst e
      exact s0 a _ _ rfl
    · subst e
      exact ⟨(s1 a _ _ rfl).1, (s1 a _ _ rfl).2.2⟩
    · obtain ⟨z, hz⟩ := (inner0 x hx a e).resolve_left hne
      exact Cw.u8_high hsh hz
  refine Cw.fin_mono (fun v W' ⟨he, hs⟩ => ?_) (Cw.together_fin (Cw.shaped_low hsh) (fun b hb => (rows b hb).1) (fun b hb => (rows b hb).2) R0 R1 byte0 lt256_1)
  subst he
  have bel := hs.below
  exact ⟨_, _, _, [], _, [], hW', trodAll_mk1 (shut_bool Tryz.underlying4 _), (trodAll_cons_mk (Below.trod Tryz.laidOut (by kernel_rfl) (of_decide_eq_true (by kernel_rfl)) k0 bel lt0) (trodAll_cons_mk (Below.trod Tryz.laidOut (by kernel_rfl) (of_decide_eq_true (by kernel_rfl)) k1 bel lt1) trodAll_mk0)), rfl, bel.frame _, fun h => by cases h⟩

theorem proved : Rows.SqueezePacksTogetherSaid :=
  OpenClaim.holds_of_wide_leaving 7 Tryz.f7 rfl rfl rfl rfl rfl rfl rfl ⟨rfl, rfl, rfl, rfl, rfl⟩ rfl rfl rfl rfl rfl (by kernel_rfl) Tryz.func7 (by kernel_rfl)
    (of_decide_eq_true (by kernel_rfl)) (by unfold Func.isWrapper; first | (rw [if_pos (by decide +kernel)]; kernel_rfl) | (rw [if_neg (by decide +kernel)]; exact ⟨rfl, rfl⟩))
    (fun os started H enc _ => lifted os started H enc)
#print axioms proved
end Go.Proofs.YtnpcandaehejbaaGreat.squeezePacksTogether
