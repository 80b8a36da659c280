/-
  An argument of type api.Vector, opened: what the walks are told of it.
-/
import Derived.Test.YtckimocmppdecaaRows
import Derived.Test.YtckimocmppdecaaRankMem
import Derived.Test.YtckimocmppdecaaBitsOpen
import Derived.Deep.Strs
import Derived.ChangeSame
namespace Go.Proofs.Ytckimocmppdecaa
open Go.ChangeShapes Go.WideShapes Go.ChangeAt Go.RowKit Go.Deep
set_option linter.unusedVariables false
set_option linter.unusedSimpArgs false
namespace PB
section
variable {H : Type} {enc : TypeId × Value → H} {w : World} {base : Nat} {spare : Nat → Bool} {held : Bool}
theorem arr3 {cs : Array Value} (h : cs.size = 3) : ∃ a b c, cs = #[a, b, c] := by
  obtain ⟨l⟩ := cs
  match l, h with
  | [a, b, c], _ => exact ⟨a, b, c, rfl⟩
/-- An argument of type api.Vector. -/
theorem open_vector {r : Reach} {b0 : Nat} {v : Value} {d : DataW H} {p : List MemPlace} (hv : Value.okWide Try.prog w r b0 27 v) (h : DataW.Trod enc Try.prog w base spare held 27 v d p) :
    ∃ (A : Option Addr) (n c : Nat) (bs : List Nat) (cnt : Int) (A2 : Option Addr) (n2 c2 : Nat) (zs : List Int), v = .agg #[.slice A n c, .int .i64 cnt, .slice A2 n2 c2] ∧ Rd w A n c (bcells bs) ∧ Rd w A2 n2 c2 (icells zs) ∧ (∀ k, bs.getD k 0 < 256) ∧ -9223372036854775808 ≤ cnt ∧ cnt ≤ 9223372036854775807 := by
  obtain ⟨cs, rfl, hsz⟩ := okWide_struct Try.underlying27 hv
  obtain ⟨v0, v1, v2, rfl⟩ := arr3 (hsz.trans (by kernel_rfl))
  obtain ⟨fuel, hf⟩ := h
  obtain ⟨ya, y2, n, hx, _, ta, t2⟩ := trod_struct2 Try.underlying27 hf
  have ta' : DataW.trod enc Try.prog w base spare held n 24 [v0, v1] = some ya := ta
  have t2' : DataW.trod enc Try.prog w base spare held n 25 [v2] = some y2 := t2
  obtain ⟨y0, y1, m, _, _, t0, t1⟩ := trod_struct2 Try.underlying24 ta'
  have t0' : DataW.trod enc Try.prog w base spare held m 22 [v0] = some y0 := t0
  have t1' : DataW.trod enc Try.prog w base spare held m 3 [v1] = some y1 := t1
  obtain ⟨z, e1, _, wz⟩ := DataW.trod_int Try.underlying3 t1'
  cases e1
  obtain ⟨A, n, c, zs, rfl, hr, hw⟩ := rd_of_ints Try.underlying22 Try.underlying5 (by kernel_rfl) (by
    rcases DataW.trod_slice Try.underlying22 t0' with ⟨hcs, _⟩ | ⟨a, len, cap, elems, rest, n, _, hcs, _⟩
    · cases hcs; exact ⟨_, _, _, rfl⟩
    · cases hcs; exact ⟨_, _, _, rfl⟩) t0'
  obtain ⟨A2, n2, c2, zs2, rfl, hr2, hw2⟩ := rd_of_ints Try.underlying25 Try.underlying3 (by kernel_rfl) (by
    rcases DataW.trod_slice Try.underlying25 t2' with ⟨hcs, _⟩ | ⟨a, len, cap, elems, rest, n, _, hcs, _⟩
    · cases hcs; exact ⟨_, _, _, rfl⟩
    · cases hcs; exact ⟨_, _, _, rfl⟩) t2'
  obtain ⟨bs, hb, hlt⟩ := bytes_of_wf zs hw
  rw [hb] at hr
  have := i64_of_wf wz
  exact ⟨A, n, c, bs, z, A2, n2, c2, zs2, rfl, hr, hr2, hlt, this.1, this.2⟩
end
end PB
end Go.Proofs.Ytckimocmppdecaa
