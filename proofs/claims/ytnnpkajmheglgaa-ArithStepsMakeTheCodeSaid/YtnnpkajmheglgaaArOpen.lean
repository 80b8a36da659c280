/-
  Arguments that are states of a coder, of a decoder, slices of choices, slices of ints, opened: what the walks are told of them.
-/
import Derived.Test.YtnnpkajmheglgaaBitsOpen
import Derived.Test.YtnnpkajmheglgaaBitsOpen2
import Derived.Test.YtnnpkajmheglgaaArCho
import Derived.Lib.SmallJoins
namespace Go.Proofs.Ytnnpkajmheglgaa
open Go.ChangeShapes Go.WideShapes Go.ChangeAt Go.RowKit Go.Deep Go.Joins
set_option linter.unusedVariables false
set_option linter.unusedSimpArgs false
namespace PB
section
variable {H : Type} {enc : TypeId × Value → H} {w : World} {base : Nat} {spare : Nat → Bool} {held : Bool}
def I64 (x : Int) : Prop := -9223372036854775808 ≤ x ∧ x ≤ 9223372036854775807
set_option maxRecDepth 100000 in
/-- An argument of type api.Coder. -/
theorem open_coder {r : Reach} {b0 : Nat} {v : Value} {d : DataW H} {p : List MemPlace} (hv : Value.okWide Try.prog w r b0 50 v) (h : DataW.Trod enc Try.prog w base spare held 50 v d p) :
    ∃ lo hi q : Int, v = .agg #[.int .i64 lo, .int .i64 hi, .int .i64 q] ∧ I64 lo ∧ I64 hi ∧ I64 q := by
  obtain ⟨c0, c1, c2, y0, y1, y2, m, rfl, _, _, t0, t1, t2⟩ := open_agg3 Try.underlying50 (by kernel_rfl) (by kernel_rfl) hv h
  obtain ⟨z0, e0, _, wz0⟩ := DataW.trod_int Try.underlying3 t0
  obtain ⟨z1, e1, _, wz1⟩ := DataW.trod_int Try.underlying3 t1
  obtain ⟨z2, e2, _, wz2⟩ := DataW.trod_int Try.underlying3 t2
  simp at e0 e1 e2
  subst e0 e1 e2
  exact ⟨z0, z1, z2, rfl, i64_of_wf wz0, i64_of_wf wz1, i64_of_wf wz2⟩
set_option maxRecDepth 100000 in
/-- An argument of type api.Decoder. -/
theorem open_decoder {r : Reach} {b0 : Nat} {v : Value} {d : DataW H} {p : List MemPlace} (hv : Value.okWide Try.prog w r b0 62 v) (h : DataW.Trod enc Try.prog w base spare held 62 v d p) :
    ∃ lo hi V t : Int, v = .agg #[.int .i64 lo, .int .i64 hi, .int .i64 V, .int .i64 t] ∧ I64 lo ∧ I64 hi ∧ I64 V ∧ I64 t := by
  obtain ⟨c0, c1, c2, c3, y0, y1, y2, y3, m, rfl, _, _, t0, t1, t2, t3⟩ := open_agg4 Try.underlying62 (by kernel_rfl) (by kernel_rfl) hv h
  obtain ⟨z0, e0, _, wz0⟩ := DataW.trod_int Try.underlying3 t0
  obtain ⟨z1, e1, _, wz1⟩ := DataW.trod_int Try.underlying3 t1
  obtain ⟨z2, e2, _, wz2⟩ := DataW.trod_int Try.underlying3 t2
  obtain ⟨z3, e3, _, wz3⟩ := DataW.trod_int Try.underlying3 t3
  simp at e0 e1 e2 e3
  subst e0 e1 e2 e3
  exact ⟨z0, z1, z2, z3, rfl, i64_of_wf wz0, i64_of_wf wz1, i64_of_wf wz2, i64_of_wf wz3⟩
set_option maxRecDepth 100000 in
/-- An argument of type []int. -/
theorem open_intl {r : Reach} {b0 : Nat} {v : Value} {d : DataW H} {p : List MemPlace} (hv : Value.okWide Try.prog w r b0 34 v) (h : DataW.Trod enc Try.prog w base spare held 34 v d p) :
    ∃ (A : Option Addr) (n c : Nat) (zs : List Int), v = .slice A n c ∧ Rd w A n c (icells zs) ∧ ∀ z ∈ zs, I64 z := by
  obtain ⟨fuel, hf⟩ := h
  obtain ⟨A, n, c, rfl⟩ := okWide_slice Try.underlying34 hv
  obtain ⟨A', n', c', zs, e, hr, hw⟩ := rd_of_ints Try.underlying34 Try.underlying3 (by kernel_rfl) ⟨_, _, _, rfl⟩ hf
  exact ⟨A', n', c', zs, e, hr, fun z hz => i64_of_wf (hw z hz)⟩
def Cho.wf (x : Cho) : Prop := I64 x.b ∧ I64 x.p
set_option maxRecDepth 100000 in
/-- An argument of type []api.Choice. -/
theorem open_choices {r : Reach} {b0 : Nat} {v : Value} {d : DataW H} {p : List MemPlace} (hv : Value.okWide Try.prog w r b0 22 v) (h : DataW.Trod enc Try.prog w base spare held 22 v d p) :
    ∃ (A : Option Addr) (n c : Nat) (xs : List Cho), v = .slice A n c ∧ RdC w A n c xs ∧ ∀ x ∈ xs, x.wf := by
  obtain ⟨fuel, hf⟩ := h
  obtain ⟨A, n, c, rfl⟩ := okWide_slice Try.underlying22 hv
  rcases open_slice_fields Try.underlying22 Try.underlying48 (by kernel_rfl) (by kernel_rfl) hf with ⟨hcs, _⟩ | ⟨a, len, cap, m, D, Pl, hcs, _, hl, hm, hmm, _, hfld⟩
  · cases hcs
    exact ⟨none, 0, 0, [], rfl, ⟨rfl, Nat.le_refl _, by decide, fun h => absurd h (by omega)⟩, by simp⟩
  · cases hcs
    have hlm : n ≤ m := by rw [hmm]; split <;> omega
    have hit : ∀ i, i < n → ∃ x : Cho, (w.cell? (a.add (i * 2)) = some (.int .i64 x.b) ∧ w.cell? (a.add (i * 2 + 1)) = some (.int .i64 x.p)) ∧ x.wf := by
      intro i hi
      obtain ⟨ys, k, _, _, _, hcell⟩ := hfld i (by omega)
      obtain ⟨v0, y0, c0, _, t0⟩ := hcell 0 _ rfl
      obtain ⟨v1, y1, c1, _, t1⟩ := hcell 1 _ rfl
      obtain ⟨z0, e0, _, wz0⟩ := DataW.trod_int Try.underlying3 t0
      obtain ⟨z1, e1, _, wz1⟩ := DataW.trod_int Try.underlying3 t1
      cases e0
      cases e1
      exact ⟨⟨z0, z1⟩, ⟨c0, c1⟩, i64_of_wf wz0, i64_of_wf wz1⟩
    obtain ⟨xs, h1, h2⟩ := list_of_ex n hit
    refine ⟨some a, n, c, xs, rfl, ⟨h1, hl, hm, fun h0 => ?_⟩, fun x hx => ?_⟩
    · obtain ⟨x0, hx0⟩ : ∃ x0, xs[0]? = some x0 := ⟨xs[0]'(by omega), List.getElem?_eq_getElem (by omega)⟩
      have h00 := (h2 0 x0 hx0).1.1
      obtain ⟨b, off, spot⟩ := a
      have hspot : spot = none := by simpa [Addr.add] using World.cell?_spot h00
      subst hspot
      have hadd : ∀ k, (⟨b, off, none⟩ : Addr).add k = ⟨b, off + k, none⟩ := by intro k; unfold Addr.add; by_cases hk : k = 0 <;> simp [hk]
      refine ⟨b, off, rfl, ?_, fun i x hx => ?_⟩
      · have := World.block_lt_of_cell? _ _ h00
        simpa [hadd] using this
      · obtain ⟨⟨q1, q2⟩, _⟩ := h2 i x hx
        rw [hadd] at q1 q2
        exact ⟨q1, by rw [Nat.add_assoc]; exact q2⟩
    · obtain ⟨i, hi, rfl⟩ := List.getElem_of_mem hx
      exact (h2 i _ (List.getElem?_eq_getElem hi)).2
end
end PB
end Go.Proofs.Ytnnpkajmheglgaa
