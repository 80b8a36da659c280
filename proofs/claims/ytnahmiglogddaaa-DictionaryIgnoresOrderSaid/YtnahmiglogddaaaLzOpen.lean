/-
  Arguments that are slices of bytes, of tokens, opened: what the walks are told of them.
-/
import Derived.Test.YtnahmiglogddaaaBitsOpen
import Derived.Test.YtnahmiglogddaaaBitsOpen2
import Derived.Test.YtnahmiglogddaaaLzTok
namespace Go.Proofs.Ytnahmiglogddaaa
open Go.ChangeShapes Go.WideShapes Go.ChangeAt Go.RowKit Go.Deep
set_option linter.unusedVariables false
set_option linter.unusedSimpArgs false
namespace PB
section
variable {H : Type} {enc : TypeId × Value → H} {w : World} {base : Nat} {spare : Nat → Bool} {held : Bool}
/-- An argument of type []byte. -/
theorem open_bytes {r : Reach} {b0 : Nat} {v : Value} {d : DataW H} {p : List MemPlace} (hv : Value.okWide Try.prog w r b0 23 v) (h : DataW.Trod enc Try.prog w base spare held 23 v d p) :
    ∃ (A : Option Addr) (n c : Nat) (bs : List Nat), v = .slice A n c ∧ Rd w A n c (bcells bs) ∧ ∀ k, bs.getD k 0 < 256 := by
  obtain ⟨fuel, hf⟩ := h
  obtain ⟨A, n, c, rfl⟩ := okWide_slice Try.underlying23 hv
  obtain ⟨A', n', c', zs, e, hr, hw⟩ := rd_of_ints Try.underlying23 Try.underlying5 (by kernel_rfl) ⟨_, _, _, rfl⟩ hf
  obtain ⟨bs, hb, hlt⟩ := bytes_of_wf zs hw
  rw [hb] at hr
  exact ⟨A', n', c', bs, e, hr, hlt⟩
theorem u8_of_wf {x : Int} (h : (Lit.int .u8 x).wf = true) : 0 ≤ x ∧ x ≤ 255 := by
  simp [Lit.wf, IntKind.min, IntKind.max, IntKind.signed, IntKind.bits] at h
  omega
/-- A token of an argument: ints and a byte. -/
def Tok.wf (t : Tok) : Prop := t.lit < 256 ∧ -9223372036854775808 ≤ t.d ∧ t.d ≤ 9223372036854775807 ∧ -9223372036854775808 ≤ t.n ∧ t.n ≤ 9223372036854775807
/-- An argument of type []api.Token. -/
theorem open_toks {r : Reach} {b0 : Nat} {v : Value} {d : DataW H} {p : List MemPlace} (hv : Value.okWide Try.prog w r b0 42 v) (h : DataW.Trod enc Try.prog w base spare held 42 v d p) :
    ∃ (A : Option Addr) (n c : Nat) (xs : List Tok), v = .slice A n c ∧ RdT w A n c xs ∧ ∀ x ∈ xs, x.wf := by
  obtain ⟨fuel, hf⟩ := h
  obtain ⟨A, n, c, rfl⟩ := okWide_slice Try.underlying42 hv
  rcases open_slice_fields Try.underlying42 Try.underlying54 (by kernel_rfl) (by kernel_rfl) hf with ⟨hcs, _⟩ | ⟨a, len, cap, m, D, Pl, hcs, _, hl, hm, hmm, _, hfld⟩
  · cases hcs
    exact ⟨none, 0, 0, [], rfl, ⟨rfl, Nat.le_refl _, by decide, fun h => absurd h (by omega)⟩, by simp⟩
  · cases hcs
    have hlm : n ≤ m := by rw [hmm]; split <;> omega
    have hit : ∀ i, i < n → ∃ x : Tok, (w.cell? (a.add (i * 3)) = some (.int .i64 x.d) ∧ w.cell? (a.add (i * 3 + 1)) = some (.int .i64 x.n) ∧ w.cell? (a.add (i * 3 + 2)) = some (.int .u8 (x.lit : Nat))) ∧ x.wf := by
      intro i hi
      obtain ⟨ys, k, _, _, _, hcell⟩ := hfld i (by omega)
      obtain ⟨v0, y0, c0, _, t0⟩ := hcell 0 _ rfl
      obtain ⟨v1, y1, c1, _, t1⟩ := hcell 1 _ rfl
      obtain ⟨v2, y2, c2, _, t2⟩ := hcell 2 _ rfl
      obtain ⟨z0, e0, _, wz0⟩ := DataW.trod_int Try.underlying3 t0
      obtain ⟨z1, e1, _, wz1⟩ := DataW.trod_int Try.underlying3 t1
      obtain ⟨z2, e2, _, wz2⟩ := DataW.trod_int Try.underlying5 t2
      cases e0
      cases e1
      cases e2
      have h0 := i64_of_wf wz0
      have h1 := i64_of_wf wz1
      have h2 := u8_of_wf wz2
      obtain ⟨z, rfl⟩ := Int.eq_ofNat_of_zero_le h2.1
      exact ⟨⟨z0, z1, z⟩, ⟨c0, c1, c2⟩, (by show z < 256; omega), h0.1, h0.2, h1.1, h1.2⟩
    obtain ⟨xs, h1, h2⟩ := list_of_ex n hit
    refine ⟨some a, n, c, xs, rfl, ⟨h1, hl, hm, fun h0 => ?_⟩, fun x hx => ?_⟩
    · obtain ⟨x0, hx0⟩ : ∃ x0, xs[0]? = some x0 := ⟨xs[0]'(by omega), List.getElem?_eq_getElem (by omega)⟩
      have h00 := (h2 0 x0 hx0).1.1
      obtain ⟨b, off, spot⟩ := a
      have hspot : spot = none := by simpa [Addr.add] using World.cell?_spot h00
      subst hspot
      have hadd : ∀ j, (⟨b, off, none⟩ : Addr).add j = ⟨b, off + j, none⟩ := by
        intro j
        unfold Addr.add
        by_cases hj : j = 0 <;> simp [hj]
      refine ⟨b, off, rfl, ?_, fun i x hx => ?_⟩
      · have := World.block_lt_of_cell? _ _ h00
        simpa [hadd] using this
      · obtain ⟨⟨g1, g2, g3⟩, _⟩ := h2 i x hx
        rw [hadd] at g1 g2 g3
        exact ⟨g1, by rw [Nat.add_assoc]; exact g2, by rw [Nat.add_assoc]; exact g3⟩
    · obtain ⟨i, hi, rfl⟩ := List.mem_iff_getElem.1 hx
      exact (h2 i _ (List.getElem?_eq_getElem hi)).2
end
end PB
end Go.Proofs.Ytnahmiglogddaaa
