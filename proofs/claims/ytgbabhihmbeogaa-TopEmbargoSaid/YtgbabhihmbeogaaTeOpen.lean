/-
  An argument of type api.Report, opened: what the walk is told of it.
-/
import Derived.Test.YtgbabhihmbeogaaBitsOpen
import Derived.Test.YtgbabhihmbeogaaTeLaw
import Derived.Lib.SmallJoins
import Derived.SizedLaws
import Derived.Deep.Slices
import Derived.Deep.Fields
import Derived.ChangeSame
namespace Go.Proofs.Ytgbabhihmbeogaa
open Go.ChangeShapes Go.WideShapes Go.ChangeAt Go.RowKit Go.Deep Go.Joins
set_option linter.unusedVariables false
set_option linter.unusedSimpArgs false
namespace PB
section
variable {H : Type} {enc : TypeId × Value → H} {P : Program} {w : World} {base : Nat} {spare : Nat → Bool} {held : Bool}
theorem open_slice_fields {t e : TypeId} {fs : Array Field} {fuel : Nat} {cs : List Value} {x : DataW H × List MemPlace} (ht : P.underlying t = some (.slice e)) (he : P.underlying e = some (.struct fs))
    (hone : oneCellFields P fs = true) (hC : P.cellsOf e = fs.size) (h : DataW.trod enc P w base spare held fuel t cs = some x) :
    (cs = [.slice none 0 0] ∧ x = (.nil, [])) ∨
    ∃ (a : Addr) (len cap m : Nat) (D : Nat → DataW H) (Pl : Nat → List MemPlace), cs = [.slice (some a) len cap] ∧ base ≤ a.block ∧ len ≤ cap ∧ cap ≤ maxLen ∧ m = (if spare a.block then cap else len) ∧
      x = (.slice ((List.range len).map D) ((List.range (m - len)).map fun j => D (len + j)), MemPlace.row a (m * fs.size) ++ (List.range m).flatMap Pl) ∧
      ∀ i, i < m → ∃ (ys : List (DataW H × List MemPlace)) (n : Nat), D i = .agg (ys.map (·.1)) ∧ Pl i = ys.flatMap (·.2) ∧ ys.length = fs.size ∧
        ∀ (j : Nat) (f : Field), fs[j]? = some f → ∃ (v : Value) (y : DataW H × List MemPlace), w.cell? (a.add (i * fs.size + j)) = some v ∧ ys[j]? = some y ∧ DataW.trod enc P w base spare held n f.type [v] = some y := by
  rcases open_slice ht h with h0 | ⟨a, len, cap, m, n, D, Pl, hcs, hb, hl, hm, hmm, hx, hi⟩
  · exact .inl h0
  · refine .inr ⟨a, len, cap, m, D, Pl, hcs, hb, hl, hm, hmm, by rw [hC] at hx; exact hx, fun i him => ?_⟩
    obtain ⟨cs', hc, ht'⟩ := hi i him
    rw [hC] at hc
    obtain ⟨ys, n', hn', hy, hlen, hyl, hf⟩ := DataW.trod_struct he ht'
    obtain ⟨_, hcl, hat⟩ := World.cells?_some hc
    simp only [Prod.mk.injEq] at hy
    refine ⟨ys, n', hy.1, hy.2, hyl, fun j f hj => ?_⟩
    obtain ⟨ho, hk⟩ := hone_of hone j f hj
    have hjl : j < fs.size := (Array.getElem?_eq_some_iff.1 hj).1
    have hcell := hat j hjl
    have hv : cs'[j]? = some (cs'[j]'(by omega)) := List.getElem?_eq_getElem (by omega)
    have h1 := hf j f hj
    rw [ho, hk] at h1
    have hone' : (cs'.drop j).take 1 = [cs'[j]'(by omega)] := by
      rw [List.drop_eq_getElem_cons (by omega)]
      rfl
    rw [hone'] at h1
    have hys : ys[j]? = some (ys[j]'(by omega)) := List.getElem?_eq_getElem (by omega)
    refine ⟨_, _, ?_, hys, h1.trans hys⟩
    rw [← Go.Deep.add_add, hcell, hv]
end
theorem list_of_ex {α : Type} {p : Nat → α → Prop} : ∀ n, (∀ i, i < n → ∃ x, p i x) → ∃ xs : List α, xs.length = n ∧ ∀ i x, xs[i]? = some x → p i x := by
  intro n
  induction n with
  | zero => intro _; exact ⟨[], rfl, fun i x h => by simp at h⟩
  | succ n ih =>
    intro h
    obtain ⟨xs, h1, h2⟩ := ih fun i hi => h i (by omega)
    obtain ⟨y, hy⟩ := h n (by omega)
    refine ⟨xs ++ [y], by simp [h1], fun i x hx => ?_⟩
    rcases Nat.lt_or_ge i n with hi | hi
    · rw [List.getElem?_append_left (by omega)] at hx
      exact h2 i x hx
    · rw [List.getElem?_append_right (by omega)] at hx
      have : i - xs.length = 0 := by
        rcases Nat.eq_zero_or_pos (i - xs.length) with h | h
        · exact h
        · rw [List.getElem?_eq_none (by simp; omega)] at hx; cases hx
      rw [this] at hx
      obtain rfl : i = n := by omega
      simp at hx
      rw [← hx]; exact hy
def AllOne (l : List Value) : Prop := ∀ v ∈ l, v.oneCell' = true
theorem cell_of_part {cs : List Value} {o : Nat} {v : Value} (h : (cs.drop o).take 1 = [v]) : cs[o]? = some v := by
  have : ((cs.drop o).take 1)[0]? = some v := by rw [h]; rfl
  rw [List.getElem?_take, if_pos (by decide), List.getElem?_drop] at this
  simpa using this
section
variable {H : Type} {enc : TypeId × Value → H} {P : Program} {w : World} {base : Nat} {spare : Nat → Bool} {held : Bool}
/-- A field of a struct that reads. -/
theorem trod_field {t : TypeId} {fs : Array Field} {fuel : Nat} {cs : List Value} {x : DataW H × List MemPlace} (ht : P.underlying t = some (.struct fs)) (h : DataW.trod enc P w base spare held fuel t cs = some x) :
    cs.length = P.cellsOf t ∧ ∃ n, ∀ (i : Nat) (f : Field), fs[i]? = some f → ∀ (ty : TypeId) (off k : Nat), f.type = ty → f.offset = off → P.cellsOf ty = k → ∃ y, DataW.trod enc P w base spare held n ty ((cs.drop off).take k) = some y := by
  obtain ⟨xs, n, _, _, hl, hlen, hf⟩ := DataW.trod_struct ht h
  refine ⟨hl, n, fun i f hi ty off k h1 h2 h3 => ?_⟩
  subst h1 h2 h3
  have hlt : i < xs.length := by rw [hlen]; exact (Array.getElem?_eq_some_iff.1 hi).1
  exact ⟨xs[i], by rw [hf i f hi, List.getElem?_eq_getElem hlt]⟩
theorem allone_struct {t : TypeId} {fs : Array Field} {fuel : Nat} {cs : List Value} {x : DataW H × List MemPlace} (ht : P.underlying t = some (.struct fs)) (h : DataW.trod enc P w base spare held fuel t cs = some x)
    (hcov : ((List.range (P.cellsOf t)).all fun i => fs.any fun f => decide (f.offset ≤ i) && decide (i < f.offset + P.cellsOf f.type)) = true)
    (hf : ∀ f ∈ fs, ∀ n c y, DataW.trod enc P w base spare held n f.type c = some y → AllOne c) : AllOne cs := by
  obtain ⟨hl, n, hfld⟩ := trod_field ht h
  intro v hv
  obtain ⟨i, hi, rfl⟩ := List.getElem_of_mem hv
  have h1 := List.all_eq_true.1 hcov i (by rw [List.mem_range, ← hl]; exact hi)
  obtain ⟨f, hfm, h2⟩ := Array.any_eq_true'.1 h1
  rw [Bool.and_eq_true, decide_eq_true_eq, decide_eq_true_eq] at h2
  obtain ⟨j, hj, hje⟩ := Array.getElem_of_mem hfm
  obtain ⟨y, hy⟩ := hfld j f (by rw [Array.getElem?_eq_getElem hj, hje]) _ _ _ rfl rfl rfl
  refine hf f hfm _ _ _ hy _ ?_
  have : ((cs.drop f.offset).take (P.cellsOf f.type))[i - f.offset]? = some cs[i] := by
    rw [List.getElem?_take, if_pos (by omega), List.getElem?_drop, show f.offset + (i - f.offset) = i by omega, List.getElem?_eq_getElem hi]
  exact List.mem_of_getElem? this
theorem allone_int {t : TypeId} {k : IntKind} (ht : P.underlying t = some (.int k)) {n : Nat} {c : List Value} {y : DataW H × List MemPlace} (h : DataW.trod enc P w base spare held n t c = some y) : AllOne c := by
  obtain ⟨z, rfl, _⟩ := DataW.trod_int ht h
  intro v hv
  obtain rfl := List.mem_singleton.1 hv
  rfl
theorem allone_string {t : TypeId} (ht : P.underlying t = some .string) {n : Nat} {c : List Value} {y : DataW H × List MemPlace} (h : DataW.trod enc P w base spare held n t c = some y) : AllOne c := by
  obtain ⟨z, rfl, _⟩ := DataW.trod_string ht h
  intro v hv
  obtain rfl := List.mem_singleton.1 hv
  rfl
theorem allone_slice {t e : TypeId} (ht : P.underlying t = some (.slice e)) {n : Nat} {c : List Value} {y : DataW H × List MemPlace} (h : DataW.trod enc P w base spare held n t c = some y) : AllOne c := by
  obtain ⟨a, l, q, rfl⟩ := Go.Joins.slice_form ht h
  intro v hv
  obtain rfl := List.mem_singleton.1 hv
  rfl
theorem allone_bool {t : TypeId} (ht : P.underlying t = some .bool) {n : Nat} {c : List Value} {y : DataW H × List MemPlace} (h : DataW.trod enc P w base spare held n t c = some y) : AllOne c := by
  cases n with
  | zero => simp [DataW.trod] at h
  | succ n =>
    unfold DataW.trod at h
    rw [ht] at h
    split at h <;> simp_all
    intro v hv
    obtain rfl := List.mem_singleton.1 hv
    rfl
theorem allone_array {t e : TypeId} {m : Nat} (ht : P.underlying t = some (.array m e)) {k : IntKind} (he : P.underlying e = some (.int k)) (hc : P.cellsOf e = 1) (hm : P.cellsOf t = m) {n : Nat} {c : List Value} {y : DataW H × List MemPlace} (h : DataW.trod enc P w base spare held n t c = some y) : AllOne c := by
  obtain ⟨xs, q, _, _, hl, hlen, hf⟩ := DataW.trod_array ht h
  intro v hv
  obtain ⟨i, hi, rfl⟩ := List.getElem_of_mem hv
  have hfi := hf i (by omega)
  rw [hc, Nat.mul_one, List.getElem?_eq_getElem (by omega)] at hfi
  obtain ⟨z, hz, _⟩ := DataW.trod_int he hfi
  have := cell_of_part hz
  rw [List.getElem?_eq_getElem hi] at this
  injection this with this
  rw [this]
  rfl
theorem cells_range {a : Addr} {n : Nat} {cs : List Value} (h : w.cells? base a n = some cs) : cs.length = n ∧ ∀ j v, cs[j]? = some v → w.cell? (a.add j) = some v := by
  unfold World.cells? at h
  split at h
  · have hl : cs.length = n := by have := mapM_some_length h; simpa using this
    refine ⟨hl, fun j v hj => ?_⟩
    have hjl : j < cs.length := (List.getElem?_eq_some_iff.1 hj).1
    have := mapM_some_get h j j (by rw [List.getElem?_range]; omega)
    rw [this, hj]
  · cases h
end
section
variable {H : Type} {enc : TypeId × Value → H} {w : World} {base : Nat} {spare : Nat → Bool} {held : Bool}
/-- A list of references. -/
theorem open_refs {fuel : Nat} {cs : List Value} {x : DataW H × List MemPlace} (h : DataW.trod enc Try.prog w base spare held fuel 33 cs = some x) :
    ∃ (A : Option Addr) (n c : Nat) (xs : List Rf), cs = [.slice A n c] ∧ RdF w A n c xs ∧ AllRf xs := by
  rcases open_slice_fields Try.underlying33 Try.underlying71 (by kernel_rfl) (by kernel_rfl) h with ⟨hcs, _⟩ | ⟨a, len, cap, m, D, Pl, hcs, _, hl, hm, hmm, _, hfld⟩
  · exact ⟨none, 0, 0, [], hcs, ⟨rfl, Nat.le_refl _, by decide, fun h => absurd h (by omega)⟩, fun x hx => by cases hx⟩
  · have hlm : len ≤ m := by rw [hmm]; split <;> omega
    have hit : ∀ i, i < len → ∃ x : Rf, (w.cell? (a.add (i * 2)) = some (.string x.1) ∧ w.cell? (a.add (i * 2 + 1)) = some (.int .i64 x.2)) ∧ RfOk x := by
      intro i hi
      obtain ⟨ys, k, _, _, _, hcell⟩ := hfld i (by omega)
      obtain ⟨v0, y0, c0, _, t0⟩ := hcell 0 _ rfl
      obtain ⟨v1, y1, c1, _, t1⟩ := hcell 1 _ rfl
      obtain ⟨s0, e0, _, hs0⟩ := DataW.trod_string Try.underlying9 t0
      obtain ⟨z1, e1, _, wz1⟩ := DataW.trod_int Try.underlying3 t1
      cases e0
      cases e1
      exact ⟨⟨s0, z1⟩, ⟨c0, c1⟩, hs0, i64_of_wf wz1⟩
    obtain ⟨xs, h1, h2⟩ := list_of_ex len hit
    refine ⟨some a, len, cap, xs, hcs, ⟨h1, hl, hm, fun h0 => ?_⟩, fun x hx => ?_⟩
    · obtain ⟨x0, hx0⟩ : ∃ x0, xs[0]? = some x0 := ⟨xs[0]'(by omega), List.getElem?_eq_getElem (by omega)⟩
      have h00 := (h2 0 x0 hx0).1.1
      obtain ⟨b, off, spot⟩ := a
      have hspot : spot = none := by simpa [Addr.add] using World.cell?_spot h00
      subst hspot
      have hadd : ∀ k, (⟨b, off, none⟩ : Addr).add k = ⟨b, off + k, none⟩ := by intro k; unfold Addr.add; by_cases hk : k = 0 <;> simp [hk]
      refine ⟨b, off, rfl, ?_, fun i x hx => ?_⟩
      · have := World.block_lt_of_cell? _ _ h00
        simpa [hadd] using this
      · obtain ⟨⟨q1, q2⟩, _⟩ := h2 i x hx
        rw [hadd] at q1 q2
        exact ⟨q1, by rw [Nat.add_assoc]; exact q2⟩
    · obtain ⟨i, hi, rfl⟩ := List.getElem_of_mem hx
      exact (h2 i _ (List.getElem?_eq_getElem hi)).2
/-- A list of texts. -/
theorem open_texts {fuel : Nat} {cs : List Value} {x : DataW H × List MemPlace} (h : DataW.trod enc Try.prog w base spare held fuel 34 cs = some x) :
    ∃ (A : Option Addr) (n c : Nat) (l : List ByteArray), cs = [.slice A n c] ∧ Rd w A n c (xcells l) := by
  rcases open_strings Try.underlying34 Try.underlying9 (by kernel_rfl) h with ⟨hcs, _⟩ | ⟨a, len, cap, ss, hcs, _, hl, hm, hz, _, hcell, hwz⟩
  · exact ⟨none, 0, 0, [], hcs, Reads.nil _ _ none 0 (Nat.zero_le _)⟩
  · have hlz : len ≤ ss.length := by rw [hz]; split <;> omega
    refine ⟨some a, len, cap, ss.take len, hcs, by simp [xcells]; omega, hl, hm, fun h0 => ?_⟩
    obtain ⟨b, off, spot⟩ := a
    have h00 := hcell 0 (by omega)
    have hspot : spot = none := by simpa [Addr.add] using World.cell?_spot h00
    subst hspot
    have hadd : ∀ j, (⟨b, off, none⟩ : Addr).add j = ⟨b, off + j, none⟩ := by
      intro j
      unfold Addr.add
      by_cases hj : j = 0 <;> simp [hj]
    refine ⟨b, off, rfl, ?_, fun j u hu => ?_⟩
    · have := World.block_lt_of_cell? _ _ h00
      simpa [hadd] using this
    · unfold xcells at hu
      rw [List.getElem?_map] at hu
      have hj : j < len := by
        rcases Nat.lt_or_ge j len with h | h
        · exact h
        · rw [List.getElem?_eq_none (by simp; omega)] at hu; simp at hu
      have hcj := hcell j (by omega)
      rw [hadd] at hcj
      rw [hcj]
      rw [List.getElem?_take, if_pos hj] at hu
      rw [List.getElem?_eq_getElem (by omega)] at hu
      simp at hu
      rw [← hu, List.getD_eq_getElem?_getD, List.getElem?_eq_getElem (by omega)]
      rfl
theorem allone_digest {n : Nat} {c : List Value} {y : DataW H × List MemPlace} (h : DataW.trod enc Try.prog w base spare held n 32 c = some y) : AllOne c :=
  allone_array Try.underlying32 Try.underlying5 (by kernel_rfl) (by kernel_rfl) h
theorem allone_man {n : Nat} {c : List Value} {y : DataW H × List MemPlace} (h : DataW.trod enc Try.prog w base spare held n 37 c = some y) : AllOne c := by
  refine allone_struct Try.underlying37 h (by kernel_rfl) ?_
  intro f hf n c y hy
  simp at hf
  rcases hf with rfl | rfl | rfl
  · exact allone_int Try.underlying3 hy
  · exact allone_digest hy
  · exact allone_slice Try.underlying35 hy
theorem allone_ent {n : Nat} {c : List Value} {y : DataW H × List MemPlace} (h : DataW.trod enc Try.prog w base spare held n 39 c = some y) : AllOne c := by
  refine allone_struct Try.underlying39 h (by kernel_rfl) ?_
  intro f hf n c y hy
  simp at hf
  rcases hf with rfl | rfl | rfl | rfl | rfl | rfl | rfl | rfl | rfl | rfl | rfl | rfl
  · exact allone_string Try.underlying9 hy
  · exact allone_int Try.underlying3 hy
  · exact allone_int Try.underlying3 hy
  · exact allone_int Try.underlying3 hy
  · exact allone_int Try.underlying3 hy
  · exact allone_digest hy
  · exact allone_slice Try.underlying33 hy
  · exact allone_slice Try.underlying34 hy
  · exact allone_int Try.underlying3 hy
  · exact allone_int Try.underlying3 hy
  · exact allone_int Try.underlying3 hy
  · exact allone_man hy
/-- An entry. -/
theorem open_entry {fuel : Nat} {cs : List Value} {x : DataW H × List MemPlace} (h : DataW.trod enc Try.prog w base spare held fuel 39 cs = some x) : ∃ e : Ent, e.cs = cs ∧ e.Is w := by
  have hone := allone_ent h
  have ci : Try.prog.cellsOf 3 = 1 := by kernel_rfl
  have cstr : Try.prog.cellsOf 9 = 1 := by kernel_rfl
  have cr : Try.prog.cellsOf 33 = 1 := by kernel_rfl
  have cg : Try.prog.cellsOf 34 = 1 := by kernel_rfl
  have cp : Try.prog.cellsOf 35 = 1 := by kernel_rfl
  have cm : Try.prog.cellsOf 37 = 34 := by kernel_rfl
  have ce : Try.prog.cellsOf 39 = 76 := by kernel_rfl
  obtain ⟨hl, n, hf⟩ := trod_field Try.underlying39 h
  rw [ce] at hl
  obtain ⟨y0, h0⟩ := hf 0 _ rfl 9 0 1 rfl rfl cstr
  obtain ⟨s0, e0, _, hs0⟩ := DataW.trod_string Try.underlying9 h0
  obtain ⟨y1, h1⟩ := hf 1 _ rfl 3 1 1 rfl rfl ci
  obtain ⟨z1, e1, _, w1⟩ := DataW.trod_int Try.underlying3 h1
  obtain ⟨y2, h2⟩ := hf 2 _ rfl 3 2 1 rfl rfl ci
  obtain ⟨z2, e2, _, w2⟩ := DataW.trod_int Try.underlying3 h2
  obtain ⟨y3, h3⟩ := hf 3 _ rfl 3 3 1 rfl rfl ci
  obtain ⟨z3, e3, _, w3⟩ := DataW.trod_int Try.underlying3 h3
  obtain ⟨y4, h4⟩ := hf 4 _ rfl 3 4 1 rfl rfl ci
  obtain ⟨z4, e4, _, w4⟩ := DataW.trod_int Try.underlying3 h4
  obtain ⟨y8, h8⟩ := hf 8 _ rfl 3 39 1 rfl rfl ci
  obtain ⟨z8, e8, _, w8⟩ := DataW.trod_int Try.underlying3 h8
  obtain ⟨y9, h9⟩ := hf 9 _ rfl 3 40 1 rfl rfl ci
  obtain ⟨z9, e9, _, w9⟩ := DataW.trod_int Try.underlying3 h9
  obtain ⟨y10, h10⟩ := hf 10 _ rfl 3 41 1 rfl rfl ci
  obtain ⟨z10, e10, _, w10⟩ := DataW.trod_int Try.underlying3 h10
  obtain ⟨y6, h6⟩ := hf 6 _ rfl 33 37 1 rfl rfl cr
  obtain ⟨A6, n6, c6, x6, e6, r6, a6⟩ := open_refs h6
  obtain ⟨y7, h7⟩ := hf 7 _ rfl 34 38 1 rfl rfl cg
  obtain ⟨A7, n7, c7, l7, e7, r7⟩ := open_texts h7
  obtain ⟨y11, h11⟩ := hf 11 _ rfl 37 42 34 rfl rfl cm
  obtain ⟨hl11, m, hm⟩ := trod_field Try.underlying37 h11
  obtain ⟨u0, k0⟩ := hm 0 _ rfl 3 0 1 rfl rfl ci
  obtain ⟨zs, f0, _, _⟩ := DataW.trod_int Try.underlying3 k0
  obtain ⟨u2, k2⟩ := hm 2 _ rfl 35 33 1 rfl rfl cp
  obtain ⟨A2, n2, c2, f2⟩ := Go.Joins.slice_form Try.underlying35 k2
  have g0 := cell_of_part f0
  have g2 := cell_of_part f2
  rw [List.getElem?_take, if_pos (by decide), List.getElem?_drop] at g0 g2
  refine ⟨⟨cs, s0, z1, z2, z3, z4, A6, n6, c6, x6, A7, n7, c7, l7, z8, z9, z10, zs, A2, n2, c2⟩, rfl, ?_⟩
  exact ⟨hl, hone, cell_of_part e0, cell_of_part e1, cell_of_part e2, cell_of_part e3, cell_of_part e4, cell_of_part e6, cell_of_part e7, cell_of_part e8, cell_of_part e9, cell_of_part e10, g0, g2, r6, r7, a6, i64_of_wf w1, hs0, i64_of_wf w8⟩
/-- A list of results. -/
theorem open_results {fuel : Nat} {cs : List Value} {x : DataW H × List MemPlace} (h : DataW.trod enc Try.prog w base spare held fuel 25 cs = some x) :
    ∃ (A : Option Addr) (n c : Nat) (rs : List (Ent × List Value)), cs = [.slice A n c] ∧ RdS w A n c rs ∧ (n = 0 ∨ ∃ el sp, x.1 = .slice el sp ∧ el.length = n) := by
  have cres : Try.prog.cellsOf 42 = 79 := by kernel_rfl
  have ce : Try.prog.cellsOf 39 = 76 := by kernel_rfl
  rcases open_slice Try.underlying25 h with ⟨hcs, _⟩ | ⟨a, len, cap, m, n, D, Pl, hcs, hb, hl, hm, hmm, hx, hi⟩
  · exact ⟨none, 0, 0, [], hcs, ⟨rfl, Nat.le_refl _, by decide, fun h => absurd h (by omega), fun x hx => by cases hx⟩, .inl rfl⟩
  · have hlm : len ≤ m := by rw [hmm]; split <;> omega
    have hit : ∀ i, i < len → ∃ r : Ent × List Value, (∀ j v, (r.1.cs ++ r.2)[j]? = some v → w.cell? ((a.add (i * 79)).add j) = some v) ∧ r.1.Is w ∧ r.2.length = 3 ∧ ∀ v ∈ r.2, v.oneCell' = true := by
      intro i hil
      obtain ⟨cs', hc, ht⟩ := hi i (by omega)
      rw [cres] at hc
      obtain ⟨hcl, hat⟩ := cells_range hc
      obtain ⟨hlc, q, hf⟩ := trod_field Try.underlying42 ht
      obtain ⟨y0, h0⟩ := hf 0 _ rfl 39 0 76 rfl rfl ce
      obtain ⟨e, he, hie⟩ := open_entry h0
      rw [List.drop_zero] at he
      have hall : AllOne cs' := by
        refine allone_struct Try.underlying42 ht (by kernel_rfl) ?_
        intro f hf n c y hy
        simp at hf
        rcases hf with rfl | rfl | rfl | rfl
        · exact allone_ent hy
        · exact allone_bool Try.underlying4 hy
        · exact allone_slice Try.underlying22 hy
        · exact allone_slice Try.underlying40 hy
      refine ⟨(e, cs'.drop 76), ?_, hie, by rw [List.length_drop, hcl], fun v hv => hall v (List.mem_of_mem_drop hv)⟩
      intro j v hj
      dsimp only at hj
      rw [he, List.take_append_drop] at hj
      exact hat j v hj
    obtain ⟨rs, h1, h2⟩ := list_of_ex len hit
    refine ⟨some a, len, cap, rs, hcs, ⟨h1, hl, hm, fun h0 => ?_, fun r hr => ?_⟩, .inr ⟨_, _, by rw [hx], by simp⟩⟩
    · obtain ⟨x0, hx0⟩ : ∃ x0, rs[0]? = some x0 := ⟨rs[0]'(by omega), List.getElem?_eq_getElem (by omega)⟩
      have h00 := (h2 0 x0 hx0).1 0 _ (by rw [List.getElem?_append_left (by rw [(h2 0 x0 hx0).2.1.len]; decide)]; exact (h2 0 x0 hx0).2.1.c0)
      obtain ⟨b, off, spot⟩ := a
      have hspot : spot = none := by simpa [Addr.add] using World.cell?_spot h00
      subst hspot
      refine ⟨b, off, rfl, ?_, fun i r hr j v hj => ?_⟩
      · have := World.block_lt_of_cell? _ _ h00
        rw [Addr.add_mid, Addr.add_mid] at this
        exact this
      · have := (h2 i r hr).1 j v hj
        rw [Addr.add_mid, Addr.add_mid] at this
        exact this
    · obtain ⟨i, hi, rfl⟩ := List.getElem_of_mem hr
      exact (h2 i _ (List.getElem?_eq_getElem hi)).2
set_option maxRecDepth 100000 in
/-- An argument of type api.Report. -/
theorem open_report {r : Reach} {b0 : Nat} {v : Value} {d : DataW H} {p : List MemPlace} (hv : Value.okWide Try.prog w r b0 27 v) (h : DataW.Trod enc Try.prog w base spare held 27 v d p) :
    ∃ (v0 v1 v2 v3 : Value) (A : Option Addr) (n c : Nat) (rs : List (Ent × List Value)), v = .agg #[v0, v1, v2, v3, .slice A n c] ∧ RdS w A n c rs ∧
      ∃ a0 a1 a2 a3 a4 : DataW H, d = .agg [a0, a1, a2, a3, a4] ∧ (n = 0 ∨ ∃ el sp, a4 = .slice el sp ∧ el.length = n) := by
  obtain ⟨cs, rfl, hsz⟩ := okWide_struct Try.underlying27 hv
  have c5 : Try.prog.cellsOf 27 = 5 := by kernel_rfl
  have cr : Try.prog.cellsOf 25 = 1 := by kernel_rfl
  rw [c5] at hsz
  obtain ⟨fuel, hf⟩ := h
  obtain ⟨xs, n, _, hx, hl, hlen, hfl⟩ := DataW.trod_struct Try.underlying27 hf
  have hfl4 : ∀ f : Field, (∃ y, y = f) → f.type = 25 → f.offset = 4 → DataW.trod enc Try.prog w base spare held n f.type ((cs.toList.drop f.offset).take (Try.prog.cellsOf f.type)) = xs[4]? → DataW.trod enc Try.prog w base spare held n 25 ((cs.toList.drop 4).take 1) = xs[4]? := by
    intro f _ h1 h2 h3
    rw [h1, h2, cr] at h3
    exact h3
  have hlen5 : xs.length = 5 := hlen
  have h4 := hfl4 _ ⟨_, rfl⟩ rfl rfl (hfl 4 _ rfl)
  rw [List.getElem?_eq_getElem (by omega)] at h4
  obtain ⟨A, m, c, rs, e4, hr, hsl⟩ := open_results h4
  have g4 := cell_of_part e4
  obtain ⟨l⟩ := cs
  match l, hsz with
  | [v0, v1, v2, v3, v4], _ =>
    have : v4 = .slice A m c := by simpa using g4
    subst this
    refine ⟨v0, v1, v2, v3, A, m, c, rs, rfl, hr, ?_⟩
    match xs, hlen5 with
    | [y0, y1, y2, y3, y4], _ =>
      simp only [Prod.mk.injEq] at hx
      exact ⟨y0.1, y1.1, y2.1, y3.1, y4.1, hx.1, hsl⟩
/-- The form's own reach: how many results there may be. -/
theorem report_room {a0 a1 a2 a3 a4 : DataW H} {n : Nat} {ds : List (DataW H)} {ts : List TypeId} (hsz : (DataW.weightsEach Try.prog (27 :: ts) (.agg [a0, a1, a2, a3, a4] :: ds)).all (· ≤ reachBytes) = true) (h : n = 0 ∨ ∃ el sp, a4 = .slice el sp ∧ el.length = n) : n * 216 ≤ 140737488355328 := by
  have hb : Try.prog.bytesOf 42 = 272 := by kernel_rfl
  rcases h with rfl | ⟨el, sp, rfl, rfl⟩
  · omega
  · have h2 : (el.length + sp.length) * Try.prog.bytesOf 42 ≤ reachBytes := of_decide_eq_true (List.all_eq_true.1 hsz ((el.length + sp.length) * Try.prog.bytesOf 42) (by simp [DataW.weights, DataW.weightsEach, Try.underlying27, Try.underlying25]))
    rw [hb] at h2
    simp only [reachBytes] at h2
    omega
end
end PB
end Go.Proofs.Ytgbabhihmbeogaa
