/-
  References (a name and a version): slices of them, their equality, references as keys; slices.Index, slices.Contains of references; catalogue.checkSources: some code for every list, none for the empty list.
-/
import Derived.Test.YtgbabhihmbeogaaTeReader
import Derived.Deep.MidRow
import Derived.Deep.WholeRow
import Derived.Deep.QuietTactic
import Derived.DeepKeys4
import Derived.Maps.OwnSet
namespace Go.Proofs.Ytgbabhihmbeogaa
open Go.RowKit
attribute [local go_sem ↓] Go.wp_at_zero Go.wp_at_succ
set_option linter.unusedVariables false
set_option linter.unusedSimpArgs false
namespace PB
def I6 (x : Int) : Prop := -9223372036854775808 ≤ x ∧ x ≤ 9223372036854775807
abbrev Rf := ByteArray × Int
/-- The value of a reference. -/
def rval (x : Rf) : Value := .agg #[.string x.1, .int .i64 x.2]
def RfOk (x : Rf) : Prop := x.1.size ≤ maxLen ∧ I6 x.2
def AllRf (xs : List Rf) : Prop := ∀ x ∈ xs, RfOk x
/-- A slice of references that can be read. -/
def RdF (w : World) (A : Option Addr) (n c : Nat) (xs : List Rf) : Prop :=
  xs.length = n ∧ n ≤ c ∧ c ≤ maxLen ∧ (0 < n → ∃ b off, A = some ⟨b, off, none⟩ ∧ b < w.heap.size ∧ ∀ i x, xs[i]? = some x →
    w.cell? ⟨b, off + i * 2, none⟩ = some (.string x.1) ∧ w.cell? ⟨b, off + i * 2 + 1, none⟩ = some (.int .i64 x.2))
section
variable {w w' : World} {A : Option Addr} {n c : Nat} {xs : List Rf}
theorem RdF.below {B : Nat} (h : RdF w A n c xs) (hb : Below B w w') (hB : ∀ b off, A = some ⟨b, off, none⟩ → 0 < n → b < B) : RdF w' A n c xs := by
  obtain ⟨h1, h2, h3, h4⟩ := h
  refine ⟨h1, h2, h3, fun hn => ?_⟩
  obtain ⟨b, off, e, hlt, hc⟩ := h4 hn
  have hbB := hB b off e hn
  refine ⟨b, off, e, ?_, fun i x hx => ?_⟩
  · obtain ⟨x, hx⟩ : ∃ x, xs[0]? = some x := ⟨xs[0]'(by omega), List.getElem?_eq_getElem (by omega)⟩
    have := (hb.cell (p := ⟨b, off + 0 * 2, none⟩) hbB).trans (hc 0 x hx).1
    exact World.block_lt_of_cell? _ _ this
  · obtain ⟨q1, q2⟩ := hc i x hx
    exact ⟨(hb.cell (p := ⟨b, off + i * 2, none⟩) hbB).trans q1, (hb.cell (p := ⟨b, off + i * 2 + 1, none⟩) hbB).trans q2⟩
theorem RdF.on (h : RdF w A n c xs) (hb : Below w.heap.size w w') : RdF w' A n c xs :=
  h.below hb (fun b off e hn => by
    obtain ⟨b', off', e', hlt, _⟩ := h.2.2.2 hn
    rw [e] at e'
    injection e' with e'
    injection e' with e1 e2
    omega)
theorem RdF.alloc (h : RdF w A n c xs) (o : Obj) : RdF (w.alloc o) A n c xs := h.on ((Below.refl _ _).alloc (Nat.le_refl _) o)
theorem RdF.drew (h : RdF w A n c xs) : RdF w.drew A n c xs := h
theorem RdF.drewN (h : RdF w A n c xs) (q : Nat) : RdF (w.drewN q) A n c xs := h
theorem RdF.len (h : RdF w A n c xs) : xs.length = n := h.1
theorem RdF.at (h : RdF w A n c xs) (k : Nat) (hk : k < xs.length) : ∃ b off, A = some ⟨b, off, none⟩ ∧ b < w.heap.size ∧
    w.cell? ⟨b, off + k * 2, none⟩ = some (.string xs[k].1) ∧ w.cell? ⟨b, off + k * 2 + 1, none⟩ = some (.int .i64 xs[k].2) := by
  obtain ⟨h1, h2, h3, h4⟩ := h
  obtain ⟨b, off, e, hlt, hc⟩ := h4 (by omega)
  exact ⟨b, off, e, hlt, hc k _ (List.getElem?_eq_getElem hk)⟩
theorem RdF.take (h : RdF w A n c xs) (k : Nat) (hk : k ≤ n) : RdF w A k c (xs.take k) := by
  obtain ⟨h1, h2, h3, h4⟩ := h
  refine ⟨by rw [List.length_take]; omega, by omega, h3, fun h0 => ?_⟩
  obtain ⟨b, off, e, hlt, hc⟩ := h4 (by omega)
  refine ⟨b, off, e, hlt, fun i x hx => hc i x ?_⟩
  rw [List.getElem?_take] at hx
  split at hx
  · exact hx
  · cases hx
end
theorem AllRf.take {xs : List Rf} (h : AllRf xs) (k : Nat) : AllRf (xs.take k) := fun x hx => h x (List.mem_of_mem_take hx)
/-- l[:k]. -/
theorem slice_upto {P : Program} (t e : TypeId) (i : TypeInfo) (ht : P.underlying t = some (.slice e)) (hi : P.info? e = some i) (A : Option Addr) (n c k : Nat) (hk : k ≤ n) (hn : n ≤ c) :
    ∀ W, (Instr.slice t (.slice A n c) none (some (.int .i64 (k : Nat))) none).run P W = .ok (.slice A k c) W := by
  intro W
  have h1 : k ≤ c := by omega
  have e0 : ∀ a : Addr, a.add 0 = a := fun a => by unfold Addr.add; simp
  cases A <;> simp [Instr.slice, Instr.sliceBounds, Instr.sliceBound, asIntOf, run_underlying ht, sizeOf, typeInfo, hi, h1, e0, go_sem]
theorem ref_row : (71 : TypeId) < Try.prog.types.size := of_decide_eq_true (by kernel_rfl)
theorem laid_out : laidOutB Try.prog = true := by kernel_rfl
theorem ref_law : Go.Maps.Keyed Try.prog 71 :=
  Go.Maps.Keyed.of_law (deep_law_laid laid_out (m := 2) (by omega) ref_row (by kernel_rfl) (by kernel_rfl))
theorem ref_cells : Try.prog.cellsOf 71 = 2 := by kernel_rfl
theorem int_cells : Try.prog.cellsOf 3 = 1 := by kernel_rfl
theorem str_cells : Try.prog.cellsOf 9 = 1 := by kernel_rfl
theorem ref_kt : Try.prog.keyType 71 = true := by kernel_rfl
theorem ref_key {x : Rf} (h : RfOk x) : ∃ l, keyOf Try.prog 71 (rval x) = some l := by
  obtain ⟨h0, h1, h2⟩ := h
  have k1 : (Lit.int .i64 x.2).wf = true := WalkArith.wf_i64 (by omega)
  obtain ⟨m, hm⟩ : ∃ m, Try.prog.types.size = m + 1 := ⟨_, Try.types_size⟩
  unfold keyOf
  simp only [Try.underlying71]
  rw [if_pos (by simp [ref_kt, Value.formed, rval, Try.underlying71, ref_cells]), hm]
  unfold Program.keyLits
  simp only [Try.underlying71, rval, Value.cells, ref_cells, int_cells, str_cells]
  simp [Program.keyLits, Try.underlying3, Try.underlying9, int_cells, str_cells, k1, h0]
theorem ref_eql {x y : Rf} (hx : RfOk x) (hy : RfOk y) : ∃ b, ∀ W, (binOp .eql 71 (rval x) (rval y)).run Try.prog W = .ok (.bool b) W := by
  obtain ⟨lx, hlx⟩ := ref_key hx
  obtain ⟨ly, hly⟩ := ref_key hy
  by_cases h : lx = ly
  · refine ⟨true, fun W => ?_⟩
    obtain ⟨r, hr, hrr⟩ := run_equal_deep (P := Try.prog) W (m := 2) (by omega) (k := 71) (by kernel_rfl) (by kernel_rfl) hlx hly
    have e : r = true := hrr.2 h
    simp only [rval] at hr ⊢
    simp [binOp, hr, e, go_sem]
  · refine ⟨false, fun W => ?_⟩
    obtain ⟨r, hr, hrr⟩ := run_equal_deep (P := Try.prog) W (m := 2) (by omega) (k := 71) (by kernel_rfl) (by kernel_rfl) hlx hly
    have e : r = false := by
      cases r
      · rfl
      · exact absurd (hrr.1 rfl) h
    simp only [rval] at hr ⊢
    simp [binOp, hr, e, go_sem]
theorem ref_guard (x y : Rf) (W : World) (o1 o2 : Operand) : (eqGuard .eql 71 o1 o2 (rval x) (rval y)).run Try.prog W = .ok () W :=
  run_eqGuard_agg W .eql 71 o1 o2 _ _ (by kernel_rfl)
set_option maxRecDepth 100000 in
set_option maxHeartbeats 1600000 in
theorem refidx_any {A : Option Addr} {n c : Nat} {xs : List Rf} {w : World} (h : RdF w A n c xs) (hx : AllRf xs) (s : ByteArray) (v : Int) (hv : RfOk (s, v)) :
    Calls Try.prog 44 #[.slice A n c, .agg #[.string s, .int .i64 v]] w fun e w' => ∃ r : Int, e = .returned (.int .i64 r) ∧ Below w.heap.size w w' := by
  have hn := h.len
  have hcap := h.2.1
  have hcm := h.2.2.1
  unfold maxLen at hcm
  subst hn
  have X0 := Two.new w 71 (.string s) (.int .i64 v)
  have R0 := h.alloc (.cells #[.string s, .int .i64 v] 71)
  have Y0 := (Below.refl w.heap.size w).alloc (Nat.le_refl _) (.cells #[.string s, .int .i64 v] 71)
  have HX := Lib.hid hx
  obtain ⟨s0, hs0⟩ : ∃ s0, s0 = w.heap.size := ⟨_, rfl⟩
  rw [← hs0] at X0
  obtain ⟨W, hW⟩ : ∃ W, W = w.alloc (.cells #[.string s, .int .i64 v] 71) := ⟨_, rfl⟩
  rw [← hW] at X0 R0 Y0
  have HR := Lib.hid R0
  have HY := Lib.hid Y0
  have x0 := X0.c0
  have x1 := X0.c1
  clear h hx R0 Y0
  go_enter Try.func44, Try.ntmps44
  go_wp2_with fail
  rw [← hW, ← hs0]
  clear hW X0 hs0
  go_loopw [8] (fun iv wr => ∃ k q : Nat, k ≤ xs.length ∧ iv = .int .i64 (k : Nat) ∧ wr = W.drewN q) (fun iv _ => xs.length - (intOf iv).toNat)
  case atStart => exact ⟨0, 0, Nat.zero_le _, rfl, rfl⟩
  case round =>
    obtain ⟨k, q, hk, rfl, rfl⟩ := hrel
    by_cases hlt : k < xs.length
    · obtain ⟨g, off, rfl, hg, q1, q2⟩ := HR.out.at k hlt
      have hxk := HX.out _ (List.getElem_mem hlt)
      obtain ⟨x, hx⟩ : ∃ x, x = xs[k] := ⟨_, rfl⟩
      rw [← hx] at q1 q2 hxk
      obtain ⟨x1', x2'⟩ := x
      dsimp only at q1 q2 hxk
      obtain ⟨b, hb⟩ := ref_eql (x := (s, v)) (y := (x1', x2')) hv hxk
      have hgd := ref_guard (s, v) (x1', x2')
      simp only [rval] at hb hgd
      have HV := Lib.hid hv
      clear hx hxk hv
      have HRR := HR
      have i1 : (0 : Int) ≤ (k : Int) := by omega
      have i2 : (k : Int) < (xs.length : Int) := by omega
      cases b
      · go_upto_region 4 with (fail)
        go_quiet (fail)
        go_wp2_with fail
        go_roundw
        case rel => exact ⟨k + 1, _, by omega, by go_num, rfl⟩
        case measure => simp [intOf] <;> omega
      · go_upto_region 4 with (fail)
        go_quiet (fail)
        go_wp2_with fail
        go_ret
        exact ⟨_, rfl, belowN (belowN HY.out _) _⟩
    · obtain rfl : k = xs.length := by omega
      go_wp2_with fail
      go_ret
      exact ⟨_, rfl, belowN HY.out _⟩
set_option maxRecDepth 100000 in
set_option maxHeartbeats 1600000 in
theorem refhas_any {A : Option Addr} {n c : Nat} {xs : List Rf} {w : World} (h : RdF w A n c xs) (hx : AllRf xs) (s : ByteArray) (v : Int) (hv : RfOk (s, v)) :
    Calls Try.prog 39 #[.slice A n c, .agg #[.string s, .int .i64 v]] w fun e w' => ∃ b : Bool, e = .returned (.bool b) ∧ Below w.heap.size w w' := by
  have X0 := Two.new w 71 (.string s) (.int .i64 v)
  have R0 := h.alloc (.cells #[.string s, .int .i64 v] 71)
  have Y0 := (Below.refl w.heap.size w).alloc (Nat.le_refl _) (.cells #[.string s, .int .i64 v] 71)
  have HC := Lib.hid (refidx_any R0 hx s v hv)
  have x0 := X0.c0
  have x1 := X0.c1
  have HY := Lib.hid Y0
  clear h hx hv X0 R0 Y0
  go_enter Try.func39, Try.ntmps39
  go_wp2_with fail
  refine HC.out.mono ?_
  rintro e w1 ⟨r, rfl, y1⟩
  have Y1 := HY.out.trans (y1.mono HY.out.size)
  clear y1
  go_wp2
  go_ret
  exact ⟨_, rfl, Y1⟩
set_option maxRecDepth 100000 in
set_option maxHeartbeats 1600000 in
theorem sources_any {A : Option Addr} {n c : Nat} {xs : List Rf} {w : World} (h : RdF w A n c xs) (hx : AllRf xs) :
    Calls Try.prog 29 #[.slice A n c] w fun e w' => ∃ code : Int, (n = 0 → code = 0) ∧ e = .returned (.int .i64 code) ∧ Below w.heap.size w w' := by
  have hn := h.len
  have hcap := h.2.1
  have hcm := h.2.2.1
  unfold maxLen at hcm
  subst hn
  have HR := Lib.hid h
  have HX := Lib.hid hx
  obtain ⟨ti, hti⟩ : ∃ ti, Try.prog.info? 71 = some ti := ⟨_, rfl⟩
  have HS := Lib.hid (fun A n c k h1 h2 => slice_upto (P := Try.prog) 33 71 ti Try.underlying33 hti A n c k h1 h2)
  clear hti
  clear h hx
  go_enter Try.func29, Try.ntmps29
  go_wp2_with fail
  go_loopw [7] (fun iv wr => ∃ k : Nat, k ≤ xs.length ∧ iv = .int .i64 (k : Nat) ∧ Below w.heap.size w wr) (fun iv _ => xs.length - (intOf iv).toNat)
  case atStart => exact ⟨0, Nat.zero_le _, rfl, Below.refl _ _⟩
  case round =>
    obtain ⟨k, hk, rfl, yr⟩ := hrel
    by_cases hlt : k < xs.length
    · have hRr := HR.out.on yr
      obtain ⟨g, off, rfl, hg, q1, q2⟩ := hRr.at k hlt
      have hxk := HX.out _ (List.getElem_mem hlt)
      obtain ⟨x, hx⟩ : ∃ x, x = xs[k] := ⟨_, rfl⟩
      rw [← hx] at q1 q2 hxk
      obtain ⟨s, v⟩ := x
      dsimp only at q1 q2
      have X0 := Two.new wr 71 (.string s) (.int .i64 v)
      have R0 := hRr.alloc (.cells #[.string s, .int .i64 v] 71)
      have Y0 := yr.alloc yr.size (.cells #[.string s, .int .i64 v] 71)
      have HNM := Lib.hid (name_any s (wr.alloc (.cells #[.string s, .int .i64 v] 71)) (nameb s) rfl)
      obtain ⟨nb, hnb⟩ : ∃ nb, nb = nameb s := ⟨_, rfl⟩
      rw [← hnb] at HNM
      have HXK := Lib.hid hxk
      have HR0 := Lib.hid R0
      have HX0 := Lib.hid X0
      have HY0 := Lib.hid Y0
      have x0 := X0.c0
      have x1 := X0.c1
      have i1 : (0 : Int) ≤ (k : Int) := by omega
      have i2 : (k : Int) < (xs.length : Int) := by omega
      clear hx hxk hnb X0 R0 Y0 hRr yr
      go_wp2_with fail
      refine HNM.out.mono ?_
      rintro e w5 ⟨rfl, y5⟩
      have HX5 := Lib.hid (HX0.out.on y5)
      have HY5 := Lib.hid (HY0.out.trans (y5.mono HY0.out.size))
      have HR5 := Lib.hid (HR0.out.on y5)
      have x5 := HX5.out.c0
      have x6 := HX5.out.c1
      clear y5 x0 x1 q1 q2
      cases nb
      · go_wp2
        go_ret
        exact ⟨7, (fun h => by omega), rfl, HY5.out⟩
      · have HIN := Lib.hid (cin_any v 1 9999 _ rfl w5)
        obtain ⟨q, hq⟩ : ∃ q, q = decide (1 ≤ v ∧ v ≤ 9999) := ⟨_, rfl⟩
        rw [← hq] at HIN
        clear hq
        go_wp2_with fail
        refine HIN.out.mono ?_
        rintro e w6 ⟨rfl, rfl⟩
        cases q
        · go_wp2
          go_ret
          exact ⟨4, (fun h => by omega), rfl, HY5.out⟩
        · have hsl := HS.out (some ⟨g, off, none⟩) xs.length c k (by omega) hcap
          have HCT := Lib.hid (refhas_any ((HR5.out.take k (by omega)).drew) (HX.out.take k) s v HXK.out)
          go_upto_region 8 with (fail)
          go_still_tail 4, (by kernel_rfl)
          change wpList _ _ _ _ _ w6.drew
          go_wp2_with (go_at_call 39; refine HCT.out.mono ?_; rintro e w7 ⟨b, rfl, y7⟩; have Y7 := Lib.hid ((belowD HY5.out).trans (y7.mono (belowD HY5.out).size)); clear y7; cases b)
          · go_roundw
            case rel => exact ⟨k + 1, by omega, by go_num, Y7.out⟩
            case measure => simp [intOf] <;> omega
          · go_ret
            exact ⟨8, (fun h => by omega), rfl, Y7.out⟩
    · obtain rfl : k = xs.length := by omega
      go_wp2_with fail
      go_ret
      exact ⟨0, fun _ => rfl, rfl, yr⟩
end PB
end Go.Proofs.Ytgbabhihmbeogaa
