/-
  catalogue.reference, catalogue.positions; loads and stores of whole entries in the walks.
-/
import Derived.Test.YtgbabhihmbeogaaTeEntry
import Derived.StillTailTactics
namespace Go.Proofs.Ytgbabhihmbeogaa
open Go.RowKit
attribute [local go_sem ↓] Go.wp_at_zero Go.wp_at_succ
set_option linter.unusedVariables false
set_option linter.unusedSimpArgs false
namespace PB
/-- A load whose run is known, in a region that draws its order. -/
theorem wpStill_load {P : Program} {ops : Array Oper} {w : World} {Q : Act → Prop} {a : Act} {o : Oper} {rest : List Oper} (hg : o.guard = none) (ty : TypeId) (x : Operand) (ho : o.op = .load ty x) {p v : Value} (hx : a.eval x = p)
    (hr : (Instr.loadAt ty p).run P w = .ok v w) (h : wpStill P ops w Q rest (a.put o.dst v)) : wpStill P ops w Q (o :: rest) a := by
  refine wpStill_step (fun K hK => ?_)
  simp only [Region.wanted, hg, if_true]
  unfold Oper.still execOp
  simp only [ho, hx, Sem.run_bind, Sem.run_pure, hr, Result.andThen_ok]
  exact ⟨rfl, hK _ h⟩
/-- A whole entry into a variable just made, as the walk meets it. -/
theorem ent_scells (w : World) {Z : Array Value} (hZ : Z.size = 76) {cs : List Value} (hl : cs.length = 76) (h1 : ∀ v ∈ cs, v.oneCell' = true) :
    (storeCells ⟨w.heap.size, 0, none⟩ cs.toArray.toList 0).run Try.prog (w.alloc (.cells Z 39)) = .ok () (w.alloc (.cells cs.toArray 39)) :=
  run_storeCells_new w _ Z cs.toArray (by rw [ent_size]; simp [hl]) (by simp [hZ, hl]) (all_oneCell_toArray h1)
set_option maxRecDepth 100000 in
set_option maxHeartbeats 800000 in
theorem ref_any {e : Ent} {w : World} (he : e.Is w) :
    Calls Try.prog 33 #[.agg e.cs.toArray] w fun r w' => r = .returned (.agg #[.string e.name, .int .i64 e.ver]) ∧ Below w.heap.size w w' := by
  have S0 := (Blk.new w 39 e.cs.toArray).alloc (.cells #[.string ⟨#[]⟩, .int .i64 0] 71)
  have M0 := Two.new1 w (.cells e.cs.toArray 39) 71 (.string ⟨#[]⟩) (.int .i64 0)
  have Y0 := ((Below.refl w.heap.size w).alloc (Nat.le_refl _) (.cells e.cs.toArray 39)).alloc (by simp) (.cells #[.string ⟨#[]⟩, .int .i64 0] 71)
  have p0 := S0.lcell 0 he.c0
  have p1 := S0.lcell 1 he.c1
  have hl := he.len
  obtain ⟨xs, hxs⟩ : ∃ xs, xs = e.cs.toArray := ⟨_, rfl⟩
  have hsz : xs.size = 76 := by rw [hxs]; simpa using hl
  rw [← hxs] at p0 p1 M0 Y0 ⊢
  clear hxs S0 he hl
  have m0 := M0.c0
  have m1 := M0.c1
  have m2 := M0.f0
  have m3 := M0.f1
  go_enter Try.func33, Try.ntmps33
  go_wp2_with fail
  have N := Two.new1 w (.cells xs 39) 71 (.string e.name) (.int .i64 e.ver)
  have r0 := N.c0
  have r1 := N.c1
  refine bodyPost_ret (v := .agg #[.string e.name, .int .i64 e.ver]) (by simp [results, Try.results33, go_sem, r0, r1]) rfl ⟨rfl, ?_⟩
  exact ((Below.refl w.heap.size w).alloc (Nat.le_refl _) (.cells xs 39)).alloc (by simp) _
/-- Block b is a map from references to numbers, of at most n entries. -/
def PM (w : World) (b n : Nat) : Prop := ∃ D : DataW Unit, w.ownsMap Try.prog 71 (plainElem Try.prog 3) b n D
section
variable {w w' : World} {b n : Nat}
theorem PM.made (w : World) : PM (w.alloc (.map #[] 0)) w.heap.size 0 := ⟨_, World.ownsMap_made _ _ _ _⟩
theorem PM.lt (h : PM w b n) : b < w.heap.size := by obtain ⟨D, h⟩ := h; exact h.lt
theorem PM.below {B : Nat} (h : PM w b n) (hb : Below B w w') (hg : b < B) : PM w' b n := by
  obtain ⟨D, es, clock, h1, h2⟩ := h
  exact ⟨D, es, clock, (hb.block b hg).trans h1, h2⟩
theorem PM.on (h : PM w b n) (hb : Below w.heap.size w w') : PM w' b n := h.below hb h.lt
theorem PM.alloc (h : PM w b n) (o : Obj) : PM (w.alloc o) b n := h.on ((Below.refl _ _).alloc (Nat.le_refl _) o)
end
theorem zero_int (w : World) : (zeroValue 3).run Try.prog w = .ok (.int .i64 0) w := by kernel_rfl
/-- v, ok := m[k]. -/
theorem PM.look {w : World} {b n : Nat} (h : PM w b n) {k : Rf} (hk : RfOk k) : ∃ (c : Int) (ok : Bool), ∀ W, w.heap = W.heap → (Instr.lookup 68 (.map (some b)) (.agg #[.string k.1, .int .i64 k.2]) true).run Try.prog W = .ok (.tuple #[.int .i64 c, .bool ok]) W := by
  obtain ⟨D, h⟩ := h
  obtain ⟨l, hl⟩ := ref_key hk
  have key : ∀ W : World, w.heap = W.heap → ∃ v ps, (Instr.lookup 68 (.map (some b)) (rval k) true).run Try.prog W = .ok (.tuple #[v, .bool (Maps.has D l)]) W ∧ plainElem Try.prog 3 v = some (D.atKey l (.lit (.int .i64 0)), ps) := by
    intro W hW
    have hD : W.ownsMap Try.prog 71 (plainElem Try.prog 3) b n D := by
      obtain ⟨es, clock, h1, h2⟩ := h
      exact ⟨es, clock, by rw [← hW]; exact h1, h2⟩
    exact hD.look_ok ref_law Try.underlying68 (zero_int W) (plainElem_int Try.underlying3 (by decide)) hl
  obtain ⟨v, ps, h1, h2⟩ := key w rfl
  obtain ⟨c, rfl, hc, _⟩ := plainElem_int_inv Try.underlying3 h2
  refine ⟨c, Maps.has D l, fun W hW => ?_⟩
  obtain ⟨v, ps', h3, h4⟩ := key W hW
  obtain ⟨c', rfl, hc', _⟩ := plainElem_int_inv Try.underlying3 h4
  have e1 := congrArg Prod.fst hc
  have e2 := congrArg Prod.fst hc'
  simp only at e1 e2
  rw [e1] at e2
  injection e2 with e2
  injection e2 with _ e2
  subst e2
  exact h3
/-- m[k] = v. -/
theorem PM.store {w : World} {b n : Nat} (h : PM w b n) {k : Rf} (hk : RfOk k) (hn : n < maxLen) {z : Int} (hz : (Lit.int .i64 z).wf = true) :
    ∃ w', (Instr.mapUpdate 68 (.map (some b)) (.agg #[.string k.1, .int .i64 k.2]) (.int .i64 z)).run Try.prog w = .ok () w' ∧ PM w' b (n + 1) ∧ w.grownBy w' (some b) := by
  obtain ⟨D, h⟩ := h
  obtain ⟨l, hl⟩ := ref_key hk
  obtain ⟨w', h1, h2, h3⟩ := h.update ref_law Try.underlying68 hn hl (plainElem_int Try.underlying3 hz)
  exact ⟨w', h1, ⟨_, h2⟩, h3⟩
set_option maxRecDepth 100000 in
set_option maxHeartbeats 1600000 in
theorem positions_any {A : Option Addr} {n c : Nat} {es : List Ent} {w : World} (h : RdE w A n c es) (hn60 : n ≤ 60) :
    Calls Try.prog 22 #[.slice A n c] w fun r w' => ∃ b m : Nat, PM w' b m ∧ r = .returned (.map (some b)) ∧ Below w.heap.size w w' := by
  have hn := h.len
  have hcap := h.2.1
  have hcm := h.2.2.1
  unfold maxLen at hcm
  subst hn
  have HR := Lib.hid h
  have P0 := PM.made w
  have Y0 := (Below.refl w.heap.size w).alloc (Nat.le_refl _) (.map #[] 0)
  clear h
  obtain ⟨Z, hZ, hz⟩ := ent_zero
  have hmm := @run_makeMap Try.prog
  go_enter Try.func22, Try.ntmps22
  go_wp2_with fail
  obtain ⟨b, hb⟩ : ∃ b, b = w.heap.size := ⟨_, rfl⟩
  rw [← hb] at P0 ⊢
  have HB := Lib.hid hb
  clear hb
  go_loopw [9] (fun iv wr => ∃ k : Nat, k ≤ es.length ∧ iv = .int .i64 (k : Nat) ∧ PM wr b k ∧ Below w.heap.size w wr) (fun iv _ => es.length - (intOf iv).toNat)
  case atStart => exact ⟨0, Nat.zero_le _, rfl, P0, Y0⟩
  case round =>
    obtain ⟨k, hk, rfl, pr, yr⟩ := hrel
    by_cases hlt : k < es.length
    · have hRr := HR.out.on yr
      have hx := hRr.is k hlt
      obtain ⟨g, off, rfl, hg, q1⟩ := hRr.at k hlt
      have HLD := Lib.hid (ent_load q1 hx.len)
      have hst := ent_scells wr hZ hx.len hx.one
      have hsz : (es[k]).cs.toArray.size = 76 := by simpa using hx.len
      have HLD2 := Lib.hid (ent_load (Blk.whole (Blk.new wr 39 (es[k]).cs.toArray)) hx.len)
      have HC := Lib.hid (ref_any (hx.alloc (.cells (es[k]).cs.toArray 39)))
      have HK := Lib.hid (show RfOk ((es[k]).name, (es[k]).ver) from ⟨hx.wname, hx.wver⟩)
      obtain ⟨xs, hxs⟩ : ∃ xs, xs = (es[k]).cs.toArray := ⟨_, rfl⟩
      obtain ⟨nm, hnm⟩ : ∃ nm, nm = (es[k]).name := ⟨_, rfl⟩
      obtain ⟨vr, hvr⟩ : ∃ vr, vr = (es[k]).ver := ⟨_, rfl⟩
      rw [← hxs] at HLD hst hsz HLD2 HC
      rw [← hnm, ← hvr] at HC HK
      have HY := Lib.hid (yr.alloc yr.size (.cells xs 39))
      have HP := Lib.hid (pr.alloc (.cells xs 39))
      have i1 : (0 : Int) ≤ (k : Int) := by omega
      have i2 : (k : Int) < (es.length : Int) := by omega
      clear hxs hnm hvr hx q1 hRr yr pr P0 Y0
      go_wp2_with fail
      refine wp_load_run _ _ rfl rfl HLD.out ?_
      go_wp2_with fail
      refine wp_load_run _ _ rfl rfl HLD2.out ?_
      go_wp2_with fail
      refine HC.out.mono ?_
      rintro r w5 ⟨rfl, y5⟩
      have HY5 := Lib.hid (HY.out.trans (y5.mono HY.out.size))
      have HP5 := Lib.hid (HP.out.on y5)
      clear y5
      obtain ⟨w6, hup, hP6, hg6⟩ := HP5.out.store HK.out (by unfold maxLen; omega) (z := (k : Nat)) (WalkArith.wf_i64 (by omega))
      have HY6 := Lib.hid (HY5.out.grown hg6 HY5.out.size (fun g hg => by injection hg with hg; rw [← hg, HB.out]; exact Nat.le_refl _))
      have HP6 := Lib.hid hP6
      clear hP6 hg6
      go_wp2_with fail
      go_roundw
      case rel => exact ⟨k + 1, by omega, by go_num, HP6.out, HY6.out⟩
      case measure => simp [intOf] <;> omega
    · obtain rfl : k = es.length := by omega
      go_wp2_with fail
      go_ret
      exact ⟨_, _, pr, rfl, yr⟩
end PB
end Go.Proofs.Ytgbabhihmbeogaa
