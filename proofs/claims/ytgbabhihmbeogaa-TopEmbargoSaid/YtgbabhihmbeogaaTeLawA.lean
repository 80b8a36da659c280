/-
  What the law TopEmbargo reaches beside archive.Visible: its closed example, Ints, In.
-/
import Derived.Test.YtgbabhihmbeogaaTeArc
import Derived.Test.YtgbabhihmbeogaaTeDays
namespace Go.Proofs.Ytgbabhihmbeogaa
open Go.RowKit
attribute [local go_sem ↓] Go.wp_at_zero Go.wp_at_succ
set_option linter.unusedVariables false
set_option linter.unusedSimpArgs false
namespace PB
theorem wp_build_run {P : Program} {o : Oper} {a : Act} {w : World} {K : Act → World → Prop} {Q : Exit → Act → World → Prop} (t : TypeId) (parts : Array (Nat × Operand)) (ho : o.op = .build t parts) {ps : List (Nat × Value)} (hp : (parts.map fun (i, x) => (i, a.eval x)).toList = ps) {cells : Array Value} (hb : P.built t ps = some cells)
    (h : K (a.put o.dst (.agg cells)) w) : o.wp P a w K Q := by
  refine wp_build t parts ho (by rw [hp, hb]; rfl) ?_
  rw [hp, hb]
  exact h
/-- The entry of the closed example; its result. -/
def exC : List Value := [.string ⟨#[97]⟩, .int .i64 1, .int .i64 0, .int .i64 1, .int .i64 0] ++ List.replicate 32 (.int .u8 0) ++ [.slice none 0 0, .slice none 0 0, .int .i64 741079, .int .i64 0, .int .i64 0, .int .i64 0] ++ List.replicate 32 (.int .u8 0) ++ [.slice none 0 0]
def exT : List Value := [.bool false, .slice none 0 0, .slice none 0 0]
theorem ex_built : Try.prog.built 39 [(0, .string ⟨#[97]⟩), (1, .int .i64 1), (3, .int .i64 1), (8, .int .i64 741079)] = some exC.toArray := by kernel_rfl
theorem ex_built2 : Try.prog.built 42 [(0, .agg exC.toArray)] = some (exC ++ exT).toArray := by kernel_rfl
def exE : Ent where
  cs := exC
  name := ⟨#[97]⟩
  ver := 1
  kind := 0
  day := 1
  size := 0
  sA := none
  sN := 0
  sC := 0
  src := []
  gA := none
  gN := 0
  gC := 0
  grp := []
  emb := 741079
  need := 0
  keep := 0
  cz := 0
  pA := none
  pN := 0
  pC := 0
theorem exE_is (w : World) : exE.Is w where
  len := rfl
  one := by
    have h : exC.all (·.oneCell') = true := by decide +kernel
    intro v hv
    exact List.all_eq_true.1 h v hv
  c0 := rfl
  c1 := rfl
  c2 := rfl
  c3 := rfl
  c4 := rfl
  c37 := rfl
  c38 := rfl
  c39 := rfl
  c40 := rfl
  c41 := rfl
  c42 := rfl
  c75 := rfl
  src := ⟨rfl, Nat.le_refl _, Nat.zero_le _, fun h => absurd h (by decide)⟩
  grp := Reads.nil _ _ none 0 (Nat.zero_le _)
  all := fun x hx => by cases hx
  wver := ⟨by decide, by decide⟩
  wname := by decide
  wemb := ⟨by decide, by decide⟩
theorem exE_exm : exE.Exm := ⟨rfl, rfl, rfl, rfl, rfl, rfl, rfl, by decide, by decide, rfl, rfl, rfl, rfl⟩
theorem ex_rds {w : World} {b : Nat} (h : Blk w b 42 (exC ++ exT).toArray) : RdS w (some ⟨b, 0, none⟩) 1 1 [(exE, exT)] := by
  refine ⟨rfl, Nat.le_refl _, by decide, fun _ => ⟨b, 0, rfl, h.lt, fun i x hx => ?_⟩, fun x hx => ?_⟩
  · obtain rfl : i = 0 := by
      rcases Nat.eq_zero_or_pos i with h | h
      · exact h
      · rw [List.getElem?_eq_none (by simp; omega)] at hx; cases hx
    obtain rfl : x = (exE, exT) := by simpa using hx.symm
    exact Blk.whole h
  · obtain rfl : x = (exE, exT) := by simpa using hx
    exact ⟨exE_is w, rfl, by intro v hv; simp [exT] at hv; rcases hv with rfl | rfl <;> rfl⟩
theorem ex_vis_early : vis (ents [(exE, exT)]) [] 741078 1 = [] := by decide +kernel
theorem ex_vis_late : vis (ents [(exE, exT)]) [] 741079 1 = [0] := by decide +kernel
theorem res_info : ∃ z : Value, z.cells.size = 79 ∧ (Try.prog.info? 42).map (fun i => (i.zero, i.size, i.bytes)) = some (some z, 79, 272) := by
  refine ⟨.agg (#[.string ⟨#[]⟩, .int .i64 0, .int .i64 0, .int .i64 0, .int .i64 0] ++ Array.replicate 32 (.int .u8 0) ++ #[.slice none 0 0, .slice none 0 0, .int .i64 0, .int .i64 0, .int .i64 0, .int .i64 0] ++ Array.replicate 32 (.int .u8 0) ++ #[.slice none 0 0, .bool false, .slice none 0 0, .slice none 0 0]), by decide +kernel, by kernel_rfl⟩
theorem res_buildSlice (w : World) {cs : Array Value} (hl : cs.size = 79) : (Instr.buildSlice 25 1 #[(0, .agg cs)]).run Try.prog w = .ok (.slice (some ⟨w.heap.size, 0, none⟩) 1 1) (w.alloc (.cells cs 42)) := by
  obtain ⟨z, hz, hh⟩ := res_info
  obtain ⟨i, hi, h1, h2, h3⟩ := info_parts hh
  refine run_buildSlice (P := Try.prog) w 25 42 1 _ cs i z Try.underlying25 hi h1 (by rw [h2]; decide) (by rw [h2]; decide) ?_
  rw [h2]
  have := Great.fill_whole (s := 79) (by decide) [.agg cs] ((Array.range (1 * 79)).map (z.cells[· % z.cells.size]!)) (by simpa [Value.cells] using hl) (by simp)
  simp only [List.zipIdx_cons, List.zipIdx_nil, List.map_cons, List.map_nil] at this
  simp [Value.cells] at this
  exact this
theorem wp_res_slice {o : Oper} {a : Act} {w : World} {K : Act → World → Prop} {Q : Exit → Act → World → Prop} (x : Operand) (ho : o.op = .buildSlice 25 1 #[(0, x)]) {cs : Array Value} (hx : a.eval x = .agg cs) (hl : cs.size = 79)
    (h : K (a.put o.dst (.slice (some ⟨w.heap.size, 0, none⟩) 1 1)) (w.alloc (.cells cs 42))) : o.wp Try.prog a w K Q := by
  unfold Oper.wp execOp
  simp only [ho, List.map_toArray, List.map_cons, List.map_nil, hx, Sem.run_bind, res_buildSlice w hl, Result.andThen_ok]
  exact h
set_option maxRecDepth 100000 in
set_option maxHeartbeats 1600000 in
/-- The reference's Ints at equal lists. -/
theorem ints_same {A B : Option Addr} {n c d : Nat} {l : List Nat} {w : World} (h : Rd w A n c (ncells l)) (h2 : Rd w B n d (ncells l)) :
    Calls Try.prog 6 #[.slice A n c, .slice B n d] w fun e w' => e = .returned (.bool true) ∧ Below w.heap.size w w' := by
  have hn := h.len
  rw [ncells_length] at hn
  have hcap := Reads.cap h
  have hcm := Reads.capMax h
  unfold maxLen at hcm
  subst hn
  have HA := Lib.hid h
  have HB := Lib.hid h2
  clear h h2
  go_enter Try.func6, Try.ntmps6
  go_wp2_with fail
  go_loopw [5] (fun iv wr => ∃ k q : Nat, k ≤ l.length ∧ iv = .int .i64 (k : Nat) ∧ wr = w.drewN q) (fun iv _ => l.length - (intOf iv).toNat)
  case atStart => exact ⟨0, 0, Nat.zero_le _, rfl, rfl⟩
  case round =>
    obtain ⟨k, q, hk, rfl, rfl⟩ := hrel
    by_cases hlt : k < l.length
    · obtain ⟨b1, o1, rfl, hb1, hc1⟩ := HA.out.2.2.2 (by omega)
      obtain ⟨b2, o2, rfl, hb2, hc2⟩ := HB.out.2.2.2 (by omega)
      have q1 := hc1 k _ (ncells_get l k hlt)
      have q2 := hc2 k _ (ncells_get l k hlt)
      obtain ⟨x, hx⟩ : ∃ x, x = l.getD k 0 := ⟨_, rfl⟩
      rw [← hx] at q1 q2
      have i1 : (0 : Int) ≤ (k : Int) := by omega
      have i2 : (k : Int) < (l.length : Int) := by omega
      clear hx hc1 hc2
      go_upto_region 6 with (fail)
      go_quiet (fail)
      go_wp2_with fail
      go_roundw
      case rel => exact ⟨k + 1, _, by omega, by go_num, rfl⟩
      case measure => simp [intOf] <;> omega
    · obtain rfl : k = l.length := by omega
      go_wp2_with fail
      go_ret
      exact ⟨rfl, belowN (Below.refl _ _) _⟩
set_option maxRecDepth 100000 in
/-- The reference's In. -/
theorem rin_any (x lo hi : Int) (b : Bool) (hb : b = decide (lo ≤ x ∧ x ≤ hi)) (w : World) :
    Calls Try.prog 7 #[.int .i64 x, .int .i64 lo, .int .i64 hi] w fun e w' => e = .returned (.bool b) ∧ w' = w := by
  by_cases h1 : lo ≤ x
  · by_cases h2 : x ≤ hi
    · obtain rfl : b = true := by rw [hb]; simp [h1, h2]
      clear hb
      go_enter Try.func7, Try.ntmps7
      go_wp2
      go_ret
      exact ⟨rfl, rfl⟩
    · obtain rfl : b = false := by rw [hb]; simp [h2]
      clear hb
      go_enter Try.func7, Try.ntmps7
      go_wp2
      go_ret
      exact ⟨rfl, rfl⟩
  · obtain rfl : b = false := by rw [hb]; simp [h1]
    clear hb
    go_enter Try.func7, Try.ntmps7
    go_wp2
    go_ret
    exact ⟨rfl, rfl⟩
end PB
end Go.Proofs.Ytgbabhihmbeogaa
