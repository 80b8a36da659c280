/-
  The closed examples of package lz: matches answers true.
-/
import Derived.Test.YtnahmiglogddaaaRows
import Derived.Test.YtnahmiglogddaaaLzLawPlain
import Derived.Deep.RegionHeld3
import Derived.Deep.DrawnRows
import Derived.Lib.SlBytesConst
namespace Go.Proofs.Ytnahmiglogddaaa
open Go.RowKit
attribute [local go_sem ↓] Go.wp_at_zero Go.wp_at_succ
set_option linter.unusedVariables false
set_option linter.unusedSimpArgs false
namespace PB
theorem Rd.litG (w : World) {g : Nat} (hg : g = w.heap.size) (t : TypeId) (cs : Array Value) (fr : Nat × Nat) (k : Nat) (hk : cs.toList.length = k) (hm : k ≤ maxLen) : Rd (w.alloc (.cells cs t fr)) (some ⟨g, 0, none⟩) k k cs.toList := by
  subst hg
  refine ⟨hk, Nat.le_refl _, hm, fun _ => ⟨w.heap.size, 0, rfl, by simp, fun j u hu => ?_⟩⟩
  rw [Nat.zero_add, cell_of_row _ _ j cs t fr (heap_alloc_new w _)]
  simpa using hu
theorem run_conv_g (w : World) (g : Nat) (C : Array Value) (n c : Nat) (hg : g = w.heap.size) :
    (convert 23 23 (.slice (some ⟨g, 0, none⟩) n c)).run Try.prog (w.alloc (.cells C 5)) = .ok (.slice (some ⟨g, 0, none⟩) n c) (w.alloc (.cells C 5 (C.size, C.size + 1))) := by
  subst hg
  exact Lib.run_convert_bytes_const (P := Try.prog) w 23 5 C n c Try.underlying23 Try.underlying5
theorem RdT.litG (w : World) {g : Nat} (hg : g = w.heap.size) (t : TypeId) (ts : List Tok) (k : Nat) (hk : ts.length = k) (hm : k ≤ maxLen) : RdT (w.alloc (.cells (tcells ts).toArray t)) (some ⟨g, 0, none⟩) k k ts := by
  subst hg
  have hB := Blk.new w t (tcells ts).toArray
  refine ⟨hk, Nat.le_refl _, hm, fun _ => ⟨w.heap.size, 0, rfl, by simp, fun i x hx => ?_⟩⟩
  obtain ⟨q1, q2, q3⟩ := tcells_get ts i x hx
  rw [Nat.zero_add, hB.cell, hB.cell, hB.cell]
  exact ⟨by simpa using q1, by simpa using q2, by simpa using q3⟩
/-- The tokens of the closed example. -/
def exT : List Tok := [⟨0, 0, 97⟩, ⟨1, 3, 0⟩]
theorem ex_tab : Tab gsz [97, 97, 97, 97] 0 (fun j => [12, 3, 18, 9, 0].getD j 0) (fun j => [0, 3, 0, 0].getD j 0) (fun j => [0, 1, 0, 0].getD j 0) := by
  have g1 : gsz 1 = 1 := by decide
  have hc : ∀ j n d, Cand [97, 97, 97, 97] j n d → j ≤ 1 ∧ 1 ≤ j := by
    intro j n d ⟨h1, h2, h3, h4⟩
    have := rep_le (all := [97, 97, 97, 97]) (i := j) (d := d)
    have : [97, 97, 97, 97].length = 4 := rfl
    omega
  refine ⟨rfl, fun j h1 h2 => ?_⟩
  rcases (by have : [97, 97, 97, 97].length = 4 := rfl; omega : j = 0 ∨ j = 1 ∨ j = 2 ∨ j = 3) with rfl | rfl | rfl | rfl
  · exact ⟨.inl ⟨rfl, rfl, rfl⟩, by decide, fun n' d' h _ => by have := hc _ _ _ h; omega⟩
  · refine ⟨.inr ⟨⟨by decide, by decide, by decide, by decide⟩, by decide⟩, by decide, fun n' d' h _ => ?_⟩
    obtain ⟨a1, a2, a3, a4⟩ := h
    have := rep_le (all := [97, 97, 97, 97]) (i := 1) (d := d')
    have : [97, 97, 97, 97].length = 4 := rfl
    obtain rfl : n' = 3 := by omega
    obtain rfl : d' = 1 := by omega
    right
    exact ⟨by decide, .inr ⟨rfl, Nat.le_refl _⟩⟩
  · exact ⟨.inl ⟨rfl, rfl, rfl⟩, by decide, fun n' d' h _ => by have := hc _ _ _ h; omega⟩
  · exact ⟨.inl ⟨rfl, rfl, rfl⟩, by decide, fun n' d' h _ => by have := hc _ _ _ h; omega⟩
theorem ex_parse {A : Option Addr} {c : Nat} {w : World} (h : Rd w A 4 c (bcells [97, 97, 97, 97])) :
    Calls Try.prog 20 #[.slice A 4 c, .slice none 0 0] w fun e w' => ∃ A' c', e = .returned (.tuple #[.slice A' 2 c', .agg #[.int .i64 0, .int .i64 0]]) ∧ RdT w' A' 2 c' exT ∧ Below w.heap.size w w' := by
  refine (lzparse_ok (dict := []) h (Reads.nil _ _ none 0 (Nat.zero_le _)) (by decide) (by decide)).mono ?_
  rintro e w' ⟨L, nn, dd, A', m, c', rfl, hT, ho, hb⟩
  have e1 : tokens ([] ++ [97, 97, 97, 97]) nn dd 0 = exT := (Tab.tokens hT ex_tab).trans rfl
  rw [e1] at ho
  have hm := ho.1
  obtain rfl : m = 2 := by
    have : (tcells exT).length = 6 := rfl
    omega
  exact ⟨A', c', rfl, RdT.own ho, hb⟩
theorem ex_cost {A : Option Addr} {c : Nat} {w : World} (h : RdT w A 1 c [⟨2, 5, 0⟩]) :
    Calls Try.prog 21 #[.slice A 1 c] w fun e w' => e = .returned (.tuple #[.int .i64 7, .agg #[.int .i64 0, .int .i64 0]]) ∧ Below w.heap.size w w' := by
  have hok : ∀ t ∈ [(⟨2, 5, 0⟩ : Tok)], t.ok := by
    intro t ht
    obtain rfl : t = ⟨2, 5, 0⟩ := by simpa using ht
    exact .inr ⟨rfl, by decide, by decide, by decide, by decide⟩
  have e1 : costs [⟨2, 5, 0⟩] = 7 := by decide
  have := lzcosts_ok h (by decide) (AllTok.of _ hok)
  rw [e1] at this
  exact this
theorem exT_ok : ∀ t ∈ exT, t.ok ∧ t.lit < 256 := by
  intro t ht
  simp only [exT, List.mem_cons, List.not_mem_nil, or_false] at ht
  rcases ht with rfl | rfl
  · exact ⟨.inl ⟨rfl, rfl⟩, by decide⟩
  · exact ⟨.inr ⟨rfl, by decide, by decide, by decide, by decide⟩, by decide⟩
theorem ex_same {A : Option Addr} {n c : Nat} {A2 : Option Addr} {n2 c2 : Nat} {d : List Nat} {w : World} (h : Rd w A n c (bcells d)) (h2 : Rd w A2 n2 c2 (bcells d)) (hd : ∀ k, d.getD k 0 < 256) :
    Calls Try.prog 14 #[.slice A n c, .slice A2 n2 c2] w fun e w' => e = .returned (.bool true) ∧ w = w' := by
  have := samebytes_any A n c d A2 n2 c2 d w h h2 hd hd
  rwa [decide_eq_true rfl] at this
theorem ex_valid (w : World) : Calls Try.prog 40 #[.agg #[.int .i64 1, .int .i64 2, .int .u8 0]] w fun e w' => e = .returned (.bool false) ∧ Below w.heap.size w w' :=
  lzvalid_any 1 2 0 false ⟨(fun h => by cases h), fun h => by rcases h with ⟨h, _⟩ | ⟨_, _, _, h, _⟩ <;> omega⟩ w
end PB
end Go.Proofs.Ytnahmiglogddaaa
