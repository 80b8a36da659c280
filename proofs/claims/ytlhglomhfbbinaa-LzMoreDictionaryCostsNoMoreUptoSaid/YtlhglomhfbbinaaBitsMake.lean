/-
  bits.Make makes a bit string of a text of the characters 0 and 1, or tells why it cannot.
-/
import Derived.Test.YtlhglomhfbbinaaRows
import Derived.Test.YtlhglomhfbbinaaBitsBox
import Derived.WalkKit
import Derived.WalkSpells
import Derived.WalkLawsBesides
import Derived.Lib.Hide
import Derived.BigQuiet
import Derived.Test.YtlhglomhfbbinaaBitsSlice
import Derived.StillTailTactics
namespace Go.Proofs.Ytlhglomhfbbinaa
open Go.RowKit
attribute [local go_sem ↓] Go.wp_at_zero Go.wp_at_succ
set_option linter.unusedVariables false
set_option linter.unusedSimpArgs false
namespace PB
/-- The bits of a text: what its bytes say. -/
def tbits (s : ByteArray) (k : Nat) : List Nat := (s.data.toList.take k).map fun c => c.toNat - 48
/-- The first k bytes of a text are 0 or 1. -/
def TOk (s : ByteArray) (k : Nat) : Prop := ∀ i (h : i < s.size), i < k → s[i].toNat = 48 ∨ s[i].toNat = 49
/-- The two results, without an argument's box. -/
def Res2 (w : World) (s : Nat) : Prop := Two w s 43 (.slice none 0 0) (.int .i64 0) ∧ Two w (s + 1) 25 (.int .i64 0) (.int .i64 0)
theorem tbits_length (s : ByteArray) (k : Nat) (h : k ≤ s.size) : (tbits s k).length = k := by
  have : s.data.toList.length = s.size := by simp
  simp [tbits]; omega
theorem tbits_succ (s : ByteArray) (k : Nat) (h : k < s.size) : tbits s (k + 1) = tbits s k ++ [s[k].toNat - 48] := by
  unfold tbits
  rw [List.take_succ_eq_append_getElem (by simpa using h), List.map_append]
  rfl
theorem tbits_01 (s : ByteArray) (k : Nat) (h : TOk s k) (hk : k ≤ s.size) : Is01 (tbits s k) := by
  refine Is01.of_mem fun x hx => ?_
  obtain ⟨c, hc, rfl⟩ := List.mem_map.1 hx
  obtain ⟨i, hi, rfl⟩ := List.mem_iff_getElem.1 hc
  rw [List.getElem_take]
  have hlen : s.data.toList.length = s.size := by simp
  have hi' : i < k ∧ i < s.size := by rw [List.length_take] at hi; omega
  have := h i hi'.2 hi'.1
  have e : (s.data.toList[i]'(by omega)).toNat = (s[i]'hi'.2).toNat := rfl
  rw [e]; omega
theorem Res2.start (w : World) : Res2 ((w.alloc (.cells #[.slice none 0 0, .int .i64 0] 43)).alloc (.cells #[.int .i64 0, .int .i64 0] 25)) w.heap.size := by
  refine ⟨(Two.new _ _ _ _).alloc _, ?_⟩
  simpa using Two.new (w.alloc (.cells #[.slice none 0 0, .int .i64 0] 43)) 25 (.int .i64 0) (.int .i64 0)
theorem Res2.on {w w' : World} {s : Nat} (h : Res2 w s) (hb : Below w.heap.size w w') : Res2 w' s := ⟨h.1.on hb, h.2.on hb⟩
theorem Res2.alloc {w : World} {s : Nat} (h : Res2 w s) (o : Obj) : Res2 (w.alloc o) s := ⟨h.1.alloc o, h.2.alloc o⟩
theorem Res2.grown {w w' : World} {s : Nat} {row : Option Nat} (h : Res2 w s) (hb : w.grownBy w' row) (h0 : row ≠ some s) (h1 : row ≠ some (s + 1)) : Res2 w' s := ⟨h.1.grown hb h0.symm, h.2.grown hb h1.symm⟩
theorem Res2.far {w : World} {s : Nat} (h : Res2 w s) {p : Addr} (hp : s + 1 < p.block) (u : Value) : Res2 (w.setCell p u) s := ⟨h.1.far (by omega) u, h.2.far (by omega) u⟩
theorem Res2.facts {w : World} {s : Nat} (h : Res2 w s) :
    w.cell? ⟨s, 0, none⟩ = some (.slice none 0 0) ∧ w.cell? ⟨s, 1, none⟩ = some (.int .i64 0) ∧ w.cell? ⟨s + 1, 0, none⟩ = some (.int .i64 0) ∧ w.cell? ⟨s + 1, 1, none⟩ = some (.int .i64 0) ∧
    w.frozen? ⟨s, 0, none⟩ = false ∧ w.frozen? ⟨s, 1, none⟩ = false ∧ w.frozen? ⟨s + 1, 0, none⟩ = false ∧ w.frozen? ⟨s + 1, 1, none⟩ = false ∧ s + 1 < w.heap.size :=
  ⟨h.1.c0, h.1.c1, h.2.c0, h.2.c1, h.1.f0, h.1.f1, h.2.f0, h.2.f1, h.2.lt⟩
theorem Res2.ends {w : World} {s : Nat} (h : Res2 w s) (r0 r1 f0 f1 : Value) :
    let w4 := (((w.setCell ⟨s, 0, none⟩ r0).setCell ⟨s, 1, none⟩ r1).setCell ⟨s + 1, 0, none⟩ f0).setCell ⟨s + 1, 1, none⟩ f1
    w4.cell? ⟨s, 0, none⟩ = some r0 ∧ w4.cell? ⟨s, 1, none⟩ = some r1 ∧ w4.cell? ⟨s + 1, 0, none⟩ = some f0 ∧ w4.cell? ⟨s + 1, 1, none⟩ = some f1 := by
  intro w4
  have a := (((h.1.set0 r0).set1 r1).far (p := ⟨s + 1, 0, none⟩) (by simp) f0).far (p := ⟨s + 1, 1, none⟩) (by simp) f1
  have b := (((h.2.far (p := ⟨s, 0, none⟩) (by simp) r0).far (p := ⟨s, 1, none⟩) (by simp) r1).set0 f0).set1 f1
  exact ⟨a.c0, a.c1, b.c0, b.c1⟩
theorem below_res2 {w w1 : World} (hb : Below w.heap.size w w1) (r0 r1 f0 f1 : Value) :
    Below w.heap.size w ((((w1.setCell ⟨w.heap.size, 0, none⟩ r0).setCell ⟨w.heap.size, 1, none⟩ r1).setCell ⟨w.heap.size + 1, 0, none⟩ f0).setCell ⟨w.heap.size + 1, 1, none⟩ f1) :=
  (((hb.setCell (by simp) _).setCell (by simp) _).setCell (by simp) _).setCell (by simp) _
theorem own_res2 {w : World} {s : Nat} (h : Res2 w s) {base n : Nat} {v : Value} {xs : List Value} (ho : w.ownsRow base 5 1 v n xs) (r0 r1 f0 f1 : Value) :
    ((((w.setCell ⟨s, 0, none⟩ r0).setCell ⟨s, 1, none⟩ r1).setCell ⟨s + 1, 0, none⟩ f0).setCell ⟨s + 1, 1, none⟩ f1).ownsRow base 5 1 v n xs := by
  have n1 := own_two_ne ho h.1 (by decide)
  have n2 := own_two_ne ho h.2 (by decide)
  exact own_far_any (own_far_any (own_far_any (own_far_any ho n1 _) n1 _) n2 _) n2 _
theorem put_int {A : Option Addr} {n c : Nat} {L : List Nat} {k b : Nat} {bi : Int} (hbi : bi = (b : Nat)) {base : Nat} {w : World} (hk : L.length = k) (h01 : Is01 L) (hbit : b < 2) (hl : k < 1000000)
    (hown : w.ownsRow base 5 1 (.slice A n c) n (bcells (pack L))) (hbase : base ≤ w.heap.size) :
    Calls Try.prog 52 #[.agg #[.slice A n c, .int .i64 k], .int .i64 bi] w fun e w' => ∃ A' n' c', e = .returned (.agg #[.slice A' n' c', .int .i64 ((k : Int) + 1)]) ∧
      w'.ownsRow base 5 1 (.slice A' n' c') n' (bcells (pack (L ++ [b]))) ∧ w.grownBy w' (Value.slice A n c).ownBlock := by
  subst hbi
  exact put_it hk h01 hbit hl hown hbase
end PB
end Go.Proofs.Ytlhglomhfbbinaa
