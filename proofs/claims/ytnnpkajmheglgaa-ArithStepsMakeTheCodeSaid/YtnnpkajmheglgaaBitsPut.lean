/-
  bits.put adds one bit at the end of a row that the caller owns.
-/
import Derived.Test.YtnnpkajmheglgaaRows
import Derived.Test.YtnnpkajmheglgaaBitsMem
import Derived.WalkKit
import Derived.WalkSpells
import Derived.WalkLawsBesides
import Derived.Lib.Hide
import Derived.Deep.AppendLies
import Derived.RegionTactic
import Derived.BigRegion
namespace Go.Proofs.Ytnnpkajmheglgaa
open Go.RowKit
set_option linter.unusedVariables false
set_option linter.unusedSimpArgs false
namespace PB
theorem byte_info : (Try.prog.info? 5).map (fun i => (i.zero, i.size, i.bytes)) = some (some (.int .u8 0), 1, 1) := by kernel_rfl
theorem put_value {l : List Nat} (h01 : Is01 l) (bit : Nat) (hbit : bit < 2) (h8 : l.length % 8 ≠ 0) (x : Nat) (hxe : x = (pack l).getD (l.length / 8) 0) :
    bits .or .u8 (x : Int) (wrap64 ((bit : Int) * 2 ^ (7 - l.length % 8)) % 256) = ((x + bit * 2 ^ (7 - l.length % 8) : Nat) : Int) := by
  have hx := pack_lt h01 (l.length / 8)
  have hlow := pack_low h8
  rw [← hxe] at hx hlow
  have hm : l.length % 8 < 8 := Nat.mod_lt _ (by decide)
  generalize l.length % 8 = m at *
  have hp : bit * 2 ^ (7 - m) < 2 ^ (8 - m) := by
    rw [show 8 - m = (7 - m) + 1 by omega, Nat.pow_succ]
    have : 0 < 2 ^ (7 - m) := Nat.two_pow_pos _
    rcases (by omega : bit = 0 ∨ bit = 1) with rfl | rfl <;> omega
  have hp2 : (2 : Nat) ^ (8 - m) ≤ 2 ^ 7 := Nat.pow_le_pow_right (by decide) (by omega)
  have e : ((bit : Int) * 2 ^ (7 - m)) = ((bit * 2 ^ (7 - m) : Nat) : Int) := by simp
  have e2 : wrap64 ((bit * 2 ^ (7 - m) : Nat) : Int) % 256 = ((bit * 2 ^ (7 - m) : Nat) : Int) := by
    rw [IntWalk.wrap64_in _ ⟨by omega, by omega⟩]
    omega
  rw [e, e2, u8_or_nat _ _ hx (by omega), nat_join (8 - m) _ _ hlow hp]
set_option maxHeartbeats 400000 in
theorem put_old (g n c : Nat) (l : List Nat) (bit : Nat) (base : Nat) (w : World) (h01 : Is01 l) (hbit : bit < 2) (hl : l.length < 1000000) (h8 : l.length % 8 ≠ 0)
    (hown : w.ownsRow base 5 1 (.slice (some ⟨g, 0, none⟩) n c) n (bcells (pack l))) (hbase : base ≤ w.heap.size) :
    Calls Try.prog 56 #[.agg #[.slice (some ⟨g, 0, none⟩) n c, .int .i64 l.length], .int .i64 bit] w fun e w' => e = .returned (.agg #[.slice (some ⟨g, 0, none⟩) n c, .int .i64 ((l.length : Int) + 1)]) ∧
      w'.ownsRow base 5 1 (.slice (some ⟨g, 0, none⟩) n c) n (bcells (pack (l ++ [bit]))) ∧ w.grownBy w' (some g) := by
  obtain ⟨hr, hgb⟩ : Reads w w.heap.size (some ⟨g, 0, none⟩) n c (bcells (pack l)) ∧ base ≤ g := by
    obtain ⟨A, c', hv, h⟩ := Reads.of_own hown
    cases hv
    exact ⟨h, (hown.lt g rfl).1⟩
  have hn := hr.len
  rw [bcells_length, pack_length] at hn
  obtain ⟨b, off, he, hb, hc⟩ := hr.byte (by omega)
  cases he
  have hcell := hc (l.length / 8) (by omega)
  rw [Nat.zero_add] at hcell
  have hfz := hown.frozenAt (l.length / 8)
  have hcm := hr.capMax
  have hcn := hr.cap
  unfold maxLen at hcm
  obtain ⟨x, hxe⟩ : ∃ x, x = (pack l).getD (l.length / 8) 0 := ⟨_, rfl⟩
  rw [← hxe] at hcell
  have hx := pack_lt h01 (l.length / 8)
  rw [← hxe] at hx
  have hcell' : ∀ o, (w.alloc o).cell? ⟨g, l.length / 8, none⟩ = some (.int .u8 (x : Int)) := fun o => (World.cell?_alloc_lt _ _ _ (by simp; omega)).trans hcell
  have hne : ((l.length : Int) % 8 == 0) = false := by simp; omega
  have HV := Lib.hid (put_value h01 bit hbit h8 x hxe)
  have HS := Lib.hid (pack_snoc_old (l := l) bit h8)
  have HX := Lib.hid hxe
  clear hc hxe
  go_enter Try.func56, Try.ntmps56
  go_wp2
  go_region
  go_wp2
  refine bodyPost_ret (v := .agg #[.slice (some ⟨g, 0, none⟩) n c, .int .i64 ((l.length : Int) + 1)]) (by simp [results, Try.results56, go_sem]) rfl ⟨rfl, ?_, ?_⟩
  · rw [HV.out, HS.out, bcells_set, ← HX.out]
    exact ((hown.stored (l.length / 8) _).1.alloc _).alloc _ |>.drew
  · exact only_drew (only_alloc (only_alloc (only_setCell (only_refl _ _) (.inl rfl) _) _) _)

set_option maxHeartbeats 400000 in
theorem put_new (A : Option Addr) (n c : Nat) (l : List Nat) (bit : Nat) (base : Nat) (w : World) (hbit : bit < 2) (hl : l.length < 1000000) (h8 : l.length % 8 = 0)
    (hown : w.ownsRow base 5 1 (.slice A n c) n (bcells (pack l))) (hbase : base ≤ w.heap.size) :
    Calls Try.prog 56 #[.agg #[.slice A n c, .int .i64 l.length], .int .i64 bit] w fun e w' => ∃ g c', e = .returned (.agg #[.slice (some ⟨g, 0, none⟩) (n + 1) c', .int .i64 ((l.length : Int) + 1)]) ∧
      w'.ownsRow base 5 1 (.slice (some ⟨g, 0, none⟩) (n + 1) c') (n + 1) (bcells (pack (l ++ [bit]))) ∧ w.grownBy w' (Value.slice A n c).ownBlock := by
  obtain ⟨i0, hi, hz0, hz1, hz2⟩ := info_parts byte_info
  have hn : n = (l.length + 7) / 8 := by
    have := hown.1
    rw [bcells_length, pack_length] at this; omega
  have hne : ((l.length : Int) % 8 == 0) = true := by simp; omega
  have HN := Lib.hid hn
  clear hn
  have hnl : n + 1 ≤ 200000 := by have := HN.out; omega
  go_enter Try.func56, Try.ntmps56
  go_wp2_with (at_builtin; refine wpList_append_lies _ rfl _ _ _ rfl base 5 i0 _ 1 1 Try.underlying23 hi hz0 hz1 hz2 rfl (by omega) (.slice A n c) n (bcells (pack l)) rfl (((hown.alloc _).alloc _).alloc _) ⟨w.heap.size + 1 + 1, 0, none⟩ 1 1 [.int .u8 0] rfl rfl ?c1 ?c2 ?c3 ?c4 ?c5 ?c6 (w.heap.size + 3) ?c7 ?_)
  case c1 => exact one_new _ _ (by simp) _ _
  case c2 => intro u hu; simp at hu; subst hu; rfl
  case c3 => decide
  case c4 => unfold maxLen; omega
  case c5 => omega
  case c6 => simp; omega
  case c7 => simp
  intro g cap w1 hown1 hgrow hat hlt
  have hgb : base ≤ g := (hown1.lt g rfl).1
  have hne1 : g ≠ w.heap.size ∧ g ≠ w.heap.size + 1 := by
    rcases hat with h | h
    · have := (hown.lt g h).2; omega
    · omega
  have hsz : w.heap.size + 3 ≤ w1.heap.size := by have := hgrow.size; simp at this; omega
  have hfar : ∀ k, k = w.heap.size ∨ k = w.heap.size + 1 → some k ≠ (Value.slice A n c).ownBlock := by
    intro k hk h
    have := (hown.lt k h.symm).2; omega
  have b0 := hgrow.block w.heap.size (by simp; omega) (hfar _ (.inl rfl))
  have b1 := hgrow.block (w.heap.size + 1) (by simp) (hfar _ (.inr rfl))
  have HB0 : w1.heap[w.heap.size]? = some (.cells #[.slice A n c, .int .i64 l.length] 25 (0, 0)) := by
    rw [b0]; show ((((w.heap.push _).push _).push _))[w.heap.size]? = _
    simp only [Array.getElem?_push, Array.size_push]; rw [if_neg (by omega), if_neg (by omega), if_pos trivial]
  have HB1 : w1.heap[w.heap.size + 1]? = some (.cells #[.slice none 0 0, .int .i64 0] 25 (0, 0)) := by
    rw [b1]; show ((((w.heap.push _).push _).push _))[w.heap.size + 1]? = _
    simp only [Array.getElem?_push, Array.size_push]; rw [if_neg (by omega), if_pos trivial]
  have f0 : ∀ i, w1.frozen? ⟨w.heap.size, i, none⟩ = false := fun i => frozen_of_row _ _ _ _ _ HB0
  have f1 : ∀ i, w1.frozen? ⟨w.heap.size + 1, i, none⟩ = false := fun i => frozen_of_row _ _ _ _ _ HB1
  have c00 : w1.cell? ⟨w.heap.size, 0, none⟩ = some (.slice A n c) := cell_of_row _ _ _ _ _ _ HB0
  have c01 : w1.cell? ⟨w.heap.size, 1, none⟩ = some (.int .i64 l.length) := cell_of_row _ _ _ _ _ _ HB0
  have c10 : w1.cell? ⟨w.heap.size + 1, 0, none⟩ = some (.slice none 0 0) := cell_of_row _ _ _ _ _ _ HB1
  have c11 : w1.cell? ⟨w.heap.size + 1, 1, none⟩ = some (.int .i64 0) := cell_of_row _ _ _ _ _ _ HB1
  have cg : w1.cell? ⟨g, l.length / 8, none⟩ = some (.int .u8 0) := by
    have := HN.out
    rw [hown1.cellAt _ (by omega), List.getElem?_append_right (by rw [bcells_length, pack_length]; omega), bcells_length, pack_length, show l.length / 8 - (l.length + 7) / 8 = 0 by omega]
    rfl
  have fg := hown1.frozenAt (l.length / 8)
  have hn1 : l.length / 8 < n + 1 := by have := HN.out; omega
  have hcm : n + 1 ≤ cap := (Reads.of_own hown1).elim fun A' h => h.elim fun c' h => by
    obtain ⟨h1, h2⟩ := h
    cases h1
    exact h2.cap
  obtain ⟨hg1, hg2⟩ := hne1
  have hg1' := Ne.symm hg1
  have hg2' := Ne.symm hg2
  have hbd : w.grownBy w1 (Value.slice A n c).ownBlock := only_trans (only_alloc (only_alloc (only_alloc (only_refl _ _) _) _) _) hgrow (.inl rfl)
  have hgr : (Value.slice A n c).ownBlock = some g ∨ w.heap.size ≤ g := by
    rcases hat with h | h
    · exact .inl h
    · right; omega
  have HB : Hid (Blk w1 (w.heap.size + 1) 25 #[.slice none 0 0, .int .i64 0]) := HB1
  clear HB0 HB1 b0 b1 hfar hat hgrow
  have H1 := Lib.hid hown1
  clear hown1
  go_wp2
  go_region
  go_wp2
  have hB := (((((Blk.far HB.out (p := ⟨w.heap.size, 0, none⟩) (by simp) (.slice (some ⟨g, 0, none⟩) (n + 1) cap)).far (p := ⟨g, l.length / 8, none⟩) hg2' (.int .u8 (bits BinOp.or IntKind.u8 0 (wrap64 ((bit : Int) * 128) % 256)))).far (p := ⟨w.heap.size, 1, none⟩) (by simp) (.int .i64 ((l.length : Int) + 1))).set_ 0 (.slice (some ⟨g, 0, none⟩) (n + 1) cap)).set_ 1 (.int .i64 ((l.length : Int) + 1))).drew
  have r0 := hB.cell 0
  have r1 := hB.cell 1
  simp at r0 r1
  refine bodyPost_ret (v := .agg #[.slice (some ⟨g, 0, none⟩) (n + 1) cap, .int .i64 ((l.length : Int) + 1)]) (by simp [results, Try.results56, go_sem, r0, r1]) rfl ⟨g, cap, rfl, ?_, ?_⟩
  · have e : bcells (pack (l ++ [bit])) = (bcells (pack l) ++ [Value.int .u8 0]).set (l.length / 8) (.int .u8 (bits BinOp.or IntKind.u8 0 (wrap64 ((bit : Int) * 128) % 256))) := by
      have hv : bits BinOp.or IntKind.u8 0 (wrap64 ((bit : Int) * 128) % 256) = ((bit * 128 : Nat) : Int) := by
        rcases (by omega : bit = 0 ∨ bit = 1) with rfl | rfl <;> decide +kernel
      rw [hv, pack_snoc_new l bit h8, bcells_append]
      have hq : (bcells (pack l)).length = l.length / 8 := by rw [bcells_length, pack_length]; omega
      rw [← hq, List.set_append_right _ _ (Nat.le_refl _), Nat.sub_self]
      rfl
    rw [e]
    exact ((((own_far (own_far (((own_far H1.out hg1' _).stored (l.length / 8) _).1) hg1' _) hg2' _)) |> fun h => own_far h hg2' _)).drew
  · exact only_drew (only_setCell (only_setCell (only_setCell (only_setCell (only_setCell hbd (.inr (Nat.le_refl _)) _) (by simpa using hgr) _) (.inr (Nat.le_refl _)) _) (.inr (by simp)) _) (.inr (by simp)) _)

/-- bits.put: one bit more at the end of a row of the caller's own. -/
theorem put_any (A : Option Addr) (n c : Nat) (l : List Nat) (bit : Nat) (base : Nat) (w : World) (h01 : Is01 l) (hbit : bit < 2) (hl : l.length < 1000000)
    (hown : w.ownsRow base 5 1 (.slice A n c) n (bcells (pack l))) (hbase : base ≤ w.heap.size) :
    Calls Try.prog 56 #[.agg #[.slice A n c, .int .i64 l.length], .int .i64 bit] w fun e w' => ∃ A' n' c', e = .returned (.agg #[.slice A' n' c', .int .i64 ((l ++ [bit]).length : Nat)]) ∧
      w'.ownsRow base 5 1 (.slice A' n' c') n' (bcells (pack (l ++ [bit]))) ∧ w.grownBy w' (Value.slice A n c).ownBlock := by
  by_cases h8 : l.length % 8 = 0
  · refine (put_new A n c l bit base w hbit hl h8 hown hbase).mono ?_
    rintro e w' ⟨g, c', rfl, h1, h2⟩
    exact ⟨_, _, _, by simp, h1, h2⟩
  · have hn := hown.1
    rw [bcells_length, pack_length] at hn
    obtain ⟨g, cap, hv, _, _⟩ := hown.form (by omega)
    cases hv
    refine (put_old g n c l bit base w h01 hbit hl h8 hown hbase).mono ?_
    rintro e w' ⟨rfl, h1, h2⟩
    exact ⟨_, _, _, by simp, h1, h2⟩
end PB
end Go.Proofs.Ytnnpkajmheglgaa
