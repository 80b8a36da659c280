/-
  bits.fault, bits.number, bits.clone.
-/
import Derived.Test.YtlhglomhfbbinaaRows
import Derived.Test.YtlhglomhfbbinaaBitsAt
import Derived.Test.YtlhglomhfbbinaaBitsPut
import Derived.Test.YtlhglomhfbbinaaBitsApp
import Derived.Deep.RegionHeld3
import Derived.Deep.DrawnRows
import Derived.WalkKit
import Derived.WalkSpells
import Derived.WalkLawsBesides
import Derived.Lib.Hide
namespace Go.Proofs.Ytlhglomhfbbinaa
open Go.RowKit
attribute [local go_sem ↓] Go.wp_at_zero Go.wp_at_succ
set_option linter.unusedVariables false
set_option linter.unusedSimpArgs false
namespace PB
/-- bits.fault. -/
theorem fault_any (code index : Int) (w : World) :
    Calls Try.prog 51 #[.int .i64 code, .int .i64 index] w fun e w' => e = .returned (.agg #[.int .i64 code, .int .i64 index]) ∧ Below w.heap.size w w' := by
  go_enter Try.func51, Try.ntmps51
  go_wp2
  refine bodyPost_ret (v := .agg #[.int .i64 code, .int .i64 index]) (by simp [results, Try.results51, go_sem]) rfl ⟨rfl, ?_⟩
  exact (Below.refl _ _).alloc (Nat.le_refl _) _
theorem ofInt_i64 (a : Nat) (ha : a < 9223372036854775808) : (BitVec.ofInt 64 (a : Int)).toNat = a := by
  rw [BitVec.ofInt_natCast, BitVec.toNat_ofNat]; exact Nat.mod_eq_of_lt (by omega)
theorem i64_or_nat (a b : Nat) (ha : a < 9223372036854775808) (hb : b < 9223372036854775808) : bits .or .i64 (a : Int) (b : Int) = ((a ||| b : Nat) : Int) := by
  have hx : a ||| b < 2 ^ 63 := Nat.or_lt_two_pow (by omega) (by omega)
  show IntKind.i64.wrap ((BitVec.ofInt 64 (a : Int) ||| BitVec.ofInt 64 (b : Int)).toNat : Int) = _
  rw [BitVec.toNat_or, ofInt_i64 a ha, ofInt_i64 b hb, IntKind.wrap_i64]
  omega
theorem i64_and_nat (a b : Nat) (ha : a < 9223372036854775808) (hb : b < 9223372036854775808) : bits .and .i64 (a : Int) (b : Int) = ((a &&& b : Nat) : Int) := by
  have hx : a &&& b < 2 ^ 63 := Nat.and_lt_two_pow _ (by omega)
  show IntKind.i64.wrap ((BitVec.ofInt 64 (a : Int) &&& BitVec.ofInt 64 (b : Int)).toNat : Int) = _
  rw [BitVec.toNat_and, ofInt_i64 a ha, ofInt_i64 b hb, IntKind.wrap_i64]
  omega
theorem join_bit (n b : Nat) (hn : n < 1099511627776) (hb : b < 2) : bits .or .i64 ((n : Int) * 2) (b : Int) = ((2 * n + b : Nat) : Int) := by
  have := i64_or_nat (n * 2) b (by omega) (by omega)
  rw [nat_join 1 (n * 2) b (by omega) (by omega)] at this
  rw [show ((n : Int) * 2) = ((n * 2 : Nat) : Int) by omega, this]
  omega
theorem num_take_succ {l : List Nat} {f k : Nat} (h : f + k < l.length) : num ((l.drop f).take (k + 1)) = 2 * num ((l.drop f).take k) + l.getD (f + k) 0 := by
  rw [List.take_succ_eq_append_getElem (by rw [List.length_drop]; omega), num_snoc, List.getElem_drop, getD_lt h]
set_option maxHeartbeats 400000 in
theorem number_list (A : Option Addr) (n c : Nat) (l : List Nat) (f m : Nat) (B : Nat) (w : World) (h : Reads w B A n c (bcells (pack l))) (h01 : Is01 l) (hl : l.length ≤ 131072) (hfm : f + m ≤ l.length) (hm : m ≤ 33) (hB : B ≤ w.heap.size) :
    Calls Try.prog 63 #[.agg #[.slice A n c, .int .i64 l.length], .int .i64 f, .int .i64 m] w fun e w' => e = .returned (.int .i64 (num ((l.drop f).take m) : Nat)) ∧ Below w.heap.size w w' := by
  have hlen : ∀ k, num ((l.drop f).take k) < 2 ^ 33 ∨ 33 < k := by
    intro k
    rcases Nat.lt_or_ge 33 k with h | h
    · exact .inr h
    · left
      have h1 := num_lt ((h01.drop f).take k)
      have h2 : ((l.drop f).take k).length ≤ 33 := by rw [List.length_take]; omega
      have h3 : 2 ^ ((l.drop f).take k).length ≤ 2 ^ 33 := Nat.pow_le_pow_right (by decide) h2
      omega
  go_enter Try.func63, Try.ntmps63
  go_wp2
  go_loopw [7, 10] (fun t i wr => ∃ k : Nat, k ≤ m ∧ i = .int .i64 k ∧ t = .int .i64 (num ((l.drop f).take k) : Nat) ∧ Blk wr w.heap.size 43 #[.slice A n c, .int .i64 l.length] ∧ Below w.heap.size w wr) (fun _ i _ => m - (intOf i).toNat)
  case atStart => exact ⟨0, Nat.zero_le _, rfl, rfl, Blk.new _ _ _, (Below.refl _ _).alloc (Nat.le_refl _) _⟩
  case round =>
    obtain ⟨k, hk, rfl, rfl, hblk, hbel⟩ := hrel
    have c0 := hblk.cell 0
    have c1 := hblk.cell 1
    simp at c0 c1
    by_cases hlt : k < m
    · have hb := hlen k
      have hN : num ((l.drop f).take k) < 8589934592 := by omega
      have HS := Lib.hid (num_take_succ (l := l) (f := f) (k := k) (by omega))
      have H01 := Lib.hid h01
      clear hb hlen h01
      go_wp2_with (go_at_call 53; refine (at_list A n c l (f + k) B _ (h.on hB hbel) H01.out (by omega) (by have := hbel.size; omega)).mono ?_; rintro e w1 ⟨rfl, hb1⟩)
      go_roundw
      case rel =>
        refine ⟨k + 1, by omega, by go_num, ?_, hblk.on hb1, hbel.trans (hb1.mono hbel.size)⟩
        have hbit : l.getD (f + k) 0 < 2 := H01.out _
        have hj := join_bit (num ((l.drop f).take k)) (l.getD (f + k) 0) (by omega) hbit
        rw [List.getD_eq_getElem?_getD] at hj
        rw [HS.out, List.getD_eq_getElem?_getD, hj]
      case measure => simp [intOf]; omega
    · obtain rfl : k = m := by omega
      go_wp2
      go_ret
      exact ⟨rfl, hbel⟩

set_option maxHeartbeats 400000 in
/-- bits.clone: a copy of a bit string, in memory of the call's own. -/
theorem clone_list (A : Option Addr) (n c : Nat) (l : List Nat) (B : Nat) (w : World) (h : Reads w B A n c (bcells (pack l))) (hl : l.length ≤ 131072) (hB : B ≤ w.heap.size) :
    Calls Try.prog 58 #[.agg #[.slice A n c, .int .i64 l.length]] w fun e w' => ∃ A' n' c', e = .returned (.agg #[.slice A' n' c', .int .i64 l.length]) ∧
      w'.ownsRow w.heap.size 5 1 (.slice A' n' c') n' (bcells (pack l)) ∧ Below w.heap.size w w' := by
  obtain ⟨i0, hi, hz0, hz1, hz2⟩ := info_parts byte_info
  have hn := h.len
  rw [bcells_length, pack_length] at hn
  have hn2 : n ≤ 20000 := by omega
  clear hn
  have hO : ∀ o1 o2, (((w.alloc o1).alloc o2).alloc (.cells #[] 5)).drew.ownsRow w.heap.size 5 1 (.slice (some ⟨w.heap.size + 1 + 1, 0, none⟩) 0 0) 0 [] := fun o1 o2 => by
    have := World.ownsRow_lit (base := w.heap.size) (e := 5) (size := 1) ((w.alloc o1).alloc o2) #[] 0 (by simp; omega) (by simp [maxLen]) rfl
    simpa using this.drew
  have hR : ∀ o1 o2 o3, Reads (((w.alloc o1).alloc o2).alloc o3).drew B A n c (bcells (pack l)) := fun o1 o2 o3 => (((h.alloc hB _).alloc (by simp; omega) _).alloc (by simp; omega) _).drew
  have hG : ∀ o1 o2 w1, (((w.alloc (.cells o1 43)).alloc (.cells o2 43)).alloc (.cells #[] 5)).drew.grownBy w1 (some (w.heap.size + 1 + 1)) → Blk w1 w.heap.size 43 o1 ∧ Blk w1 (w.heap.size + 1) 43 o2 ∧ Below w.heap.size w w1 := fun o1 o2 w1 hg => by
    refine ⟨Blk.grown (w := (((w.alloc (.cells o1 43)).alloc (.cells o2 43)).alloc (.cells #[] 5)).drew) ((((Blk.new _ _ _).alloc _).alloc _).drew) hg (by simp; omega),
      Blk.grown (w := (((w.alloc (.cells o1 43)).alloc (.cells o2 43)).alloc (.cells #[] 5)).drew) (by simpa using (((Blk.new (w.alloc (.cells o1 43)) 43 o2).alloc (.cells #[] 5)).drew)) hg (by simp), ?_⟩
    exact (((((Below.refl _ w).alloc (Nat.le_refl _) _).alloc (by simp) _).alloc (by simp; omega) _).drew).grown hg (by simp; omega) (by intro k hk; simp at hk; omega)
  go_enter Try.func58, Try.ntmps58
  go_wp2
  go_region_held3 (fun w' => w'.cell? ⟨w.heap.size, 0, none⟩ = some (.slice A n c) ∧ w'.cell? ⟨w.heap.size, 1, none⟩ = some (.int .i64 l.length)) (go_keep)
    ((refine step_append_any _ (by rfl) _ _ _ (by rfl) w.heap.size 5 i0 _ 1 Try.underlying22 hi hz0 hz1 hz2 (by rfl) (.slice (some ⟨w.heap.size + 1 + 1, 0, none⟩) 0 0) 0 [] (by rfl) (hO _ _) B A n c (bcells (pack l)) (by rfl) (hR _ _ _) (bcells_one _) (by unfold maxLen; omega) (by omega) (by simp; omega) ?_; intro A' c' w1 hown1 hgrow1 hat1; obtain ⟨q0, q1, q2⟩ := hG _ _ _ hgrow1; have d0 := q0.cell 0; have d1 := q0.cell 1; have d2 := q1.cell 0; have d3 := q1.cell 1; have d4 := q1.frozen 0; have d5 := q1.frozen 1; simp at d0 d1 d2 d3; have Q1 := Lib.hid q1; clear q0 q1))
  go_wp2
  have hBk := (Q1.out.set_ 0 (.slice A' n c')).set_ 1 (.int .i64 l.length)
  have r0 := hBk.cell 0
  have r1 := hBk.cell 1
  simp at r0 r1
  refine bodyPost_ret (v := .agg #[.slice A' n c', .int .i64 l.length]) (by simp [results, Try.results58, go_sem, r0, r1]) rfl ⟨A', n, c', rfl, ?_, (q2.setCell (by simp) _).setCell (by simp) _⟩
  simp only [Nat.zero_add, List.nil_append] at hown1 hat1
  have hne : (Value.slice A' n c').ownBlock ≠ some (w.heap.size + 1) := by
    intro h1
    rcases hat1 with h2 | h2 <;> rw [h1] at h2 <;> simp [Value.ownBlock] at h2
  exact own_far_any (own_far_any hown1 hne _) hne _
end PB
end Go.Proofs.Ytlhglomhfbbinaa
