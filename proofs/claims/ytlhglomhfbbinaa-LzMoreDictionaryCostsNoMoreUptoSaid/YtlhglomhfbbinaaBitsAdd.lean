/-
  bits.added adds a number in a width.
-/
import Derived.Test.YtlhglomhfbbinaaRows
import Derived.Test.YtlhglomhfbbinaaBitsNum
import Derived.WalkKit
import Derived.WalkSpells
import Derived.WalkLawsBesides
import Derived.Lib.Hide
import Derived.Deep.RegionHeld3
import Derived.Deep.DrawnRows
import Derived.StillTailTactics
namespace Go.Proofs.Ytlhglomhfbbinaa
open Go.RowKit
attribute [local go_sem ↓] Go.wp_at_zero Go.wp_at_succ
set_option linter.unusedVariables false
set_option linter.unusedSimpArgs false
namespace PB
/-- The digits of a number in a width, the most significant one first. -/
def digs (v : Nat) : Nat → List Nat
  | 0 => []
  | m + 1 => digs (v / 2) m ++ [v % 2]
theorem digs_length (m : Nat) : ∀ v, (digs v m).length = m := by
  induction m with
  | zero => intro v; rfl
  | succ m ih => intro v; simp [digs, ih]
theorem digs_01 (m : Nat) : ∀ v, Is01 (digs v m) := by
  induction m with
  | zero => intro v; exact Is01.nil
  | succ m ih => intro v; exact (ih _).snoc (Nat.mod_lt _ (by decide))
theorem digs_step (v m k : Nat) (h : k < m) : digs (v / 2 ^ (m - (k + 1))) (k + 1) = digs (v / 2 ^ (m - k)) k ++ [v / 2 ^ (m - k - 1) % 2] := by
  show digs (v / 2 ^ (m - (k + 1)) / 2) k ++ [v / 2 ^ (m - (k + 1)) % 2] = _
  rw [Nat.div_div_eq_div_mul, ← Nat.pow_succ, show (m - (k + 1)).succ = m - k by omega, show m - (k + 1) = m - k - 1 by omega]
theorem shr_and_i64 (v k : Nat) (hv : v < 9223372036854775808) : bits .and .i64 ((v : Int) / 2 ^ k) 1 = ((v / 2 ^ k % 2 : Nat) : Int) := by
  have e : ((v : Int) / 2 ^ k) = ((v / 2 ^ k : Nat) : Int) := by simp
  have hx : v / 2 ^ k < 9223372036854775808 := Nat.lt_of_le_of_lt (Nat.div_le_self _ _) hv
  have := i64_and_nat (v / 2 ^ k) 1 hx (by decide)
  rw [nat_mask1] at this
  rw [e]; exact this

set_option maxHeartbeats 800000 in
theorem added_list (A : Option Addr) (n c : Nat) (l : List Nat) (v m : Nat) (base : Nat) (w : World) (h01 : Is01 l) (hl : l.length + m ≤ 200000) (hm : m ≤ 62) (hv : v < 9223372036854775808)
    (hown : w.ownsRow base 5 1 (.slice A n c) n (bcells (pack l))) (hbase : base ≤ w.heap.size) :
    Calls Try.prog 57 #[.agg #[.slice A n c, .int .i64 l.length], .int .i64 v, .int .i64 m] w fun e w' => ∃ A' n' c', e = .returned (.agg #[.slice A' n' c', .int .i64 (l ++ digs v m).length]) ∧
      w'.ownsRow base 5 1 (.slice A' n' c') n' (bcells (pack (l ++ digs v m))) ∧ Below base w w' := by
  go_enter Try.func57, Try.ntmps57
  go_wp2
  go_loopw [7] (fun i wr => ∃ k : Nat, k ≤ m ∧ i = .int .i64 ((m : Int) - k - 1) ∧ ∃ A' n' c', Blk wr w.heap.size 43 #[.slice A' n' c', .int .i64 (l ++ digs (v / 2 ^ (m - k)) k).length] ∧
      wr.ownsRow base 5 1 (.slice A' n' c') n' (bcells (pack (l ++ digs (v / 2 ^ (m - k)) k))) ∧ Blk wr (w.heap.size + 1) 43 #[.slice none 0 0, .int .i64 0] ∧ Below base w wr) (fun i _ => (intOf i + 1).toNat)
  case atStart =>
    refine ⟨0, Nat.zero_le _, by go_num, A, n, c, ?_, ?_, ?_, ?_⟩
    · simpa [digs] using (Blk.new w 43 #[.slice A n c, .int .i64 l.length]).alloc _
    · simpa [digs] using (hown.alloc _).alloc _
    · simpa using Blk.new (w.alloc _) 43 #[.slice none 0 0, .int .i64 0]
    · exact ((Below.refl _ _).alloc hbase _).alloc (by simp; omega) _
  case round =>
    obtain ⟨k, hk, rfl, A', n', c', hb0, ho, hb1, hbel⟩ := hrel
    obtain ⟨L, hL⟩ : ∃ L, L = l ++ digs (v / 2 ^ (m - k)) k := ⟨_, rfl⟩
    rw [← hL] at hb0 ho
    have h01L : Is01 L := by rw [hL]; exact h01.append (digs_01 _ _)
    have hLl : L.length = l.length + k := by rw [hL, List.length_append, digs_length]
    have c0 := hb0.cell 0
    have c1 := hb0.cell 1
    simp at c0 c1
    by_cases hlt : k < m
    · have hbit : v / 2 ^ (m - k - 1) % 2 < 2 := Nat.mod_lt _ (by decide)
      have HL := Lib.hid hL
      have HB := Lib.hid hbit
      have hLb : L.length < 1000000 := by omega
      have HLl := Lib.hid hLl
      have HV := Lib.hid (shr_and_i64 v (m - k - 1) hv)
      have hge : decide ((0 : Int) ≤ (m : Int) - k - 1) = true := by simp; omega
      have hge2 : (0 : Int) ≤ (m : Int) - k - 1 := by omega
      have hmk : ((m : Int) - k - 1) ≤ 61 := by omega
      have hsz := hbel.size
      clear hL hLl hbit hl
      go_wp2_with fail
      go_still_tail 5, (by kernel_rfl)
      change wpList _ _ _ _ _ wr.drew
      go_wp2_with (go_at_call 52; rw [HV.out]; refine (put_any A' n' c' L _ base _ h01L HB.out hLb ho.drew (by simpa using Nat.le_trans hbase hsz)).mono ?_; rintro e w1 ⟨A2, n2, c2, rfl, ho2, hg2⟩; have q0 := hb0.drew.grown hg2 (own_blk_ne ho hb0 (by decide)); have q1 := hb1.drew.grown hg2 (own_blk_ne ho hb1 (by decide)); have d0 := q0.cell 0; have d1 := q0.cell 1; have d2 := q0.frozen 0; have d3 := q0.frozen 1; simp at d0 d1; have hbel2 := hbel.drew.grown hg2 (by simpa using Nat.le_trans hbase hsz) (fun g hg => (ho.lt g hg).1); have HQ0 := Lib.hid q0; have HO2 := Lib.hid ho2; clear q0 ho2)
      go_roundw
      case rel =>
        have hq := own_blk_ne HO2.out HQ0.out (by decide)
        have hstep := digs_step v m k hlt
        have e : L ++ [v / 2 ^ (m - k - 1) % 2] = l ++ digs (v / 2 ^ (m - (k + 1))) (k + 1) := by rw [hstep, HL.out, List.append_assoc]
        refine ⟨k + 1, by omega, by go_num, A2, n2, c2, ?_, ?_, ?_, ?_⟩
        · rw [← e]
          simpa using (HQ0.out.set_ 0 (.slice A2 n2 c2)).set_ 1 (.int .i64 ((L.length : Int) + 1))
        · rw [← e]
          exact own_far_any (own_far_any HO2.out (Ne.symm hq) _) (Ne.symm hq) _
        · exact (q1.far (by simp) _).far (by simp) _
        · exact (hbel2.setCell (by simpa using hbase) _).setCell (by simpa using hbase) _
      case measure => simp [intOf]; omega
    · obtain rfl : k = m := by omega
      have d0 := hb1.cell 0
      have d1 := hb1.cell 1
      have d2 := hb1.frozen 0
      have d3 := hb1.frozen 1
      simp at d0 d1
      have HL := Lib.hid hL
      have hLb : L.length < 1000000 := by omega
      clear hL hLl hl
      go_wp2
      have hBk := (hb1.set_ 0 (.slice A' n' c')).set_ 1 (.int .i64 L.length)
      have r0 := hBk.cell 0
      have r1 := hBk.cell 1
      simp at r0 r1
      have e : L = l ++ digs v k := by rw [HL.out, Nat.sub_self, Nat.pow_zero, Nat.div_one]
      have hq := own_blk_ne ho hb1 (by decide)
      refine bodyPost_ret (v := .agg #[.slice A' n' c', .int .i64 L.length]) (by simp [results, Try.results57, go_sem, r0, r1]) rfl ⟨A', n', c', by rw [e], ?_, (hbel.setCell (by simp; omega) _).setCell (by simp; omega) _⟩
      rw [← e]
      exact own_far_any (own_far_any ho (Ne.symm hq) _) (Ne.symm hq) _
end PB
end Go.Proofs.Ytlhglomhfbbinaa
