/-
  The contracts of package bits as the laws use them: every slice that is handed back can be read, somewhere in memory.
-/
import Derived.Test.YtgbabhihmbeogaaRows
import Derived.Test.YtgbabhihmbeogaaBitsEx
import Derived.Test.YtgbabhihmbeogaaBitsRead
import Derived.Test.YtgbabhihmbeogaaBitsSlice
import Derived.Test.YtgbabhihmbeogaaBitsReadBack
namespace Go.Proofs.Ytgbabhihmbeogaa
open Go.RowKit
set_option linter.unusedVariables false
set_option linter.unusedSimpArgs false
namespace PB
theorem Two.new2 (w : World) (o o2 : Obj) (t : TypeId) (v0 v1 : Value) : Two (((w.alloc o).alloc o2).alloc (.cells #[v0, v1] t)) (w.heap.size + 2) t v0 v1 := by
  simpa using Two.new ((w.alloc o).alloc o2) t v0 v1
theorem Rd.none_ (w : World) : Rd w none 0 0 (bcells (pack [])) := Reads.nil _ _ none 0 (Nat.zero_le _)
/-- A slice result: its value and what it reads as. -/
def Out (w' : World) (A : Option Addr) (n c : Nat) (l : List Nat) : Prop := Rd w' A n c (bcells (pack l))
/-! ### gamma codes -/
theorem digs_getD (m : Nat) : ∀ v i, i < m → (digs v m).getD i 0 = v / 2 ^ (m - 1 - i) % 2 := by
  induction m with
  | zero => intro v i h; omega
  | succ m ih =>
    intro v i h
    show (digs (v / 2) m ++ [v % 2]).getD i 0 = _
    rcases Nat.lt_or_ge i m with h1 | h1
    · rw [getD_append_lt (by rw [digs_length]; exact h1), ih _ _ h1, Nat.div_div_eq_div_mul, ← Nat.pow_succ', show (m - 1 - i).succ = m + 1 - 1 - i by omega]
    · obtain rfl : i = m := by omega
      rw [getD_append_ge (by rw [digs_length]; omega), digs_length, show i + 1 - 1 - i = 0 by omega, Nat.sub_self, Nat.pow_zero, Nat.div_one]
      rfl
theorem bitLen_mono {m n : Nat} (h1 : 1 ≤ m) (h : m ≤ n) (hn : n < 2 ^ 64) : Lib.bitLen m ≤ Lib.bitLen n := by
  obtain ⟨a1, a2, a3⟩ := bitLen_bounds m h1 (by omega)
  obtain ⟨b1, b2, b3⟩ := bitLen_bounds n (by omega) hn
  rcases Nat.lt_or_ge (Lib.bitLen n) (Lib.bitLen m) with h2 | h2
  · have : 2 ^ Lib.bitLen n ≤ 2 ^ (Lib.bitLen m - 1) := Nat.pow_le_pow_right (by decide) (by omega)
    omega
  · exact h2
theorem gamma_one {n : Nat} (h1 : 1 ≤ n) (hn : n < 2 ^ 64) : (digs n (gsz n)).getD (Lib.bitLen n - 1) 0 = 1 := by
  obtain ⟨b1, b2, b3⟩ := bitLen_bounds n h1 hn
  unfold gsz
  rw [digs_getD _ _ _ (by omega), show 2 * Lib.bitLen n - 1 - 1 - (Lib.bitLen n - 1) = Lib.bitLen n - 1 by omega]
  have h2 : n / 2 ^ (Lib.bitLen n - 1) < 2 := by
    rw [Nat.div_lt_iff_lt_mul (Nat.two_pow_pos _)]
    have : 2 * 2 ^ (Lib.bitLen n - 1) = 2 ^ Lib.bitLen n := by rw [← Nat.pow_succ']; congr 1; omega
    omega
  have h3 : 0 < n / 2 ^ (Lib.bitLen n - 1) := Nat.div_pos b2 (Nat.two_pow_pos _)
  omega
theorem gamma_zero {n : Nat} (h1 : 1 ≤ n) (hn : n < 2 ^ 64) (i : Nat) (hi : i < Lib.bitLen n - 1) : (digs n (gsz n)).getD i 0 = 0 := by
  obtain ⟨b1, b2, b3⟩ := bitLen_bounds n h1 hn
  unfold gsz
  rw [digs_getD _ _ _ (by omega)]
  have : 2 ^ Lib.bitLen n ≤ 2 ^ (2 * Lib.bitLen n - 1 - 1 - i) := Nat.pow_le_pow_right (by decide) (by omega)
  rw [Nat.div_eq_of_lt (by omega)]
theorem gamma_lt {n : Nat} (h1 : 1 ≤ n) (hn : n < 2 ^ 64) : n < 2 ^ gsz n := by
  obtain ⟨b1, b2, b3⟩ := bitLen_bounds n h1 hn
  have : 2 ^ Lib.bitLen n ≤ 2 ^ gsz n := Nat.pow_le_pow_right (by decide) (by unfold gsz; omega)
  omega
theorem gamma_prefix {m n : Nat} (hm : 1 ≤ m) (hn : 1 ≤ n) (hm2 : m < 2 ^ 64) (hn2 : n < 2 ^ 64) (hle : gsz m ≤ gsz n) (h : digs m (gsz m) = (digs n (gsz n)).take (gsz m)) : m = n := by
  have bm := bitLen_bounds m hm hm2
  have bn := bitLen_bounds n hn hn2
  have hk : Lib.bitLen m ≤ Lib.bitLen n := by unfold gsz at hle; omega
  rcases Nat.lt_or_ge (Lib.bitLen m) (Lib.bitLen n) with hlt | hge
  · have h1 := gamma_one hm hm2
    have h0 := gamma_zero hn hn2 (Lib.bitLen m - 1) (by omega)
    rw [h, List.getD_eq_getElem?_getD, List.getElem?_take, if_pos (by unfold gsz; omega), ← List.getD_eq_getElem?_getD, h0] at h1
    omega
  · have e : gsz m = gsz n := by unfold gsz; omega
    rw [List.take_of_length_le (by rw [digs_length]; omega)] at h
    have := congrArg num h
    rwa [num_digs _ _ (gamma_lt hm hm2), num_digs _ _ (gamma_lt hn hn2)] at this
end PB
end Go.Proofs.Ytgbabhihmbeogaa
