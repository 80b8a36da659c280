/-
  The calendar in plain words: days of months, days before a year, the number of a date, months later.
-/
import Derived.Test.YtgbabhihmbeogaaRows
namespace Go.Proofs.Ytgbabhihmbeogaa
set_option linter.unusedVariables false
namespace PB
/-- Leap years. -/
def leapy (y : Nat) : Bool := decide (y % 4 = 0) && (decide (y % 100 ≠ 0) || decide (y % 400 = 0))
/-- The days of a month. -/
def mdays (y m : Nat) : Nat := if m = 2 ∧ leapy y = true then 29 else [31, 28, 31, 30, 31, 30, 31, 31, 30, 31, 30, 31].getD (m - 1) 0
/-- The days before a year. -/
def befy (y : Nat) : Nat := 365 * (y - 1) + (y - 1) / 4 + (y - 1) / 400 - (y - 1) / 100
/-- The days of a year before its month m. -/
def befm (y : Nat) : Nat → Nat
  | 0 => 0
  | m + 1 => befm y m + if m = 0 then 0 else mdays y m
/-- The number of a date. -/
def numb (y m d : Nat) : Nat := befy y + d + befm y m
theorem leapy_iff (y : Nat) : leapy y = true ↔ y % 4 = 0 ∧ (y % 100 ≠ 0 ∨ y % 400 = 0) := by
  simp [leapy]
theorem mdays_pos {y m : Nat} (h1 : 1 ≤ m) (h2 : m ≤ 12) : 28 ≤ mdays y m := by
  unfold mdays
  split
  · omega
  · rcases (by omega : m = 1 ∨ m = 2 ∨ m = 3 ∨ m = 4 ∨ m = 5 ∨ m = 6 ∨ m = 7 ∨ m = 8 ∨ m = 9 ∨ m = 10 ∨ m = 11 ∨ m = 12) with rfl | rfl | rfl | rfl | rfl | rfl | rfl | rfl | rfl | rfl | rfl | rfl <;> decide
theorem mdays_le {y m : Nat} : mdays y m ≤ 31 := by
  unfold mdays
  split
  · omega
  · rcases (by omega : m = 0 ∨ m = 1 ∨ m = 2 ∨ m = 3 ∨ m = 4 ∨ m = 5 ∨ m = 6 ∨ m = 7 ∨ m = 8 ∨ m = 9 ∨ m = 10 ∨ m = 11 ∨ m = 12 ∨ 13 ≤ m) with rfl | rfl | rfl | rfl | rfl | rfl | rfl | rfl | rfl | rfl | rfl | rfl | rfl | h
    all_goals first | decide | skip
    rw [List.getD_eq_getElem?_getD, List.getElem?_eq_none (by simp; omega)]
    exact Nat.zero_le _
theorem befm_13 (y : Nat) : befm y 13 = if leapy y = true then 366 else 365 := by
  by_cases h : leapy y = true <;> simp [befm, mdays, h]
theorem befy_succ {y : Nat} (h : 1 ≤ y) : befy (y + 1) = befy y + befm y 13 := by
  rw [befm_13]
  have hl := leapy_iff y
  unfold befy
  rw [Nat.add_sub_cancel]
  split
  · rename_i h1
    have := hl.1 h1
    omega
  · rename_i h1
    have : ¬ (y % 4 = 0 ∧ (y % 100 ≠ 0 ∨ y % 400 = 0)) := fun h => h1 (hl.2 h)
    omega
theorem befm_mono (y : Nat) : ∀ a b, a ≤ b → befm y a ≤ befm y b := by
  intro a b h
  induction b with
  | zero => obtain rfl : a = 0 := by omega
            exact Nat.le_refl _
  | succ b ih =>
    rcases Nat.lt_or_ge b a with h1 | h1
    · obtain rfl : a = b + 1 := by omega
      exact Nat.le_refl _
    · exact Nat.le_trans (ih h1) (by simp only [befm]; omega)
theorem befm_succ {y m : Nat} (h : 1 ≤ m) : befm y (m + 1) = befm y m + mdays y m := by
  simp only [befm]
  rw [if_neg (by omega)]
/-- The days before the month with the index k. -/
def sdays (k : Nat) : Nat := befy (k / 12 + 1) + befm (k / 12 + 1) (k % 12 + 1)
theorem sdays_succ (k : Nat) : sdays (k + 1) = sdays k + mdays (k / 12 + 1) (k % 12 + 1) := by
  unfold sdays
  rw [Nat.add_assoc, ← befm_succ (y := k / 12 + 1) (m := k % 12 + 1) (by omega)]
  rcases (by omega : (k % 12 = 11 ∧ (k + 1) / 12 = k / 12 + 1 ∧ (k + 1) % 12 = 0) ∨ ((k + 1) / 12 = k / 12 ∧ (k + 1) % 12 = k % 12 + 1)) with ⟨h1, h2, h3⟩ | ⟨h1, h2⟩
  · rw [h1, h2, h3, befy_succ (by omega)]
    rfl
  · rw [h1, h2]
theorem sdays_mono : ∀ a b, a ≤ b → sdays a ≤ sdays b := by
  intro a b h
  induction b with
  | zero => obtain rfl : a = 0 := by omega
            exact Nat.le_refl _
  | succ b ih =>
    rcases Nat.lt_or_ge b a with h1 | h1
    · obtain rfl : a = b + 1 := by omega
      exact Nat.le_refl _
    · exact Nat.le_trans (ih h1) (by rw [sdays_succ]; omega)
theorem numb_sdays {y m d : Nat} (h1 : 1 ≤ y) (h2 : 1 ≤ m) (h3 : m ≤ 12) : numb y m d = sdays (12 * (y - 1) + (m - 1)) + d := by
  unfold numb sdays
  rw [show (12 * (y - 1) + (m - 1)) / 12 + 1 = y by omega, show (12 * (y - 1) + (m - 1)) % 12 + 1 = m by omega]
  omega
/-- Months later is no earlier day. -/
theorem later {y m d k : Nat} (h1 : 1 ≤ y) (h2 : 1 ≤ m) (h3 : m ≤ 12) (h4 : 1 ≤ d) (h5 : d ≤ mdays y m) (hk : 12 * (y - 1) + (m - 1) ≤ k) :
    numb y m d ≤ numb (k / 12 + 1) (k % 12 + 1) (min d (mdays (k / 12 + 1) (k % 12 + 1))) := by
  have hp := mdays_pos (y := k / 12 + 1) (m := k % 12 + 1) (by omega) (by omega)
  rw [numb_sdays h1 h2 h3, numb_sdays (by omega) (by omega) (by omega)]
  rw [show 12 * (k / 12 + 1 - 1) + (k % 12 + 1 - 1) = k by omega]
  rcases Nat.eq_or_lt_of_le hk with e | e
  · rw [← e]
    rw [show (12 * (y - 1) + (m - 1)) / 12 + 1 = y by omega, show (12 * (y - 1) + (m - 1)) % 12 + 1 = m by omega]
    omega
  · have := sdays_mono (12 * (y - 1) + (m - 1) + 1) k (by omega)
    rw [sdays_succ] at this
    rw [show (12 * (y - 1) + (m - 1)) / 12 + 1 = y by omega, show (12 * (y - 1) + (m - 1)) % 12 + 1 = m by omega] at this
    omega
theorem befy_first {n : Nat} (h : 1 ≤ n) : befy (n / 366 + 1) < n := by
  unfold befy
  omega
theorem befy_le {y : Nat} (h : y ≤ 10000) : befy y ≤ 3660000 := by
  unfold befy
  omega
theorem befy_last : befy 10000 = 3652059 := by decide
theorem befy_lt {y n : Nat} (h : befy y < n) (hn : n ≤ 3652059) : y ≤ 10000 := by
  unfold befy at h
  omega
end PB
end Go.Proofs.Ytgbabhihmbeogaa
