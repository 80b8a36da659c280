/-
  value.Name: some answer for every text; true for the text of the closed example.
-/
import Derived.Test.YtgbabhihmbeogaaTeRune
namespace Go.Proofs.Ytgbabhihmbeogaa
open Go.RowKit
attribute [local go_sem ↓] Go.wp_at_zero Go.wp_at_succ
set_option linter.unusedVariables false
set_option linter.unusedSimpArgs false
namespace PB
theorem cfunc_any (s : ByteArray) (w : World) :
    Calls Try.prog 36 #[.string s, .func (.func 37) #[] #[]] w fun e w' => e = .returned (.bool (decide (0 ≤ Lib.idxFunc nbad true s))) ∧ Below w.heap.size w w' :=
  Try.strings_ContainsFunc_grows 37 #[] (enters_of Try.func37 (by kernel_rfl) rfl) nbad s w (fun W x hx hb => name1_any x hx W)
set_option maxRecDepth 100000 in
set_option maxHeartbeats 1600000 in
theorem name_a (w : World) :
    Calls Try.prog 28 #[.string ⟨#[97]⟩] w fun e w' => e = .returned (.bool true) ∧ Below w.heap.size w w' := by
  have HC := Lib.hid (cfunc_any ⟨#[97]⟩ w)
  rw [show decide (0 ≤ Lib.idxFunc nbad true ⟨#[97]⟩) = false by decide +kernel] at HC
  go_enter Try.func28, Try.ntmps28
  go_wp2_with fail
  refine HC.out.mono ?_
  rintro e w' ⟨rfl, y⟩
  go_wp2
  go_ret
  exact ⟨rfl, y⟩
/-- Whether a text is a name. -/
def nameb (s : ByteArray) : Bool := !(decide (s.size = 0) || decide (32 < s.size) || decide ((s.data.toList.getD 0 0).toNat < 97) || decide (122 < (s.data.toList.getD 0 0).toNat)) && !decide (0 ≤ Lib.idxFunc nbad true s)
set_option maxRecDepth 100000 in
set_option maxHeartbeats 1600000 in
theorem name_any (s : ByteArray) (w : World) (b : Bool) (hb : b = nameb s) :
    Calls Try.prog 28 #[.string s] w fun e w' => e = .returned (.bool b) ∧ Below w.heap.size w w' := by
  by_cases h0 : s.size = 0
  · obtain rfl : s = ⟨#[]⟩ := by
      cases s with
      | mk d => cases d with
        | mk l => cases l with
          | nil => rfl
          | cons a r => simp [ByteArray.size] at h0
    obtain rfl : b = false := by rw [hb]; rfl
    clear h0 hb
    go_enter Try.func28, Try.ntmps28
    go_wp2
    go_ret
    exact ⟨rfl, Below.refl _ _⟩
  · have hne : ¬ s.toList = [] := by
      rw [Lib.toList_data]
      intro e
      apply h0
      rw [Lib.size_eq, e]
      rfl
    have hemp : s.toList.isEmpty = false := by
      cases h : s.toList with
      | nil => exact absurd h hne
      | cons _ _ => rfl
    by_cases h1 : 32 < s.size
    · obtain rfl : b = false := by rw [hb]; simp [nameb, h1]
      clear hb
      go_enter Try.func28, Try.ntmps28
      go_wp2
      go_ret
      exact ⟨rfl, Below.refl _ _⟩
    · obtain ⟨c, hc⟩ : ∃ c : UInt8, c = s[0]'(by omega) := ⟨_, rfl⟩
      have hcl : s.data.toList.getD 0 0 = c := by
        rw [List.getD_eq_getElem?_getD, Lib.data_getElem? s 0 (by omega), hc]
        rfl
      have x1 : ∀ w, (Instr.index 9 (.string s) (.int .i64 0)).run Try.prog w = .ok (.int .u8 (c.toNat : Nat)) w := by
        intro w
        rw [run_index_string _ _ _ _ _ Try.underlying9, hc]
        have : s[0]? = some (s[0]'(by omega)) := getElem?_pos _ _ _
        simp [this]
        rw [dif_pos (by omega)]
      have HC := Lib.hid (cfunc_any s w)
      obtain ⟨q, hq⟩ : ∃ q, q = decide (0 ≤ Lib.idxFunc nbad true s) := ⟨_, rfl⟩
      rw [← hq] at HC
      unfold nameb at hb
      rw [hcl, ← hq] at hb
      have HB := Lib.hid hb
      clear hc hq hb hcl
      by_cases h2 : c.toNat < 97
      · obtain rfl : b = false := by rw [HB.out]; simp [h2]
        go_enter Try.func28, Try.ntmps28
        go_wp2
        go_ret
        exact ⟨rfl, Below.refl _ _⟩
      · by_cases h3 : 122 < c.toNat
        · obtain rfl : b = false := by rw [HB.out]; simp [h3]
          go_enter Try.func28, Try.ntmps28
          go_wp2
          go_ret
          exact ⟨rfl, Below.refl _ _⟩
        · obtain rfl : b = !q := by rw [HB.out]; simp [h0, h1, h2, h3]
          go_enter Try.func28, Try.ntmps28
          go_wp2_with fail
          refine HC.out.mono ?_
          rintro e w' ⟨rfl, y⟩
          go_wp2
          go_ret
          exact ⟨rfl, y⟩
end PB
end Go.Proofs.Ytgbabhihmbeogaa
