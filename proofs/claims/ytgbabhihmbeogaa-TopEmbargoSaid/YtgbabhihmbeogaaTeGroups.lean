/-
  catalogue.checkGroups, catalogue.CheckReader: some code for every list of groups.
-/
import Derived.Test.YtgbabhihmbeogaaTeName
namespace Go.Proofs.Ytgbabhihmbeogaa
open Go.RowKit
attribute [local go_sem ↓] Go.wp_at_zero Go.wp_at_succ
set_option linter.unusedVariables false
set_option linter.unusedSimpArgs false
namespace PB
/-- The cells of a list of texts. -/
def xcells (l : List ByteArray) : List Value := l.map Value.string
theorem xcells_get (l : List ByteArray) (k : Nat) (h : k < l.length) : (xcells l)[k]? = some (.string l[k]) := by
  unfold xcells
  rw [List.getElem?_map, List.getElem?_eq_getElem h]
  rfl
set_option maxRecDepth 100000 in
set_option maxHeartbeats 1600000 in
theorem groups_any {A : Option Addr} {n c : Nat} {l : List ByteArray} {w : World} (h : Rd w A n c (xcells l)) :
    Calls Try.prog 23 #[.slice A n c] w fun e w' => ∃ code : Int, (n = 0 → code = 0) ∧ e = .returned (.int .i64 code) ∧ Below w.heap.size w w' := by
  have hn := h.len
  unfold xcells at hn
  rw [List.length_map] at hn
  have hcap := Reads.cap h
  have hcm := Reads.capMax h
  unfold maxLen at hcm
  subst hn
  have HR := Lib.hid h
  clear h
  go_enter Try.func23, Try.ntmps23
  go_wp2_with fail
  go_loopw [7] (fun iv wr => ∃ k : Nat, k ≤ l.length ∧ iv = .int .i64 (k : Nat) ∧ Below w.heap.size w wr) (fun iv _ => l.length - (intOf iv).toNat)
  case atStart => exact ⟨0, Nat.zero_le _, rfl, Below.refl _ _⟩
  case round =>
    obtain ⟨k, hk, rfl, yr⟩ := hrel
    by_cases hlt : k < l.length
    · obtain ⟨b, off, rfl, hb, hc⟩ := (HR.out.on yr).2.2.2 (by omega)
      have q1 := hc k _ (xcells_get l k hlt)
      obtain ⟨s, hs⟩ : ∃ s, s = l[k] := ⟨_, rfl⟩
      rw [← hs] at q1
      have HYR := Lib.hid yr
      have HCC := Lib.hid hc
      have HNM := Lib.hid (name_any s wr (nameb s) rfl)
      obtain ⟨nb, hnb⟩ : ∃ nb, nb = nameb s := ⟨_, rfl⟩
      rw [← hnb] at HNM
      clear hs yr hc hnb
      go_wp2_with fail
      refine HNM.out.mono ?_
      rintro e w5 ⟨rfl, y5⟩
      have HY5 := Lib.hid (HYR.out.trans (y5.mono HYR.out.size))
      cases nb
      · go_wp2
        go_ret
        exact ⟨7, (fun h => by omega), rfl, HY5.out⟩
      · have q5 := (y5.cell (p := ⟨b, off + k, none⟩) hb).trans q1
        rcases Nat.eq_zero_or_pos k with rfl | hk0
        · clear y5
          go_wp2_with fail
          go_roundw
          case rel => exact ⟨1, by omega, by go_num, HY5.out⟩
          case measure => simp [intOf] <;> omega
        · have q6 := (y5.cell (p := ⟨b, off + (k - 1), none⟩) hb).trans (HCC.out (k - 1) _ (xcells_get l (k - 1) (by omega)))
          obtain ⟨s2, hs2⟩ : ∃ s2, s2 = l[k - 1]'(by omega) := ⟨_, rfl⟩
          rw [← hs2] at q6
          have hk1 : ((k : Int) - 1) = ((k - 1 : Nat) : Int) := by omega
          clear hs2 y5
          go_wp2_with fail
          · go_ret
            exact ⟨11, (fun h => by omega), rfl, HY5.out⟩
          · refine ⟨⟨k + 1, by omega, by go_num, HY5.out⟩, ?_⟩
            simp [intOf] <;> omega
    · obtain rfl : k = l.length := by omega
      go_wp2
      go_ret
      exact ⟨0, fun _ => rfl, rfl, yr⟩
end PB
end Go.Proofs.Ytgbabhihmbeogaa
