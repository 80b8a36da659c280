/-
  strings.ContainsRune of "-_.": what it answers at runes that are no ASCII.
-/
import Derived.Test.YtgbabhihmbeogaaShelf
import Derived.Test.YtgbabhihmbeogaaBoxes
import Derived.Test.YtgbabhihmbeogaaKit
import Derived.Laws.Runes
import Derived.Deep.Cut
import Derived.Deep.QuietTactic
import Derived.Deep.LoopGhost
import Derived.WalkMore
import Derived.Laws.RangeString
import Derived.Laws.Strings3
import Derived.Lib.IndexAny
namespace Go.Proofs.Ytgbabhihmbeogaa
open Go.RowKit
attribute [local go_sem ↓] Go.wp_at_zero Go.wp_at_succ
set_option linter.unusedVariables false
set_option linter.unusedSimpArgs false
namespace PB
/-- The text of the marks that a name may hold. -/
def marks : ByteArray := ⟨#[45, 95, 46]⟩
theorem marks_no (c : UInt8) (h : 128 ≤ c.toNat) (l : List UInt8) (hl : l = [45, 95, 46] ∨ l = [46] ∨ l = []) : Lib.indexByte l c = -1 := by
  have h1 : c ≠ 45 := by intro e; subst e; simp at h
  have h2 : c ≠ 95 := by intro e; subst e; simp at h
  have h3 : c ≠ 46 := by intro e; subst e; simp at h
  rcases hl with rfl | rfl | rfl <;> simp [Lib.indexByte, h1, h2, h3, Ne.symm h1, Ne.symm h2, Ne.symm h3]
set_option maxRecDepth 100000 in
set_option maxHeartbeats 1600000 in
theorem irune_valid (r : Int) (h1 : 128 ≤ r) (hv : Lib.validRune r = true) (hv2 : Utf8.valid r = true) (he : r ≠ 65533) (w : World) :
    Calls Try.prog 43 #[.string marks, .int .i32 r] w fun e w' => e = .returned (.int .i64 (-1)) ∧ Below w.heap.size w w' := by
  obtain ⟨f1, f2, f3⟩ := encode_facts r hv2 h1
  have HV := Lib.hid (Try.utf8_ValidRune r)
  rw [hv] at HV
  have k1 : decide (r < 128) = false := by simp; omega
  have k2 : (r == 65533) = false := by rw [beq_eq_false_iff_ne]; exact he
  obtain ⟨E, hE⟩ : ∃ E, E = Utf8.encode r := ⟨_, rfl⟩
  rw [← hE] at f1 f2 f3
  have hcv : ∀ w, (convert 21 9 (.int .i32 r)).run Try.prog w = .ok (.string E) w := by
    intro w
    rw [hE]
    exact run_convert_int_string w 21 9 .i32 r (by kernel_rfl) Try.underlying9
  have hE1 := Lib.hid hE
  have F3 := Lib.hid f3
  clear hE f3
  have hms : marks.size = 3 := rfl
  rcases (by omega : E.size = 4 ∨ E.size = 3 ∨ E.size = 2) with hs | hs | hs
  · have F4 := Lib.hid (show ∀ h : 3 < E.size, 128 ≤ (E[3]'h).toNat from by
      have : ∀ k, k = E.size - 1 → ∀ h : k < E.size, 128 ≤ (E[k]'h).toNat := by rintro k rfl; exact F3.out
      exact this 3 (by omega))
    clear f1 f2
    go_enter Try.func43, Try.ntmps43
    go_wp2_with fail
    refine (HV.out _).mono ?_
    rintro e w' ⟨rfl, rfl⟩
    go_wp2
    go_step3
    go_wp2_with fail
    go_loop [9] (fun iv => iv = .int .i64 3) (fun _ => 0)
    case atStart => simp
    case round =>
      subst hrel
      go_wp2
      go_ret
      exact ⟨rfl, Below.refl _ _⟩
  · have F4 := Lib.hid (show ∀ h : 2 < E.size, 128 ≤ (E[2]'h).toNat from by
      have : ∀ k, k = E.size - 1 → ∀ h : k < E.size, 128 ≤ (E[k]'h).toNat := by rintro k rfl; exact F3.out
      exact this 2 (by omega))
    clear f1 f2
    go_enter Try.func43, Try.ntmps43
    go_wp2_with fail
    refine (HV.out _).mono ?_
    rintro e w' ⟨rfl, rfl⟩
    go_wp2
    go_step3
    go_wp2_with fail
    go_loop [9] (fun iv => iv = .int .i64 2) (fun _ => 0)
    case atStart => simp
    case round =>
      subst hrel
      obtain ⟨c, hc⟩ : ∃ c : UInt8, c = E[2]'(by omega) := ⟨_, rfl⟩
      have hc8 : 128 ≤ c.toNat := by rw [hc]; exact F4.out _
      have x1 : ∀ w, (Instr.index 9 (.string marks) (.int .i64 2)).run Try.prog w = .ok (.int .u8 46) w := fun w => rfl
      have x2 : ∀ w, (Instr.index 9 (.string E) (.int .i64 2)).run Try.prog w = .ok (.int .u8 (c.toNat : Nat)) w := by
        intro w
        rw [run_index_string _ _ _ _ _ Try.underlying9, hc]
        have : E[2]? = some (E[2]'(by omega)) := getElem?_pos _ _ _
        simp [this]
        rw [dif_pos (by omega)]
      have hne : ((46 : Int) != ((c.toNat : Nat) : Int)) = true := by rw [bne_iff_ne]; omega
      clear hc
      go_wp2_with fail
      go_step3
      go_upto_region 6 with (fail)
      go_quiet (fail)
      go_wp2_with fail
      obtain ⟨V, hV⟩ : ∃ V, V = w'.drewN nq := ⟨_, rfl⟩
      have YV := Lib.hid (show Below w'.heap.size w' V by rw [hV]; exact belowN (Below.refl _ _) nq)
      rw [← hV]
      clear hV
      have HIB := Lib.hid (fun W => Calls.mono (Try.strings_IndexByte ⟨#[]⟩ (c.toNat : Nat) W) (fun e w' h => (show e = .returned (.int .i64 (-1)) ∧ w' = W from ⟨by rw [h.1, marks_no _ (by simpa using hc8) _ (.inr (.inr rfl))], h.2⟩)))
      have hsl : ∀ w, (Instr.slice 9 (.string marks) (some (.int .i64 3)) none none).run Try.prog w = .ok (.string ⟨#[]⟩) w := fun w => rfl
      go_quiet ((go_at_call 46; exact Calls.quiet_of_same (HIB.out _)))
      go_wp2
      simp (config := { zetaDelta := true }) only [Exit.noGoto_ret, Exit.inBlock, Exit.then, Exit.noGoto]
      go_ret
      exact ⟨rfl, belowN YV.out _⟩
  · have F4 := Lib.hid (show ∀ h : 1 < E.size, 128 ≤ (E[1]'h).toNat from by
      have : ∀ k, k = E.size - 1 → ∀ h : k < E.size, 128 ≤ (E[k]'h).toNat := by rintro k rfl; exact F3.out
      exact this 1 (by omega))
    clear f1 f2
    go_enter Try.func43, Try.ntmps43
    go_wp2_with fail
    refine (HV.out _).mono ?_
    rintro e w' ⟨rfl, rfl⟩
    go_wp2
    go_step3
    go_wp2_with fail
    go_loop [9] (fun iv => iv = .int .i64 1) (fun _ => 0)
    case atStart => simp
    case round =>
      subst hrel
      obtain ⟨c, hc⟩ : ∃ c : UInt8, c = E[1]'(by omega) := ⟨_, rfl⟩
      have hc8 : 128 ≤ c.toNat := by rw [hc]; exact F4.out _
      have x1 : ∀ w, (Instr.index 9 (.string marks) (.int .i64 1)).run Try.prog w = .ok (.int .u8 95) w := fun w => rfl
      have x2 : ∀ w, (Instr.index 9 (.string E) (.int .i64 1)).run Try.prog w = .ok (.int .u8 (c.toNat : Nat)) w := by
        intro w
        rw [run_index_string _ _ _ _ _ Try.underlying9, hc]
        have : E[1]? = some (E[1]'(by omega)) := getElem?_pos _ _ _
        simp [this]
        rw [dif_pos (by omega)]
      have hne : ((95 : Int) != ((c.toNat : Nat) : Int)) = true := by rw [bne_iff_ne]; omega
      clear hc
      go_wp2_with fail
      go_step3
      go_upto_region 6 with (fail)
      go_quiet (fail)
      go_wp2_with fail
      obtain ⟨V, hV⟩ : ∃ V, V = w'.drewN nq := ⟨_, rfl⟩
      have YV := Lib.hid (show Below w'.heap.size w' V by rw [hV]; exact belowN (Below.refl _ _) nq)
      rw [← hV]
      clear hV
      have HIB := Lib.hid (fun W => Calls.mono (Try.strings_IndexByte ⟨#[46]⟩ (c.toNat : Nat) W) (fun e w' h => (show e = .returned (.int .i64 (-1)) ∧ w' = W from ⟨by rw [h.1, marks_no _ (by simpa using hc8) _ (.inr (.inl rfl))], h.2⟩)))
      have hsl : ∀ w, (Instr.slice 9 (.string marks) (some (.int .i64 2)) none none).run Try.prog w = .ok (.string ⟨#[46]⟩) w := fun w => rfl
      go_quiet ((go_at_call 46; exact Calls.quiet_of_same (HIB.out _)))
      go_wp2
      simp (config := { zetaDelta := true }) only [Exit.noGoto_ret, Exit.inBlock, Exit.then, Exit.noGoto]
      go_ret
      exact ⟨rfl, belowN YV.out _⟩
set_option maxRecDepth 100000 in
set_option maxHeartbeats 1600000 in
theorem irune_bad (r : Int) (h1 : 128 ≤ r) (hv : Lib.validRune r = false) (he : r ≠ 65533) (w : World) :
    Calls Try.prog 43 #[.string marks, .int .i32 r] w fun e w' => e = .returned (.int .i64 (-1)) ∧ Below w.heap.size w w' := by
  have HV := Lib.hid (Try.utf8_ValidRune r)
  rw [hv] at HV
  have k1 : decide (r < 128) = false := by simp; omega
  have k2 : (r == 65533) = false := by rw [beq_eq_false_iff_ne]; exact he
  go_enter Try.func43, Try.ntmps43
  go_wp2_with fail
  refine (HV.out _).mono ?_
  rintro e w' ⟨rfl, rfl⟩
  go_wp2
  go_ret
  exact ⟨rfl, Below.refl _ _⟩
set_option maxRecDepth 100000 in
set_option maxHeartbeats 1600000 in
theorem irune_err (w : World) :
    Calls Try.prog 43 #[.string marks, .int .i32 65533] w fun e w' => e = .returned (.int .i64 (-1)) ∧ Below w.heap.size w w' := by
  go_enter Try.func43, Try.ntmps43
  go_wp2_with fail
  go_loopg [5, 6] 3 (fun g _ _ wx => ∃ i : Nat, i + g = 3 ∧ wx = w.iter marks i)
  case atStart => exact ⟨0, rfl, rfl⟩
  case round =>
    obtain ⟨i, hig, rfl⟩ := hrel
    cases gk with
    | zero =>
      obtain rfl : i = 3 := by omega
      have hnx := fun ty => run_next_end (P := Try.prog) w marks 3 ty (by decide)
      go_wp2
      go_ret
      exact ⟨rfl, (Below.refl _ _).alloc (Nat.le_refl _) _⟩
    | succ g =>
      rcases (by omega : i = 0 ∨ i = 1 ∨ i = 2) with rfl | rfl | rfl
      · have hnx := fun ty => run_next_ascii (P := Try.prog) w marks 0 ty (by decide) (by decide)
        go_wp2_with fail
        go_roundg g
        case measure => omega
        case rel => exact ⟨1, by omega, rfl⟩
      · have hnx := fun ty => run_next_ascii (P := Try.prog) w marks 1 ty (by decide) (by decide)
        go_wp2_with fail
        go_roundg g
        case measure => omega
        case rel => exact ⟨2, by omega, rfl⟩
      · have hnx := fun ty => run_next_ascii (P := Try.prog) w marks 2 ty (by decide) (by decide)
        go_wp2_with fail
        go_roundg g
        case measure => omega
        case rel => exact ⟨3, by omega, rfl⟩
theorem irune_any (r : Nat) (h1 : 128 ≤ r) (h2 : r ≤ 1114111) (w : World) :
    Calls Try.prog 43 #[.string marks, .int .i32 (r : Nat)] w fun e w' => e = .returned (.int .i64 (-1)) ∧ Below w.heap.size w w' := by
  by_cases he : r = 65533
  · subst he
    exact irune_err w
  · by_cases hv : Lib.validRune (r : Nat) = true
    · have hv2 : Utf8.valid (r : Nat) = true := by
        unfold Lib.validRune at hv
        unfold Utf8.valid
        simp at hv ⊢
        omega
      exact irune_valid r (by omega) hv hv2 (by omega) w
    · rw [Bool.not_eq_true] at hv
      exact irune_bad r (by omega) hv (by omega) w
set_option maxRecDepth 100000 in
theorem crune_any (r : Nat) (h1 : 128 ≤ r) (h2 : r ≤ 1114111) (w : World) :
    Calls Try.prog 38 #[.string marks, .int .i32 (r : Nat)] w fun e w' => e = .returned (.bool false) ∧ Below w.heap.size w w' := by
  have HI := Lib.hid (irune_any r h1 h2 w)
  go_enter Try.func38, Try.ntmps38
  go_wp2_with fail
  refine HI.out.mono ?_
  rintro e w' ⟨rfl, y⟩
  go_wp2
  go_ret
  exact ⟨rfl, y⟩
/-- A rune that a name may not hold. -/
def nbad (x : Nat) : Bool := (decide (x < 97) || decide (122 < x)) && (decide (x < 48) || decide (57 < x)) && !(decide (x = 45) || decide (x = 95) || decide (x = 46))
theorem marks_has (x : Nat) (h : x < 128) : decide (0 ≤ Lib.indexByte marks.data.toList (x : Int).toNat.toUInt8) = (decide (x = 45) || decide (x = 95) || decide (x = 46)) := by
  have : ∀ y : Fin 128, decide (0 ≤ Lib.indexByte marks.data.toList (y.val : Int).toNat.toUInt8) = (decide (y.val = 45) || decide (y.val = 95) || decide (y.val = 46)) := by decide +kernel
  exact this ⟨x, h⟩
set_option maxRecDepth 100000 in
set_option maxHeartbeats 1600000 in
theorem name1_any (x : Nat) (hx : x ≤ 1114111) (w : World) :
    Calls Try.prog 37 #[.int .i32 (x : Nat)] w fun e w' => e = .returned (.bool (nbad x)) ∧ Below w.heap.size w w' := by
  by_cases h1 : 97 ≤ x ∧ x ≤ 122
  · have hb : nbad x = false := by unfold nbad; simp; omega
    rw [hb]
    obtain ⟨a1, a2⟩ := h1
    clear hb
    go_enter Try.func37, Try.ntmps37
    go_wp2
    go_ret
    exact ⟨rfl, Below.refl _ _⟩
  · by_cases h2 : 48 ≤ x ∧ x ≤ 57
    · have hb : nbad x = false := by unfold nbad; simp; omega
      rw [hb]
      obtain ⟨a1, a2⟩ := h2
      clear hb h1
      go_enter Try.func37, Try.ntmps37
      go_wp2
      go_ret
      exact ⟨rfl, Below.refl _ _⟩
    · have hcall : ∃ b, nbad x = !b ∧ Calls Try.prog 38 #[.string marks, .int .i32 (x : Nat)] w fun e w' => e = .returned (.bool b) ∧ Below w.heap.size w w' := by
        by_cases h3 : x < 128
        · refine ⟨_, ?_, (Try.strings_ContainsRune_ascii marks x w (by omega) (by omega)).mono fun e w' h => ⟨h.1, by rw [h.2]; exact Below.refl _ _⟩⟩
          rw [marks_has x h3]
          unfold nbad
          have q1 : (decide (x < 97) || decide (122 < x)) = true := by simp; omega
          have q2 : (decide (x < 48) || decide (57 < x)) = true := by simp; omega
          rw [q1, q2]
          simp
        · refine ⟨false, ?_, crune_any x (by omega) hx w⟩
          unfold nbad
          simp; omega
      obtain ⟨b, hb, hc⟩ := hcall
      have HC := Lib.hid hc
      rw [hb]
      have hn1 : (x : Int) < 97 ∨ 122 < (x : Int) := by omega
      have hn2 : (x : Int) < 48 ∨ 57 < (x : Int) := by omega
      clear hb hc h1 h2
      rcases hn1 with hn1 | hn1 <;> rcases hn2 with hn2 | hn2
      all_goals
        first
        | (exfalso; omega)
        | (go_enter Try.func37, Try.ntmps37
           go_wp2_with fail
           refine HC.out.mono ?_
           rintro e w' ⟨rfl, y⟩
           go_wp2
           go_ret
           exact ⟨rfl, y⟩)
end PB
end Go.Proofs.Ytgbabhihmbeogaa
