/-
  A number that was added to a bit string is read at its place, and the bits before it are unchanged: the walk of the statement BitsReadBack.
-/
import Derived.Test.YtcmglfgibedpbaaRows
import Derived.Test.YtcmglfgibedpbaaBitsEx
import Derived.Test.YtcmglfgibedpbaaBitsRead
import Derived.Test.YtcmglfgibedpbaaBitsSlice
namespace Go.Proofs.Ytcmglfgibedpbaa
open Go.RowKit
set_option linter.unusedVariables false
set_option linter.unusedSimpArgs false
namespace PB
/-- Which fault bits.Append tells. -/
def AErr (d : List Nat) (cnt value width code idx : Int) : Prop :=
  (¬ Ok d cnt ∧ code = 6 ∧ idx = -1) ∨
  (Ok d cnt ∧ (value < 0 ∨ (0 ≤ width ∧ width ≤ 32 ∧ (2 : Int) ^ width.toNat ≤ value)) ∧ code = 4 ∧ idx = -2) ∨
  (Ok d cnt ∧ 0 ≤ value ∧ (width < 0 ∨ 32 < width) ∧ code = 4 ∧ idx = -3) ∨
  (Ok d cnt ∧ 0 ≤ value ∧ 0 ≤ width ∧ width ≤ 32 ∧ value < (2 : Int) ^ width.toNat ∧ 131072 < cnt + width ∧ code = 14 ∧ idx = -1)
/-- bits.Append succeeds. -/
def AOk (d : List Nat) (cnt value width : Int) (l : List Nat) (v m : Nat) : Prop :=
  Is01 l ∧ l.length ≤ 131072 ∧ d = pack l ∧ cnt = l.length ∧ value = v ∧ width = m ∧ m ≤ 32 ∧ v < 2 ^ m ∧ l.length + m ≤ 131072
theorem append_cases (d : List Nat) (cnt value width : Int) (hd : ∀ k, d.getD k 0 < 256) : (∃ code idx, AErr d cnt value width code idx) ∨ ∃ l v m, AOk d cnt value width l v m := by
  by_cases h0 : Ok d cnt
  case neg => exact .inl ⟨6, -1, .inl ⟨h0, rfl, rfl⟩⟩
  by_cases h1 : value < 0 ∨ (0 ≤ width ∧ width ≤ 32 ∧ (2 : Int) ^ width.toNat ≤ value)
  · exact .inl ⟨4, -2, .inr (.inl ⟨h0, h1, rfl, rfl⟩)⟩
  by_cases h2 : width < 0 ∨ 32 < width
  · exact .inl ⟨4, -3, .inr (.inr (.inl ⟨h0, by omega, h2, rfl, rfl⟩))⟩
  have hw0 : 0 ≤ width := by omega
  have hw1 : width ≤ 32 := by omega
  have hv0 : 0 ≤ value := by omega
  have hv1 : value < (2 : Int) ^ width.toNat := by
    rcases Int.lt_or_le value ((2 : Int) ^ width.toNat) with h | h
    · exact h
    · exact absurd (.inr ⟨hw0, hw1, h⟩) h1
  by_cases h3 : 131072 < cnt + width
  · exact .inl ⟨14, -1, .inr (.inr (.inr ⟨h0, hv0, hw0, hw1, hv1, h3, rfl, rfl⟩))⟩
  · obtain ⟨l, g1, g2, g3, g4⟩ := h0.list hd
    obtain ⟨v, rfl⟩ := Int.eq_ofNat_of_zero_le hv0
    obtain ⟨m, rfl⟩ := Int.eq_ofNat_of_zero_le hw0
    refine .inr ⟨l, v, m, g1, g2, g3, g4, rfl, rfl, by omega, ?_, by omega⟩
    rw [Int.toNat_natCast] at hv1
    have e : ((2 : Int) ^ m) = ((2 ^ m : Nat) : Int) := by simp
    omega
theorem append_err {A : Option Addr} {n c : Nat} {d : List Nat} {cnt value width code idx : Int} (hd : ∀ k, d.getD k 0 < 256) (hE : AErr d cnt value width code idx) (hv : value < 9223372036854775808) (w : World) (h : Rd w A n c (bcells d)) :
    Calls Try.prog 26 #[.agg #[.slice A n c, .int .i64 cnt], .int .i64 value, .int .i64 width] w fun e w' => e = .returned (.tuple #[.agg #[.slice none 0 0, .int .i64 0], .agg #[.int .i64 code, .int .i64 idx]]) ∧ Below w.heap.size w w' := by
  rcases hE with ⟨h0, rfl, rfl⟩ | ⟨h0, h1, rfl, rfl⟩ | ⟨h0, h1, h2, rfl, rfl⟩ | ⟨h0, h1, h2, h3, h4, h5, rfl, rfl⟩
  · exact append_form A n c d cnt value width _ w h (Nat.le_refl _) h0
  · obtain ⟨l, g1, g2, rfl, rfl⟩ := h0.list hd
    by_cases hv0 : value < 0
    · exact append_neg A n c l value width _ w h (Nat.le_refl _) g1 g2 hv0
    · have h1' : 0 ≤ width ∧ width ≤ 32 ∧ (2 : Int) ^ width.toNat ≤ value := by
        rcases h1 with h1 | h1
        · exact absurd h1 hv0
        · exact h1
      obtain ⟨p0, p1, p2⟩ := h1'
      obtain ⟨v, rfl⟩ := Int.eq_ofNat_of_zero_le (show 0 ≤ value by omega)
      obtain ⟨m, rfl⟩ := Int.eq_ofNat_of_zero_le p0
      rw [Int.toNat_natCast] at p2
      have e : ((2 : Int) ^ m) = ((2 ^ m : Nat) : Int) := by simp
      exact append_big A n c l v m _ w h (Nat.le_refl _) g1 g2 (by omega) (by omega) (by omega)
  · obtain ⟨l, g1, g2, rfl, rfl⟩ := h0.list hd
    obtain ⟨v, rfl⟩ := Int.eq_ofNat_of_zero_le h1
    rcases h2 with h2 | h2
    · exact append_narrow A n c l v width _ w h (Nat.le_refl _) g1 g2 h2
    · exact append_wide A n c l v width _ w h (Nat.le_refl _) g1 g2 h2
  · obtain ⟨l, g1, g2, rfl, rfl⟩ := h0.list hd
    obtain ⟨v, rfl⟩ := Int.eq_ofNat_of_zero_le h1
    obtain ⟨m, rfl⟩ := Int.eq_ofNat_of_zero_le h2
    rw [Int.toNat_natCast] at h4
    have e : ((2 : Int) ^ m) = ((2 ^ m : Nat) : Int) := by simp
    exact append_large A n c l v m _ w h (Nat.le_refl _) g1 g2 (by omega) (by omega) (by omega)
theorem AErr.code {d : List Nat} {cnt value width code idx : Int} (h : AErr d cnt value width code idx) : (code != 0) = true := by
  rcases h with ⟨_, rfl, _⟩ | ⟨_, _, rfl, _⟩ | ⟨_, _, _, rfl, _⟩ | ⟨_, _, _, _, _, _, rfl, _⟩ <;> decide
theorem num_digs (m : Nat) : ∀ v, v < 2 ^ m → num (digs v m) = v := by
  induction m with
  | zero => intro v h; simp at h; subst h; rfl
  | succ m ih =>
    intro v h
    show num (digs (v / 2) m ++ [v % 2]) = v
    rw [num_snoc, ih (v / 2) (by rw [Nat.pow_succ] at h; omega)]
    omega
theorem zero_lt (k : Nat) : ([] : List Nat).getD k 0 < 256 := by simp

set_option maxHeartbeats 1600000 in
theorem readback_err {A : Option Addr} {n c : Nat} {d : List Nat} {cnt value width code idx : Int} (hd : ∀ k, d.getD k 0 < 256) (hE : AErr d cnt value width code idx) (hv : value < 9223372036854775808) (w : World) (h : Rd w A n c (bcells d)) :
    Calls Try.prog 8 #[.agg #[.slice A n c, .int .i64 cnt], .int .i64 value, .int .i64 width] w fun e w' => e = .returned (.bool true) ∧ Below w.heap.size w w' := by
  have hcode := hE.code
  have y0 : Below w.heap.size w (w.alloc (.cells #[.slice A n c, .int .i64 cnt] 24)) := (Below.refl _ _).alloc (Nat.le_refl _) _
  have HA := Lib.hid (append_err (A := A) (n := n) (c := c) hd hE hv (w.alloc (.cells #[.slice A n c, .int .i64 cnt] 24)) (h.alloc _))
  clear hE hv hd
  go_enter Try.func8, Try.ntmps8
  go_wp2_with fail
  refine HA.out.mono ?_
  rintro e w1 ⟨rfl, y1⟩
  have z1 := y0.trans (y1.mono y0.size)
  have X1 := (Two.new w1 24 (.slice none 0 0) (.int .i64 0)).alloc (.cells #[.int .i64 code, .int .i64 idx] 26)
  have F1 := Two.new1 w1 (.cells #[.slice none 0 0, .int .i64 0] 24) 26 (.int .i64 code) (.int .i64 idx)
  have Z1 := (z1.alloc z1.size (.cells #[.slice none 0 0, .int .i64 0] 24)).alloc (by simp; have := z1.size; omega) (.cells #[.int .i64 code, .int .i64 idx] 26)
  go_wp2_with fail
  refine (strings_true _).mono ?_
  rintro e w2 ⟨rfl, y2⟩
  have X2 := X1.on y2
  have F2 := F1.on y2
  have Z2 := Z1.trans (y2.mono Z1.size)
  have f0 := F2.c0
  go_wp2_with fail
  refine (strings_true _).mono ?_
  rintro e w3 ⟨rfl, y3⟩
  have X3 := X2.on y3
  have Z3 := Z2.trans (y3.mono Z2.size)
  have x0 := X3.c0
  have x1 := X3.c1
  go_wp2_with fail
  refine (samebits_any none 0 0 [] 0 none 0 0 [] 0 _ (Reads.nil _ _ none 0 (Nat.zero_le _)) (Reads.nil _ _ none 0 (Nat.zero_le _)) zero_lt zero_lt true rfl).mono ?_
  rintro e w4 ⟨rfl, y4⟩
  go_wp2
  go_ret
  exact ⟨rfl, Z3.trans (y4.mono Z3.size)⟩

set_option maxHeartbeats 1600000 in
theorem readback_ok {A : Option Addr} {n c : Nat} {l : List Nat} {v m : Nat} (h01 : Is01 l) (hl : l.length ≤ 131072) (hm : m ≤ 32) (hv : v < 2 ^ m) (hs : l.length + m ≤ 131072) (w : World) (h : Rd w A n c (bcells (pack l))) :
    Calls Try.prog 8 #[.agg #[.slice A n c, .int .i64 l.length], .int .i64 v, .int .i64 m] w fun e w' => e = .returned (.bool true) ∧ Below w.heap.size w w' := by
  have y0 : Below w.heap.size w (w.alloc (.cells #[.slice A n c, .int .i64 l.length] 24)) := (Below.refl _ _).alloc (Nat.le_refl _) _
  have B0 := Two.new w 24 (.slice A n c) (.int .i64 l.length)
  have R0 := h.alloc (.cells #[.slice A n c, .int .i64 l.length] 24)
  have hLL : (l ++ digs v m).length = l.length + m := by rw [List.length_append, digs_length]
  have H01 := Lib.hid h01
  have HV := Lib.hid hv
  obtain ⟨L, hL⟩ : ∃ L, L = l ++ digs v m := ⟨_, rfl⟩
  have HA := Lib.hid (append_ok A n c l v m _ (w.alloc (.cells #[.slice A n c, .int .i64 l.length] 24)) R0 (Nat.le_refl _) h01 hl hm hv hs)
  rw [← hL] at HA hLL
  have h01L : Is01 L := by rw [hL]; exact h01.append (digs_01 _ _)
  have hnum : num ((L.drop l.length).take m) = v := by
    rw [hL, List.drop_left, List.take_of_length_le (by rw [digs_length]; exact Nat.le_refl _), num_digs m v hv]
  have hpre : (L.drop 0).take (l.length - 0) = l := by rw [hL, List.drop_zero, Nat.sub_zero, List.take_left]
  have HLL := Lib.hid hLL
  have HN := Lib.hid hnum
  have HP := Lib.hid hpre
  have HL01 := Lib.hid h01L
  have hLb : L.length ≤ 131072 := by omega
  have hlL : l.length + m ≤ L.length := by omega
  clear hL h01 hv hLL hnum hpre h01L h
  go_enter Try.func8, Try.ntmps8
  go_wp2_with fail
  refine HA.out.mono ?_
  unfold flt
  rintro e w1 ⟨Ax, nx, cx, rfl, ho, y1⟩
  have B1 := ((B0.on y1).alloc (.cells #[.slice Ax nx cx, .int .i64 L.length] 24)).alloc (.cells #[.int .i64 0, .int .i64 0] 26)
  have R1 := ((R0.on y1).alloc (.cells #[.slice Ax nx cx, .int .i64 L.length] 24)).alloc (.cells #[.int .i64 0, .int .i64 0] 26)
  have RX1 := ((Rd.own ho).alloc (.cells #[.slice Ax nx cx, .int .i64 L.length] 24)).alloc (.cells #[.int .i64 0, .int .i64 0] 26)
  have X1 := (Two.new w1 24 (.slice Ax nx cx) (.int .i64 L.length)).alloc (.cells #[.int .i64 0, .int .i64 0] 26)
  have F1 := Two.new1 w1 (.cells #[.slice Ax nx cx, .int .i64 L.length] 24) 26 (.int .i64 0) (.int .i64 0)
  have z1 := y0.trans (y1.mono y0.size)
  have Z1 := (z1.alloc z1.size (.cells #[.slice Ax nx cx, .int .i64 L.length] 24)).alloc (by simp; have := z1.size; omega) (.cells #[.int .i64 0, .int .i64 0] 26)
  go_wp2_with fail
  refine (strings_true _).mono ?_
  rintro e w2 ⟨rfl, y2⟩
  have B2 := B1.on y2
  have R2 := R1.on y2
  have RX2 := RX1.on y2
  have X2 := X1.on y2
  have F2 := F1.on y2
  have Z2 := Z1.trans (y2.mono Z1.size)
  have f0 := F2.c0
  have b0 := B2.c0
  have b1 := B2.c1
  have x0 := X2.c0
  have x1 := X2.c1
  clear B1 R1 RX1 X1 F1 B0 R0
  go_wp2_with fail
  refine (read_ok Ax nx cx L l.length m _ _ RX2 (Nat.le_refl _) HL01.out hLb hm hlL).mono ?_
  unfold flt
  rw [HN.out]
  rintro e w3 ⟨rfl, y3⟩
  have B3 := (B2.on y3).alloc (.cells #[.int .i64 0, .int .i64 0] 26)
  have R3 := (R2.on y3).alloc (.cells #[.int .i64 0, .int .i64 0] 26)
  have RX3 := (RX2.on y3).alloc (.cells #[.int .i64 0, .int .i64 0] 26)
  have X3 := (X2.on y3).alloc (.cells #[.int .i64 0, .int .i64 0] 26)
  have G3 := Two.new w3 26 (.int .i64 0) (.int .i64 0)
  have z3 := Z2.trans (y3.mono Z2.size)
  have Z3 := z3.alloc z3.size (.cells #[.int .i64 0, .int .i64 0] 26)
  have b0' := B3.c0
  have b1' := B3.c1
  have x0' := X3.c0
  have x1' := X3.c1
  clear B2 R2 RX2 X2 F2 f0 b0 b1 x0 x1
  go_wp2_with fail
  refine (slice_ok Ax nx cx L 0 l.length _ _ RX3 (Nat.le_refl _) HL01.out hLb (Nat.zero_le _) (by omega)).mono ?_
  unfold flt
  rw [HP.out]
  rintro e w4 ⟨Ay, ny, cy, rfl, hoy, y4⟩
  have B4 := ((B3.on y4).alloc (.cells #[.slice Ay ny cy, .int .i64 l.length] 24)).alloc (.cells #[.int .i64 0, .int .i64 0] 26)
  have R4 := ((R3.on y4).alloc (.cells #[.slice Ay ny cy, .int .i64 l.length] 24)).alloc (.cells #[.int .i64 0, .int .i64 0] 26)
  have RY4 := ((Rd.own hoy).alloc (.cells #[.slice Ay ny cy, .int .i64 l.length] 24)).alloc (.cells #[.int .i64 0, .int .i64 0] 26)
  have X4 := ((X3.on y4).alloc (.cells #[.slice Ay ny cy, .int .i64 l.length] 24)).alloc (.cells #[.int .i64 0, .int .i64 0] 26)
  have G4 := ((G3.on y4).alloc (.cells #[.slice Ay ny cy, .int .i64 l.length] 24)).alloc (.cells #[.int .i64 0, .int .i64 0] 26)
  have z4 := Z3.trans (y4.mono Z3.size)
  have Z4 := (z4.alloc z4.size (.cells #[.slice Ay ny cy, .int .i64 l.length] 24)).alloc (by simp; have := z4.size; omega) (.cells #[.int .i64 0, .int .i64 0] 26)
  have b0 := B4.c0
  have b1 := B4.c1
  have g0 := G4.c0
  clear B3 R3 RX3 X3 G3 b0' b1' x0' x1'
  go_wp2_with fail
  refine (samebits_any Ay ny cy (pack l) l.length A n c (pack l) l.length _ RY4 R4 (pack_lt H01.out) (pack_lt H01.out) true (by simp)).mono ?_
  rintro e w5 ⟨rfl, y5⟩
  have B5 := B4.on y5
  have X5 := X4.on y5
  have c1 := B5.c1
  have d1 := X5.c1
  have hcmp : ((L.length : Int) == (l.length : Int) + (m : Int)) = true := by rw [beq_iff_eq]; have := HLL.out; omega
  clear B4 X4 G4 R4 RY4
  go_wp2
  go_ret
  exact ⟨rfl, Z4.trans (y5.mono Z4.size)⟩
theorem readback_all {A : Option Addr} {n c : Nat} {d : List Nat} {cnt value width : Int} (hd : ∀ k, d.getD k 0 < 256) (hv : value < 9223372036854775808) (w : World) (h : Rd w A n c (bcells d)) :
    Calls Try.prog 8 #[.agg #[.slice A n c, .int .i64 cnt], .int .i64 value, .int .i64 width] w fun e w' => e = .returned (.bool true) ∧ Below w.heap.size w w' := by
  rcases append_cases d cnt value width hd with ⟨code, idx, hE⟩ | ⟨l, v, m, g1, g2, rfl, rfl, rfl, rfl, g3, g4, g5⟩
  · exact readback_err hd hE hv w h
  · exact readback_ok g1 g2 g3 g4 g5 w h
end PB
end Go.Proofs.Ytcmglfgibedpbaa
