/-
  bits.at reads the bit at a position; bits.Valid tells whether a bit string is valid.
-/
import Derived.Test.YtnnpkajmheglgaaRows
import Derived.Test.YtnnpkajmheglgaaBitsMem
import Derived.WalkKit
import Derived.WalkSpells
import Derived.WalkLawsBesides
import Derived.Lib.Hide
namespace Go.Proofs.Ytnnpkajmheglgaa
open Go.RowKit
set_option linter.unusedVariables false
set_option linter.unusedSimpArgs false
namespace PB
theorem shr_and_wrap (x k : Nat) (h : x < 256) : wrap64 (bits .and .u8 ((x : Int) / 2 ^ k) 1) = ((x / 2 ^ k % 2 : Nat) : Int) := by
  have e : ((x : Int) / 2 ^ k) = ((x / 2 ^ k : Nat) : Int) := by simp
  rw [e, u8_shr_and x k h]
  exact IntWalk.wrap64_in _ ⟨by omega, by omega⟩
set_option maxHeartbeats 400000 in
theorem at_any (A : Option Addr) (n c : Nat) (d : List Nat) (cnt : Int) (i : Nat) (B : Nat) (w : World) (h : Reads w B A n c (bcells d)) (hd : ∀ k, d.getD k 0 < 256) (hi : i < 8 * n) (hB : B ≤ w.heap.size) :
    Calls Try.prog 57 #[.agg #[.slice A n c, .int .i64 cnt], .int .i64 i] w fun e w' => e = .returned (.int .i64 (bitAt d i)) ∧ Below w.heap.size w w' := by
  obtain ⟨b, off, rfl, hb, hc⟩ := h.byte (by omega)
  have hcell := hc (i / 8) (by omega)
  have hcm := h.capMax
  have hcap := h.cap
  unfold maxLen at hcm
  have hcell' : ∀ o, (w.alloc o).cell? ⟨b, off + i / 8, none⟩ = some (.int .u8 ((d.getD (i / 8) 0 : Nat) : Int)) := fun o => (World.cell?_alloc_lt _ _ _ (by simp; omega)).trans hcell
  have hx := hd (i / 8)
  clear hd hc h
  go_enter Try.func57, Try.ntmps57
  go_wp2
  go_ret
  refine ⟨ret_int ?_, (Below.refl _ _).alloc (Nat.le_refl _) _⟩
  rw [List.getD_eq_getElem?_getD] at hx
  rw [shr_and_wrap _ _ hx]
  unfold bitAt
  rw [List.getD_eq_getElem?_getD]
/-- bits.at of a bit string that reads as a list of bits. -/
theorem at_list (A : Option Addr) (n c : Nat) (l : List Nat) (i : Nat) (B : Nat) (w : World) (h : Reads w B A n c (bcells (pack l))) (h01 : Is01 l) (hi : i < l.length) (hB : B ≤ w.heap.size) :
    Calls Try.prog 57 #[.agg #[.slice A n c, .int .i64 l.length], .int .i64 i] w fun e w' => e = .returned (.int .i64 (l.getD i 0 : Nat)) ∧ Below w.heap.size w w' := by
  have hn := h.len
  rw [bcells_length, pack_length] at hn
  rw [← bitAt_pack h01]
  exact at_any A n c (pack l) _ i B w h (pack_lt h01) (by omega) hB

/-- What 'valid' asks. -/
def Ok (d : List Nat) (cnt : Int) : Prop := 0 ≤ cnt ∧ cnt ≤ 131072 ∧ (d.length : Int) = (cnt + 7) / 8 ∧ (cnt % 8 = 0 ∨ d.getD (d.length - 1) 0 * 2 ^ (cnt % 8).toNat % 256 = 0)
theorem Ok.of_list {l : List Nat} (h01 : Is01 l) (hl : l.length ≤ 131072) : Ok (pack l) l.length := by
  refine ⟨by omega, by omega, by rw [pack_length]; omega, ?_⟩
  have := (rest_iff (pack l) l.length (pack_lt h01) (pack_length l)).1 (pack_rest h01)
  rcases this with h | h
  · left; omega
  · right
    rw [show ((l.length : Int) % 8).toNat = l.length % 8 by omega]
    exact h
/-- A valid bit string is the packed form of its bits. -/
theorem Ok.list {d : List Nat} {cnt : Int} (hd : ∀ k, d.getD k 0 < 256) (h : Ok d cnt) : ∃ l : List Nat, Is01 l ∧ l.length ≤ 131072 ∧ d = pack l ∧ cnt = l.length := by
  obtain ⟨h0, h1, h2, h3⟩ := h
  obtain ⟨n, rfl⟩ := Int.eq_ofNat_of_zero_le h0
  refine ⟨bitsOf d n, bitsOf_01 d n, by rw [bitsOf_length]; omega, ?_, by rw [bitsOf_length]⟩
  refine (pack_bitsOf d n hd (by omega) ((rest_iff d n hd (by omega)).2 ?_)).symm
  rcases h3 with h | h
  · left; omega
  · right
    rw [show ((n : Int) % 8).toNat = n % 8 by omega] at h
    exact h
set_option maxHeartbeats 400000 in
theorem valid_any (A : Option Addr) (n c : Nat) (d : List Nat) (cnt : Int) (B : Nat) (w : World) (h : Reads w B A n c (bcells d)) (hB : B ≤ w.heap.size) (r : Bool) (hok : r = true ↔ Ok d cnt) :
    Calls Try.prog 46 #[.agg #[.slice A n c, .int .i64 cnt]] w fun e w' => e = .returned (.bool r) ∧ Below w.heap.size w w' := by
  have hcm := h.capMax
  have hcap := h.cap
  have hl := h.len
  rw [bcells_length] at hl
  unfold maxLen at hcm
  by_cases k0 : cnt < 0
  · obtain rfl : r = false := by
      cases r
      · rfl
      · have := (hok.1 rfl).1; omega
    clear hok
    have kk : decide (cnt < 0) = true := by simpa using k0
    go_enter Try.func46, Try.ntmps46
    go_wp2
    go_ret
    exact ⟨rfl, (Below.refl _ _).alloc (Nat.le_refl _) _⟩
  by_cases k1 : cnt ≤ 131072
  case neg =>
    obtain rfl : r = false := by
      cases r
      · rfl
      · have := (hok.1 rfl).2.1; omega
    clear hok
    have kk : decide (cnt < 0) = false := by simpa using k0
    have kk2 : decide (131072 < cnt) = true := by simp; omega
    go_enter Try.func46, Try.ntmps46
    go_wp2
    go_ret
    exact ⟨rfl, (Below.refl _ _).alloc (Nat.le_refl _) _⟩
  by_cases k2 : (d.length : Int) = (cnt + 7) / 8
  case neg =>
    obtain rfl : r = false := by
      cases r
      · rfl
      · exact absurd (hok.1 rfl).2.2.1 k2
    clear hok
    have kk : decide (cnt < 0) = false := by simpa using k0
    have kk2 : decide (131072 < cnt) = false := by simp; omega
    have kk3 : ((n : Int) != (cnt + 7) / 8) = true := by rw [bne_iff_ne]; omega
    have H2 := Lib.hid k2
    clear k2
    go_enter Try.func46, Try.ntmps46
    go_wp2
    go_ret
    exact ⟨rfl, (Below.refl _ _).alloc (Nat.le_refl _) _⟩
  have kk : decide (cnt < 0) = false := by simpa using k0
  have kk2 : decide (131072 < cnt) = false := by simp; omega
  have kk3 : ((n : Int) != (cnt + 7) / 8) = false := by rw [bne_eq_false_iff_eq]; omega
  by_cases h8 : cnt % 8 = 0
  · obtain rfl : r = true := hok.2 ⟨by omega, by omega, k2, .inl h8⟩
    have h8' : (cnt % 8 == 0) = true := by simpa using h8
    have H2 := Lib.hid k2
    have H8 := Lib.hid h8
    clear hok k2 h8
    go_enter Try.func46, Try.ntmps46
    go_wp2
    go_ret
    exact ⟨rfl, (Below.refl _ _).alloc (Nat.le_refl _) _⟩
  · obtain ⟨b, off, rfl, hb, hc⟩ := h.byte (by omega)
    have hcell := hc (n - 1) (by omega)
    have hcell' : ∀ o, (w.alloc o).cell? ⟨b, off + (n - 1), none⟩ = some (.int .u8 ((d.getD (n - 1) 0 : Nat) : Int)) := fun o => (World.cell?_alloc_lt _ _ _ (by simp; omega)).trans hcell
    have hr : (((d.getD (n - 1) 0 : Nat) : Int) * 2 ^ (cnt % 8).toNat % 256 == 0) = r := by
      have e : (((d.getD (n - 1) 0 : Nat) : Int) * 2 ^ (cnt % 8).toNat % 256) = ((d.getD (n - 1) 0 * 2 ^ (cnt % 8).toNat % 256 : Nat) : Int) := by simp
      rw [e, Bool.eq_iff_iff, beq_iff_eq, hok]
      constructor
      · intro h0
        exact ⟨by omega, by omega, k2, .inr (by rw [hl]; omega)⟩
      · rintro ⟨_, _, _, h3 | h3⟩
        · exact absurd h3 h8
        · rw [hl] at h3; omega
    have HR := Lib.hid hr
    have h8' : (cnt % 8 == 0) = false := by simpa using h8
    have hn0 : 1 ≤ n := by omega
    clear hc h hcell hok k2 hr
    go_enter Try.func46, Try.ntmps46
    go_wp2
    go_ret
    refine ⟨ret_bool ?_, (Below.refl _ _).alloc (Nat.le_refl _) _⟩
    rw [← HR.out, List.getD_eq_getElem?_getD]
/-- bits.Valid of a valid bit string. -/
theorem valid_list (A : Option Addr) (n c : Nat) (l : List Nat) (B : Nat) (w : World) (h : Reads w B A n c (bcells (pack l))) (hB : B ≤ w.heap.size) (h01 : Is01 l) (hl : l.length ≤ 131072) :
    Calls Try.prog 46 #[.agg #[.slice A n c, .int .i64 l.length]] w fun e w' => e = .returned (.bool true) ∧ Below w.heap.size w w' :=
  valid_any A n c (pack l) l.length B w h hB true ⟨fun _ => Ok.of_list h01 hl, fun _ => rfl⟩
theorem valid_no (A : Option Addr) (n c : Nat) (d : List Nat) (cnt : Int) (B : Nat) (w : World) (h : Reads w B A n c (bcells d)) (hB : B ≤ w.heap.size) (hno : ¬ Ok d cnt) :
    Calls Try.prog 46 #[.agg #[.slice A n c, .int .i64 cnt]] w fun e w' => e = .returned (.bool false) ∧ Below w.heap.size w w' :=
  valid_any A n c d cnt B w h hB false ⟨(fun h => by cases h), fun h => absurd h hno⟩
end PB
end Go.Proofs.Ytnnpkajmheglgaa
