/-
  bits.Text hands back the characters of a bit string, or tells why it cannot.
-/
import Derived.Test.YtnnpkajmheglgaaRows
import Derived.Test.YtnnpkajmheglgaaBitsBox
import Derived.WalkKit
import Derived.WalkSpells
import Derived.WalkLawsBesides
import Derived.Lib.Hide
import Derived.BigQuiet
import Derived.Test.YtnnpkajmheglgaaBitsStr
import Derived.Test.YtnnpkajmheglgaaBitsSlice
namespace Go.Proofs.Ytnnpkajmheglgaa
open Go.RowKit
attribute [local go_sem ↓] Go.wp_at_zero Go.wp_at_succ
set_option linter.unusedVariables false
set_option linter.unusedSimpArgs false
namespace PB
/-- The characters of the first k bits, and zeros. -/
def txt (l : List Nat) (k : Nat) : List Nat := (l.take k).map (48 + ·) ++ List.replicate (l.length - k) 0
theorem txt_length (l : List Nat) (k : Nat) (h : k ≤ l.length) : (txt l k).length = l.length := by simp [txt]; omega
theorem txt_set (l : List Nat) (k : Nat) (h : k < l.length) : txt l (k + 1) = (txt l k).set k (48 + l.getD k 0) := by
  have e : ((l.take k).map (48 + ·)).length = k := by simp; omega
  have hrep : List.replicate (l.length - k) 0 = 0 :: List.replicate (l.length - (k + 1)) 0 := by
    rw [show l.length - k = l.length - (k + 1) + 1 by omega]; rfl
  unfold txt
  rw [List.take_succ_eq_append_getElem h, List.map_append, hrep, List.set_append_right _ _ (by omega), e, Nat.sub_self, List.append_assoc, getD_lt h]
  rfl
theorem txt_cell (l : List Nat) (k : Nat) (h : k < l.length) : (bcells (txt l k))[k]? = some (.int .u8 0) := by
  have e : ((l.take k).map (48 + ·)).length = k := by simp; omega
  rw [bcells_get _ _ (by rw [txt_length l k (by omega)]; exact h)]
  unfold txt
  rw [getD_append_ge (by omega), e, Nat.sub_self, show l.length - k = l.length - (k + 1) + 1 by omega]
  rfl
set_option maxHeartbeats 800000 in
theorem text_form (A : Option Addr) (n c : Nat) (d : List Nat) (cnt : Int) (B : Nat) (w : World) (h : Reads w B A n c (bcells d)) (hB : B ≤ w.heap.size) (hno : ¬ Ok d cnt) :
    Calls Try.prog 44 #[.agg #[.slice A n c, .int .i64 cnt]] w fun e w' => e = .returned (.tuple #[.string ⟨#[]⟩, flt 6 (-1)]) ∧ Below w.heap.size w w' := by
  try unfold noBits
  try unfold flt
  have X0 := Box2.start w (.slice A n c) (.int .i64 cnt)
  have hb0 := below_box2 w (.cells #[.slice A n c, .int .i64 cnt] 25) (.cells #[.int .i64 0, .int .i64 0] 27)
  have hR := h.below (hb0.mono hB)
  go_enter Try.func44, Try.ntmps44
  go_wp2_with (first
    | (go_at_call 46; refine (valid_no A n c d cnt B _ hR (by simp; omega) hno).mono ?_; rintro e w1 ⟨rfl, hb1⟩; have X1 := X0.on hb1; have y1 := hb0.trans (hb1.mono (by simp; omega)); obtain ⟨d0, d1, d2, d3, d4, d5, d6⟩ := X1.facts)
    | (go_at_call 55; refine (fault_any _ _ _).mono ?_; rintro e w2 ⟨rfl, hb2⟩; have X2 := X1.on hb2; have y2 := y1.trans (hb2.mono y1.size); obtain ⟨e0, e1, e2, e3, e4, e5, e6⟩ := X2.facts))
  all_goals
    obtain ⟨r0, r1⟩ := X2.ends (.int .i64 6) (.int .i64 (-1))
    exact bodyPost_ret (v := .tuple #[.string ⟨#[]⟩, .agg #[.int .i64 6, .int .i64 (-1)]]) (by simp [results, Try.results44, go_sem, r0, r1]) rfl ⟨rfl, below_ends2 y2 _ _⟩
set_option maxHeartbeats 800000 in
theorem text_ok (A : Option Addr) (n c : Nat) (l : List Nat) (B : Nat) (w : World) (h : Reads w B A n c (bcells (pack l))) (hB : B ≤ w.heap.size) (h01 : Is01 l) (hl : l.length ≤ 131072) :
    Calls Try.prog 44 #[.agg #[.slice A n c, .int .i64 l.length]] w fun e w' => e = .returned (.tuple #[.string (bstr (l.map (48 + ·))), flt 0 0]) ∧ Below w.heap.size w w' := by
  try unfold noBits
  try unfold flt
  have X0 := Box2.start w (.slice A n c) (.int .i64 l.length)
  have hb0 := below_box2 w (.cells #[.slice A n c, .int .i64 l.length] 25) (.cells #[.int .i64 0, .int .i64 0] 27)
  have hR := h.below (hb0.mono hB)
  have H01 := Lib.hid h01
  clear h01
  go_enter Try.func44, Try.ntmps44
  obtain ⟨i0, hi, hz0, hz1, hz2⟩ := info_parts byte_info
  go_wp2_with (first
    | (go_at_call 46; refine (valid_list A n c l B _ hR (by simp; omega) H01.out hl).mono ?_; rintro e w1 ⟨rfl, hb1⟩; have X1 := X0.on hb1; have y1 := hb0.trans (hb1.mono (by simp; omega)); obtain ⟨d0, d1, d2, d3, d4, d5, d6⟩ := X1.facts)
    | (with_reducible refine wpList_make_full _ rfl _ _ 23 rfl w1.heap.size 5 i0 _ 1 Try.underlying23 hi hz0 hz1 _ _ _ _ l.length rfl rfl rfl rfl ?b2 ?b3 ?b4 ?_))
  case b2 => rw [hz2]; omega
  case b3 => unfold maxLen; omega
  case b4 => exact Nat.le_refl _
  intro w2 hown2 hgr2
  have hinit : (madeCells #[Value.int .u8 0] l.length).toList = bcells (txt l 0) := by
    rw [toList_madeCells_one]; simp [txt, bcells]
  have hown3 : w2.ownsRow w1.heap.size 5 1 (.slice (some ⟨w1.heap.size, 0, none⟩) l.length l.length) l.length (bcells (txt l 0)) := by
    rw [← hinit]
    first | exact hown2 | simpa using hown2
  clear hown2
  have hbw : Below w1.heap.size w1 w2 := (Below.refl _ _).grown hgr2 (Nat.le_refl _) (by simp)
  have X2 := X1.on hbw
  have y2 := y1.trans (hbw.mono y1.size)
  have y1s := y1.size
  clear d0 d1 d2 d3 d4 d5 hinit hgr2
  go_wp2_with fail
  go_loopw [15] (fun i wr => ∃ k : Nat, k ≤ l.length ∧ i = .int .i64 k ∧ Box2 wr w.heap.size (.slice A n c) (.int .i64 l.length) ∧ Below w.heap.size w wr ∧
      wr.ownsRow w1.heap.size 5 1 (.slice (some ⟨w1.heap.size, 0, none⟩) l.length l.length) l.length (bcells (txt l k))) (fun i _ => l.length - (intOf i).toNat)
  case atStart => exact ⟨0, Nat.zero_le _, rfl, X2, y2, hown3⟩
  case round =>
    obtain ⟨k, hk, rfl, XR, yr, ho⟩ := hrel
    obtain ⟨m0, m1, m2, m3, m4, m5, m6⟩ := XR.facts
    clear X0 X1 X2 hown3 hbw
    by_cases hlt : k < l.length
    · obtain ⟨b, hb⟩ : ∃ b, b = l.getD k 0 := ⟨_, rfl⟩
      have hb2 : b < 2 := by rw [hb]; exact H01.out _
      have HB := Lib.hid hb
      have HS := Lib.hid (txt_set l k hlt)
      rw [← hb] at HS
      clear hb
      go_wp2_with (go_at_call 57; refine (at_bit A n c l k b _ rfl B _ (h.below (yr.mono hB)) H01.out hlt HB.out (by omega)).mono ?_; rintro e w3 ⟨rfl, hb3⟩; have X3 := XR.on hb3; have y3 := yr.trans (hb3.mono yr.size); have ho3 := own_on ho hb3; obtain ⟨g0, g1, g2, g3, g4, g5, g6⟩ := X3.facts; have f3 := ho3.frozenAt k; have c3 := (ho3.cellAt k (by omega)).trans (txt_cell l k hlt))
      go_roundw
      case rel =>
        have hne : w1.heap.size ≠ w.heap.size := by omega
        refine ⟨k + 1, by omega, by go_num, ⟨X3.1.far (by simp; omega) _, X3.2.far (by simp; omega) _⟩, y3.setCell (by simp; omega) _, ?_⟩
        rw [HS.out, bcells_set]
        simpa using (ho3.stored k (.int .u8 ((48 + b : Nat) : Int))).1
      case measure => simp [intOf]; omega
    · obtain rfl : k = l.length := by omega
      obtain ⟨A', c', hA, hrd⟩ := Reads.of_own ho
      cases hA
      have hcv := run_bytes_str (P := Try.prog) 23 9 5 Try.underlying23 Try.underlying5 Try.underlying9 hrd
      have htx : txt l l.length = l.map (48 + ·) := by simp [txt]
      rw [htx] at hcv
      go_wp2
      obtain ⟨r0, r1⟩ := XR.ends (.int .i64 0) (.int .i64 0)
      exact bodyPost_ret (v := .tuple #[.string (bstr (l.map (48 + ·))), .agg #[.int .i64 0, .int .i64 0]]) (by simp [results, Try.results44, go_sem, r0, r1]) rfl ⟨rfl, below_ends2 yr _ _⟩
end PB
end Go.Proofs.Ytnnpkajmheglgaa
