/-
  bits.Slice hands back a part of a bit string, or tells why it cannot.
-/
import Derived.Test.YtcmglfgibedpbaaRows
import Derived.Test.YtcmglfgibedpbaaBitsBox
import Derived.WalkKit
import Derived.WalkSpells
import Derived.WalkLawsBesides
import Derived.Lib.Hide
import Derived.BigQuiet
import Derived.Deep.DrawnRows
import Derived.Deep.RegionHeld3
namespace Go.Proofs.Ytcmglfgibedpbaa
open Go.RowKit
attribute [local go_sem ↓] Go.wp_at_zero Go.wp_at_succ
set_option linter.unusedVariables false
set_option linter.unusedSimpArgs false
namespace PB
set_option maxHeartbeats 800000 in
theorem slice_form (A : Option Addr) (n c : Nat) (d : List Nat) (cnt f t : Int) (B : Nat) (w : World) (h : Reads w B A n c (bcells d)) (hB : B ≤ w.heap.size) (hno : ¬ Ok d cnt) :
    Calls Try.prog 32 #[.agg #[.slice A n c, .int .i64 cnt], .int .i64 f, .int .i64 t] w fun e w' => e = .returned (.tuple #[noBits, flt 6 (-1)]) ∧ Below w.heap.size w w' := by
  try unfold noBits
  try unfold flt
  have X0 := Box3.start w (.slice A n c) (.int .i64 cnt)
  have hb0 := below_box3 w (.cells #[.slice A n c, .int .i64 cnt] 24) (.cells #[.slice none 0 0, .int .i64 0] 24) (.cells #[.int .i64 0, .int .i64 0] 26)
  have hR := h.below (hb0.mono hB)
  go_enter Try.func32, Try.ntmps32
  go_wp2_with (first
    | (go_at_call 15; refine (valid_no A n c d cnt B _ hR (by simp; omega) hno).mono ?_; rintro e w1 ⟨rfl, hb1⟩; have X1 := X0.on hb1; have y1 := hb0.trans (hb1.mono (by simp; omega)); obtain ⟨d0, d1, d2, d3, d4, d5, d6, d7, d8, d9, d10⟩ := X1.facts)
    | (go_at_call 36; refine (fault_any _ _ _).mono ?_; rintro e w2 ⟨rfl, hb2⟩; have X2 := X1.on hb2; have y2 := y1.trans (hb2.mono y1.size); obtain ⟨e0, e1, e2, e3, e4, e5, e6, e7, e8, e9, e10⟩ := X2.facts))
  all_goals
    obtain ⟨r0, r1, r2, r3⟩ := X2.ends (.slice none 0 0) (.int .i64 0) (.int .i64 6) (.int .i64 (-1))
    exact bodyPost_ret (v := .tuple #[.agg #[.slice none 0 0, .int .i64 0], .agg #[.int .i64 6, .int .i64 (-1)]]) (by simp [results, Try.results32, go_sem, r0, r1, r2, r3]) rfl ⟨rfl, below_ends y2 _ _ _ _⟩
set_option maxHeartbeats 800000 in
theorem slice_low (A : Option Addr) (n c : Nat) (l : List Nat) (f t : Int) (B : Nat) (w : World) (h : Reads w B A n c (bcells (pack l))) (hB : B ≤ w.heap.size) (h01 : Is01 l) (hl : l.length ≤ 131072) (hf : f < 0) :
    Calls Try.prog 32 #[.agg #[.slice A n c, .int .i64 l.length], .int .i64 f, .int .i64 t] w fun e w' => e = .returned (.tuple #[noBits, flt 4 (-2)]) ∧ Below w.heap.size w w' := by
  try unfold noBits
  try unfold flt
  have X0 := Box3.start w (.slice A n c) (.int .i64 l.length)
  have hb0 := below_box3 w (.cells #[.slice A n c, .int .i64 l.length] 24) (.cells #[.slice none 0 0, .int .i64 0] 24) (.cells #[.int .i64 0, .int .i64 0] 26)
  have hR := h.below (hb0.mono hB)
  have H01 := Lib.hid h01
  clear h01
  go_enter Try.func32, Try.ntmps32
  go_wp2_with (first
    | (go_at_call 15; refine (valid_list A n c l B _ hR (by simp; omega) H01.out hl).mono ?_; rintro e w1 ⟨rfl, hb1⟩; have X1 := X0.on hb1; have y1 := hb0.trans (hb1.mono (by simp; omega)); obtain ⟨d0, d1, d2, d3, d4, d5, d6, d7, d8, d9, d10⟩ := X1.facts)
    | (go_at_call 36; refine (fault_any _ _ _).mono ?_; rintro e w2 ⟨rfl, hb2⟩; have X2 := X1.on hb2; have y2 := y1.trans (hb2.mono y1.size); obtain ⟨e0, e1, e2, e3, e4, e5, e6, e7, e8, e9, e10⟩ := X2.facts))
  all_goals
    obtain ⟨r0, r1, r2, r3⟩ := X2.ends (.slice none 0 0) (.int .i64 0) (.int .i64 4) (.int .i64 (-2))
    exact bodyPost_ret (v := .tuple #[.agg #[.slice none 0 0, .int .i64 0], .agg #[.int .i64 4, .int .i64 (-2)]]) (by simp [results, Try.results32, go_sem, r0, r1, r2, r3]) rfl ⟨rfl, below_ends y2 _ _ _ _⟩
set_option maxHeartbeats 800000 in
theorem slice_high (A : Option Addr) (n c : Nat) (l : List Nat) (f t : Int) (B : Nat) (w : World) (h : Reads w B A n c (bcells (pack l))) (hB : B ≤ w.heap.size) (h01 : Is01 l) (hl : l.length ≤ 131072) (hf : (l.length : Int) < f) :
    Calls Try.prog 32 #[.agg #[.slice A n c, .int .i64 l.length], .int .i64 f, .int .i64 t] w fun e w' => e = .returned (.tuple #[noBits, flt 4 (-2)]) ∧ Below w.heap.size w w' := by
  try unfold noBits
  try unfold flt
  have X0 := Box3.start w (.slice A n c) (.int .i64 l.length)
  have hb0 := below_box3 w (.cells #[.slice A n c, .int .i64 l.length] 24) (.cells #[.slice none 0 0, .int .i64 0] 24) (.cells #[.int .i64 0, .int .i64 0] 26)
  have hR := h.below (hb0.mono hB)
  have H01 := Lib.hid h01
  clear h01
  go_enter Try.func32, Try.ntmps32
  go_wp2_with (first
    | (go_at_call 15; refine (valid_list A n c l B _ hR (by simp; omega) H01.out hl).mono ?_; rintro e w1 ⟨rfl, hb1⟩; have X1 := X0.on hb1; have y1 := hb0.trans (hb1.mono (by simp; omega)); obtain ⟨d0, d1, d2, d3, d4, d5, d6, d7, d8, d9, d10⟩ := X1.facts)
    | (go_at_call 36; refine (fault_any _ _ _).mono ?_; rintro e w2 ⟨rfl, hb2⟩; have X2 := X1.on hb2; have y2 := y1.trans (hb2.mono y1.size); obtain ⟨e0, e1, e2, e3, e4, e5, e6, e7, e8, e9, e10⟩ := X2.facts))
  all_goals
    obtain ⟨r0, r1, r2, r3⟩ := X2.ends (.slice none 0 0) (.int .i64 0) (.int .i64 4) (.int .i64 (-2))
    exact bodyPost_ret (v := .tuple #[.agg #[.slice none 0 0, .int .i64 0], .agg #[.int .i64 4, .int .i64 (-2)]]) (by simp [results, Try.results32, go_sem, r0, r1, r2, r3]) rfl ⟨rfl, below_ends y2 _ _ _ _⟩
set_option maxHeartbeats 800000 in
theorem slice_back (A : Option Addr) (n c : Nat) (l : List Nat) (f t : Int) (B : Nat) (w : World) (h : Reads w B A n c (bcells (pack l))) (hB : B ≤ w.heap.size) (h01 : Is01 l) (hl : l.length ≤ 131072) (hf0 : 0 ≤ f) (hf1 : f ≤ l.length) (ht : t < f) :
    Calls Try.prog 32 #[.agg #[.slice A n c, .int .i64 l.length], .int .i64 f, .int .i64 t] w fun e w' => e = .returned (.tuple #[noBits, flt 4 (-3)]) ∧ Below w.heap.size w w' := by
  try unfold noBits
  try unfold flt
  have X0 := Box3.start w (.slice A n c) (.int .i64 l.length)
  have hb0 := below_box3 w (.cells #[.slice A n c, .int .i64 l.length] 24) (.cells #[.slice none 0 0, .int .i64 0] 24) (.cells #[.int .i64 0, .int .i64 0] 26)
  have hR := h.below (hb0.mono hB)
  have H01 := Lib.hid h01
  clear h01
  go_enter Try.func32, Try.ntmps32
  go_wp2_with (first
    | (go_at_call 15; refine (valid_list A n c l B _ hR (by simp; omega) H01.out hl).mono ?_; rintro e w1 ⟨rfl, hb1⟩; have X1 := X0.on hb1; have y1 := hb0.trans (hb1.mono (by simp; omega)); obtain ⟨d0, d1, d2, d3, d4, d5, d6, d7, d8, d9, d10⟩ := X1.facts)
    | (go_at_call 36; refine (fault_any _ _ _).mono ?_; rintro e w2 ⟨rfl, hb2⟩; have X2 := X1.on hb2; have y2 := y1.trans (hb2.mono y1.size); obtain ⟨e0, e1, e2, e3, e4, e5, e6, e7, e8, e9, e10⟩ := X2.facts))
  all_goals
    obtain ⟨r0, r1, r2, r3⟩ := X2.ends (.slice none 0 0) (.int .i64 0) (.int .i64 4) (.int .i64 (-3))
    exact bodyPost_ret (v := .tuple #[.agg #[.slice none 0 0, .int .i64 0], .agg #[.int .i64 4, .int .i64 (-3)]]) (by simp [results, Try.results32, go_sem, r0, r1, r2, r3]) rfl ⟨rfl, below_ends y2 _ _ _ _⟩
set_option maxHeartbeats 800000 in
theorem slice_far (A : Option Addr) (n c : Nat) (l : List Nat) (f t : Int) (B : Nat) (w : World) (h : Reads w B A n c (bcells (pack l))) (hB : B ≤ w.heap.size) (h01 : Is01 l) (hl : l.length ≤ 131072) (hf0 : 0 ≤ f) (hf1 : f ≤ l.length) (ht : (l.length : Int) < t) :
    Calls Try.prog 32 #[.agg #[.slice A n c, .int .i64 l.length], .int .i64 f, .int .i64 t] w fun e w' => e = .returned (.tuple #[noBits, flt 4 (-3)]) ∧ Below w.heap.size w w' := by
  try unfold noBits
  try unfold flt
  have X0 := Box3.start w (.slice A n c) (.int .i64 l.length)
  have hb0 := below_box3 w (.cells #[.slice A n c, .int .i64 l.length] 24) (.cells #[.slice none 0 0, .int .i64 0] 24) (.cells #[.int .i64 0, .int .i64 0] 26)
  have hR := h.below (hb0.mono hB)
  have H01 := Lib.hid h01
  clear h01
  go_enter Try.func32, Try.ntmps32
  go_wp2_with (first
    | (go_at_call 15; refine (valid_list A n c l B _ hR (by simp; omega) H01.out hl).mono ?_; rintro e w1 ⟨rfl, hb1⟩; have X1 := X0.on hb1; have y1 := hb0.trans (hb1.mono (by simp; omega)); obtain ⟨d0, d1, d2, d3, d4, d5, d6, d7, d8, d9, d10⟩ := X1.facts)
    | (go_at_call 36; refine (fault_any _ _ _).mono ?_; rintro e w2 ⟨rfl, hb2⟩; have X2 := X1.on hb2; have y2 := y1.trans (hb2.mono y1.size); obtain ⟨e0, e1, e2, e3, e4, e5, e6, e7, e8, e9, e10⟩ := X2.facts))
  all_goals
    obtain ⟨r0, r1, r2, r3⟩ := X2.ends (.slice none 0 0) (.int .i64 0) (.int .i64 4) (.int .i64 (-3))
    exact bodyPost_ret (v := .tuple #[.agg #[.slice none 0 0, .int .i64 0], .agg #[.int .i64 4, .int .i64 (-3)]]) (by simp [results, Try.results32, go_sem, r0, r1, r2, r3]) rfl ⟨rfl, below_ends y2 _ _ _ _⟩
/-- bits.put where the list's length is given apart. -/
theorem put_it {A : Option Addr} {n c : Nat} {L : List Nat} {k b : Nat} {base : Nat} {w : World} (hk : L.length = k) (h01 : Is01 L) (hbit : b < 2) (hl : k < 1000000)
    (hown : w.ownsRow base 5 1 (.slice A n c) n (bcells (pack L))) (hbase : base ≤ w.heap.size) :
    Calls Try.prog 37 #[.agg #[.slice A n c, .int .i64 k], .int .i64 b] w fun e w' => ∃ A' n' c', e = .returned (.agg #[.slice A' n' c', .int .i64 ((k : Int) + 1)]) ∧
      w'.ownsRow base 5 1 (.slice A' n' c') n' (bcells (pack (L ++ [b]))) ∧ w.grownBy w' (Value.slice A n c).ownBlock := by
  subst hk
  refine (put_any A n c L _ base w h01 hbit hl hown hbase).mono ?_
  rintro e w' ⟨A', n', c', rfl, h1, h2⟩
  exact ⟨A', n', c', by simp, h1, h2⟩
/-- bits.at where the bit is given apart. -/
theorem at_bit (A : Option Addr) (n c : Nat) (l : List Nat) (i b : Nat) (ii : Int) (hii : ii = (i : Nat)) (B : Nat) (w : World) (h : Reads w B A n c (bcells (pack l))) (h01 : Is01 l) (hi : i < l.length) (hb : b = l.getD i 0) (hB : B ≤ w.heap.size) :
    Calls Try.prog 38 #[.agg #[.slice A n c, .int .i64 l.length], .int .i64 ii] w fun e w' => e = .returned (.int .i64 b) ∧ Below w.heap.size w w' := by
  subst hb hii
  exact at_list A n c l i B w h h01 hi hB
theorem take_drop_snoc {l : List Nat} {f k : Nat} (h : f + k < l.length) : (l.drop f).take (k + 1) = (l.drop f).take k ++ [l.getD (f + k) 0] := by
  rw [List.take_succ_eq_append_getElem (by rw [List.length_drop]; omega), List.getElem_drop, getD_lt h]
theorem Box3.alloc {w : World} {s : Nat} {v0 v1 : Value} (h : Box3 w s v0 v1) (o : Obj) : Box3 (w.alloc o) s v0 v1 := ⟨h.1.alloc o, h.2.1.alloc o, h.2.2.alloc o⟩
theorem Box3.grown {w w' : World} {s : Nat} {v0 v1 : Value} {row : Option Nat} (h : Box3 w s v0 v1) (hb : w.grownBy w' row) (h0 : row ≠ some s) (h1 : row ≠ some (s + 1)) (h2 : row ≠ some (s + 2)) : Box3 w' s v0 v1 :=
  ⟨h.1.grown hb h0.symm, h.2.1.grown hb h1.symm, h.2.2.grown hb h2.symm⟩
theorem Box3.far {w : World} {s : Nat} {v0 v1 : Value} (h : Box3 w s v0 v1) {p : Addr} (hp : s + 2 < p.block) (u : Value) : Box3 (w.setCell p u) s v0 v1 :=
  ⟨h.1.far (by omega) u, h.2.1.far (by omega) u, h.2.2.far (by omega) u⟩
set_option maxHeartbeats 800000 in
theorem slice_ok (A : Option Addr) (n c : Nat) (l : List Nat) (f t : Nat) (B : Nat) (w : World) (h : Reads w B A n c (bcells (pack l))) (hB : B ≤ w.heap.size) (h01 : Is01 l) (hl : l.length ≤ 131072) (hft : f ≤ t) (ht : t ≤ l.length) :
    Calls Try.prog 32 #[.agg #[.slice A n c, .int .i64 l.length], .int .i64 f, .int .i64 t] w fun e w' => ∃ A' n' c', e = .returned (.tuple #[.agg #[.slice A' n' c', .int .i64 ((l.drop f).take (t - f)).length], flt 0 0]) ∧ w'.ownsRow w.heap.size 5 1 (.slice A' n' c') n' (bcells (pack ((l.drop f).take (t - f)))) ∧ Below w.heap.size w w' := by
  try unfold noBits
  try unfold flt
  have X0 := Box3.start w (.slice A n c) (.int .i64 l.length)
  have hb0 := below_box3 w (.cells #[.slice A n c, .int .i64 l.length] 24) (.cells #[.slice none 0 0, .int .i64 0] 24) (.cells #[.int .i64 0, .int .i64 0] 26)
  have hR := h.below (hb0.mono hB)
  have H01 := Lib.hid h01
  clear h01
  have q1 : decide ((f : Int) < 0) = false := by simp
  have q2 : decide (l.length < f) = false := by simp; omega
  have q3 : decide (t < f) = false := by simp; omega
  have q4 : decide (l.length < t) = false := by simp; omega
  go_enter Try.func32, Try.ntmps32
  go_wp2_with (first
    | (go_at_call 15; refine (valid_list A n c l B _ hR (by simp; omega) H01.out hl).mono ?_; rintro e w1 ⟨rfl, hb1⟩; have X1 := X0.on hb1; have y1 := hb0.trans (hb1.mono (by simp; omega)); obtain ⟨d0, d1, d2, d3, d4, d5, d6, d7, d8, d9, d10⟩ := X1.facts))
  go_loopw [9] (fun i wr => ∃ k : Nat, f + k ≤ t ∧ i = .int .i64 ((f + k : Nat) : Int) ∧ Box3 wr w.heap.size (.slice A n c) (.int .i64 l.length) ∧ Below w.heap.size w wr ∧ ∃ A' n' c', Two wr w1.heap.size 24 (.slice A' n' c') (.int .i64 k) ∧
      wr.ownsRow w.heap.size 5 1 (.slice A' n' c') n' (bcells (pack ((l.drop f).take k)))) (fun i _ => t - (intOf i).toNat)
  case atStart => exact ⟨0, by omega, by go_num, X1.alloc _, y1.alloc y1.size _, none, 0, 0, Two.new _ _ _ _, by simpa [pack_nil, bcells] using World.ownsRow_nil _ _ _ _⟩
  case round =>
    obtain ⟨k, hk, rfl, XR, yr, A', n', c', XO, ho⟩ := hrel
    clear d0 d1 d2 d3 d4 d5 d6 d7 d8 d9 X0
    obtain ⟨m0, m1, m2, m3, m4, m5, m6, m7, m8, m9, m10⟩ := XR.facts
    obtain ⟨o0, o1, o2, o3, o4⟩ := XO.facts
    by_cases hlt : f + k < t
    · have hlen : f + k < l.length := by omega
      have hL : ((l.drop f).take k).length = k := by rw [List.length_take, List.length_drop]; omega
      have HL := Lib.hid hL
      have HS := Lib.hid (take_drop_snoc (l := l) (f := f) (k := k) hlen)
      have H01x := (H01.out.drop f).take k
      have hkb : k < 1000000 := by omega
      obtain ⟨b, hb⟩ : ∃ b, b = l.getD (f + k) 0 := ⟨_, rfl⟩
      have hb2 : b < 2 := by rw [hb]; exact H01.out _
      rw [← hb] at HS
      have HB := Lib.hid hb
      have hRd : Reads wr.drew B A n c (bcells (pack l)) := h.below (yr.drew.mono hB)
      have hBw : B ≤ wr.drew.heap.size := by show B ≤ wr.heap.size; omega
      have HI := Lib.hid (show ((f : Int) + (k : Int)) = ((f + k : Nat) : Int) by omega)
      clear hL hb
      go_wp2_with fail
      go_region_with (first
          | (go_at_call 38; (with_reducible refine (at_bit A n c l (f + k) b _ HI.out B _ hRd H01.out hlen HB.out hBw).mono ?_); rintro e w3 ⟨rfl, hb3⟩; have X3 := Box3.on (w := wr.drew) XR hb3; have O3 := Two.on (w := wr.drew) XO hb3; have y3 := yr.drew.trans (Below.mono (w := wr.drew) hb3 yr.size); have ho3 := own_on (w := wr.drew) ho.drew hb3; have yw3 := y3.size; obtain ⟨g0, g1, g2, g3, g4, g5, g6, g7, g8, g9, g10⟩ := X3.facts; obtain ⟨p0, p1, p2, p3, p4⟩ := O3.facts)
          | (go_at_call 37; (with_reducible refine (put_it (L := (l.drop f).take k) (b := b) HL.out H01x hb2 hkb ho3 yw3).mono ?_); rintro e w4 ⟨A4, n4, c4, rfl, ho4, hg4⟩; have X4 := X3.grown hg4 (own_two_ne ho3 X3.1 (by decide)) (own_two_ne ho3 X3.2.1 (by decide)) (own_two_ne ho3 X3.2.2 (by decide)); have O4 := O3.grown hg4 (own_two_ne ho3 O3 (by decide)).symm; obtain ⟨t0, t1, t2, t3, t4⟩ := O4.facts))
      all_goals
        have y4 : Below w.heap.size w w4 := y3.grown hg4 yw3 (fun g hg => (ho3.lt g hg).1)
        have hq := own_two_ne ho4 O4 (by decide)
        have ysz := y1.size
        go_wp2
        go_roundw
        case rel =>
          refine ⟨k + 1, by omega, by go_num, (X4.far (by simpa using d10) _).far (by simpa using d10) _, (y4.setCell (by simpa using ysz) _).setCell (by simpa using ysz) _, A4, n4, c4, (O4.set0 _).set1 _, ?_⟩
          rw [HS.out]
          exact own_far_any (own_far_any ho4 hq _) hq _
        case measure => simp [intOf]; omega
    · have hkt : t - f = k := by omega
      have hL : ((l.drop f).take k).length = k := by rw [List.length_take, List.length_drop]; omega
      have HKT := Lib.hid hkt
      have HL := Lib.hid hL
      clear hkt hL
      go_wp2
      obtain ⟨r0, r1, r2, r3⟩ := XR.ends (.slice A' n' c') (.int .i64 k) (.int .i64 0) (.int .i64 0)
      refine bodyPost_ret (v := .tuple #[.agg #[.slice A' n' c', .int .i64 k], .agg #[.int .i64 0, .int .i64 0]]) (by simp [results, Try.results32, go_sem, r0, r1, r2, r3]) rfl ⟨A', n', c', ?_, ?_, below_ends yr _ _ _ _⟩
      · rw [HKT.out, HL.out]
      · rw [HKT.out]
        exact own_ends XR ho _ _ _ _
end PB
end Go.Proofs.Ytcmglfgibedpbaa
