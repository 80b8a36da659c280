/-
  bits.Make makes a bit string of a text of the characters 0 and 1, or tells why it cannot.
-/
import Derived.Test.YtnnpkajmheglgaaRows
import Derived.Test.YtnnpkajmheglgaaBitsBox
import Derived.WalkKit
import Derived.WalkSpells
import Derived.WalkLawsBesides
import Derived.Lib.Hide
import Derived.BigQuiet
import Derived.Test.YtnnpkajmheglgaaBitsSlice
import Derived.StillTailTactics
namespace Go.Proofs.Ytnnpkajmheglgaa
open Go.RowKit
attribute [local go_sem ↓] Go.wp_at_zero Go.wp_at_succ
set_option linter.unusedVariables false
set_option linter.unusedSimpArgs false
namespace PB
/-- The bits of a text: what its bytes say. -/
def tbits (s : ByteArray) (k : Nat) : List Nat := (s.data.toList.take k).map fun c => c.toNat - 48
/-- The first k bytes of a text are 0 or 1. -/
def TOk (s : ByteArray) (k : Nat) : Prop := ∀ i (h : i < s.size), i < k → s[i].toNat = 48 ∨ s[i].toNat = 49
/-- The two results, without an argument's box. -/
def Res2 (w : World) (s : Nat) : Prop := Two w s 25 (.slice none 0 0) (.int .i64 0) ∧ Two w (s + 1) 27 (.int .i64 0) (.int .i64 0)
theorem tbits_length (s : ByteArray) (k : Nat) (h : k ≤ s.size) : (tbits s k).length = k := by
  have : s.data.toList.length = s.size := by simp
  simp [tbits]; omega
theorem tbits_succ (s : ByteArray) (k : Nat) (h : k < s.size) : tbits s (k + 1) = tbits s k ++ [s[k].toNat - 48] := by
  unfold tbits
  rw [List.take_succ_eq_append_getElem (by simpa using h), List.map_append]
  rfl
theorem tbits_01 (s : ByteArray) (k : Nat) (h : TOk s k) (hk : k ≤ s.size) : Is01 (tbits s k) := by
  refine Is01.of_mem fun x hx => ?_
  obtain ⟨c, hc, rfl⟩ := List.mem_map.1 hx
  obtain ⟨i, hi, rfl⟩ := List.mem_iff_getElem.1 hc
  rw [List.getElem_take]
  have hlen : s.data.toList.length = s.size := by simp
  have hi' : i < k ∧ i < s.size := by rw [List.length_take] at hi; omega
  have := h i hi'.2 hi'.1
  have e : (s.data.toList[i]'(by omega)).toNat = (s[i]'hi'.2).toNat := rfl
  rw [e]; omega
theorem Res2.start (w : World) : Res2 ((w.alloc (.cells #[.slice none 0 0, .int .i64 0] 25)).alloc (.cells #[.int .i64 0, .int .i64 0] 27)) w.heap.size := by
  refine ⟨(Two.new _ _ _ _).alloc _, ?_⟩
  simpa using Two.new (w.alloc (.cells #[.slice none 0 0, .int .i64 0] 25)) 27 (.int .i64 0) (.int .i64 0)
theorem Res2.on {w w' : World} {s : Nat} (h : Res2 w s) (hb : Below w.heap.size w w') : Res2 w' s := ⟨h.1.on hb, h.2.on hb⟩
theorem Res2.alloc {w : World} {s : Nat} (h : Res2 w s) (o : Obj) : Res2 (w.alloc o) s := ⟨h.1.alloc o, h.2.alloc o⟩
theorem Res2.grown {w w' : World} {s : Nat} {row : Option Nat} (h : Res2 w s) (hb : w.grownBy w' row) (h0 : row ≠ some s) (h1 : row ≠ some (s + 1)) : Res2 w' s := ⟨h.1.grown hb h0.symm, h.2.grown hb h1.symm⟩
theorem Res2.far {w : World} {s : Nat} (h : Res2 w s) {p : Addr} (hp : s + 1 < p.block) (u : Value) : Res2 (w.setCell p u) s := ⟨h.1.far (by omega) u, h.2.far (by omega) u⟩
theorem Res2.facts {w : World} {s : Nat} (h : Res2 w s) :
    w.cell? ⟨s, 0, none⟩ = some (.slice none 0 0) ∧ w.cell? ⟨s, 1, none⟩ = some (.int .i64 0) ∧ w.cell? ⟨s + 1, 0, none⟩ = some (.int .i64 0) ∧ w.cell? ⟨s + 1, 1, none⟩ = some (.int .i64 0) ∧
    w.frozen? ⟨s, 0, none⟩ = false ∧ w.frozen? ⟨s, 1, none⟩ = false ∧ w.frozen? ⟨s + 1, 0, none⟩ = false ∧ w.frozen? ⟨s + 1, 1, none⟩ = false ∧ s + 1 < w.heap.size :=
  ⟨h.1.c0, h.1.c1, h.2.c0, h.2.c1, h.1.f0, h.1.f1, h.2.f0, h.2.f1, h.2.lt⟩
theorem Res2.ends {w : World} {s : Nat} (h : Res2 w s) (r0 r1 f0 f1 : Value) :
    let w4 := (((w.setCell ⟨s, 0, none⟩ r0).setCell ⟨s, 1, none⟩ r1).setCell ⟨s + 1, 0, none⟩ f0).setCell ⟨s + 1, 1, none⟩ f1
    w4.cell? ⟨s, 0, none⟩ = some r0 ∧ w4.cell? ⟨s, 1, none⟩ = some r1 ∧ w4.cell? ⟨s + 1, 0, none⟩ = some f0 ∧ w4.cell? ⟨s + 1, 1, none⟩ = some f1 := by
  intro w4
  have a := (((h.1.set0 r0).set1 r1).far (p := ⟨s + 1, 0, none⟩) (by simp) f0).far (p := ⟨s + 1, 1, none⟩) (by simp) f1
  have b := (((h.2.far (p := ⟨s, 0, none⟩) (by simp) r0).far (p := ⟨s, 1, none⟩) (by simp) r1).set0 f0).set1 f1
  exact ⟨a.c0, a.c1, b.c0, b.c1⟩
theorem below_res2 {w w1 : World} (hb : Below w.heap.size w w1) (r0 r1 f0 f1 : Value) :
    Below w.heap.size w ((((w1.setCell ⟨w.heap.size, 0, none⟩ r0).setCell ⟨w.heap.size, 1, none⟩ r1).setCell ⟨w.heap.size + 1, 0, none⟩ f0).setCell ⟨w.heap.size + 1, 1, none⟩ f1) :=
  (((hb.setCell (by simp) _).setCell (by simp) _).setCell (by simp) _).setCell (by simp) _
theorem own_res2 {w : World} {s : Nat} (h : Res2 w s) {base n : Nat} {v : Value} {xs : List Value} (ho : w.ownsRow base 5 1 v n xs) (r0 r1 f0 f1 : Value) :
    ((((w.setCell ⟨s, 0, none⟩ r0).setCell ⟨s, 1, none⟩ r1).setCell ⟨s + 1, 0, none⟩ f0).setCell ⟨s + 1, 1, none⟩ f1).ownsRow base 5 1 v n xs := by
  have n1 := own_two_ne ho h.1 (by decide)
  have n2 := own_two_ne ho h.2 (by decide)
  exact own_far_any (own_far_any (own_far_any (own_far_any ho n1 _) n1 _) n2 _) n2 _
theorem put_int {A : Option Addr} {n c : Nat} {L : List Nat} {k b : Nat} {bi : Int} (hbi : bi = (b : Nat)) {base : Nat} {w : World} (hk : L.length = k) (h01 : Is01 L) (hbit : b < 2) (hl : k < 1000000)
    (hown : w.ownsRow base 5 1 (.slice A n c) n (bcells (pack L))) (hbase : base ≤ w.heap.size) :
    Calls Try.prog 56 #[.agg #[.slice A n c, .int .i64 k], .int .i64 bi] w fun e w' => ∃ A' n' c', e = .returned (.agg #[.slice A' n' c', .int .i64 ((k : Int) + 1)]) ∧
      w'.ownsRow base 5 1 (.slice A' n' c') n' (bcells (pack (L ++ [b]))) ∧ w.grownBy w' (Value.slice A n c).ownBlock := by
  subst hbi
  exact put_it hk h01 hbit hl hown hbase
set_option maxHeartbeats 800000 in
theorem make_long (s : ByteArray) (w : World) (hs : 131072 < s.size) (hm : s.size ≤ maxLen) :
    Calls Try.prog 42 #[.string s] w fun e w' => e = .returned (.tuple #[noBits, flt 3 (-1)]) ∧ Below w.heap.size w w' := by
  unfold noBits flt
  unfold maxLen at hm
  have X0 := Res2.start w
  have y0 := below_box2 w (.cells #[.slice none 0 0, .int .i64 0] 25) (.cells #[.int .i64 0, .int .i64 0] 27)
  go_enter Try.func42, Try.ntmps42
  go_wp2_with (go_at_call 55; refine (fault_any _ _ _).mono ?_; rintro e w2 ⟨rfl, hb2⟩; have X2 := Res2.on X0 hb2; have y2 := y0.trans (hb2.mono (by simp; omega)); obtain ⟨e0, e1, e2, e3, e4, e5, e6, e7, e8⟩ := X2.facts)
  obtain ⟨r0, r1, r2, r3⟩ := X2.ends (.slice none 0 0) (.int .i64 0) (.int .i64 3) (.int .i64 (-1))
  exact bodyPost_ret (v := .tuple #[.agg #[.slice none 0 0, .int .i64 0], .agg #[.int .i64 3, .int .i64 (-1)]]) (by simp [results, Try.results42, go_sem, r0, r1, r2, r3]) rfl ⟨rfl, below_res2 y2 _ _ _ _⟩
set_option maxRecDepth 100000 in
set_option maxHeartbeats 1600000 in
/-- bits.Make of a text whose first q bytes are 0 or 1: either q is the whole text, or the next byte is neither. -/
theorem make_upto (s : ByteArray) (q : Nat) (w : World) (hs : s.size ≤ 131072) (hq : TOk s q) (hqs : q ≤ s.size) (hbad : ∀ h : q < s.size, s[q].toNat ≠ 48 ∧ s[q].toNat ≠ 49) :
    Calls Try.prog 42 #[.string s] w fun e w' => (q < s.size ∧ e = .returned (.tuple #[noBits, flt 6 q]) ∧ Below w.heap.size w w') ∨
      (q = s.size ∧ ∃ A' n' c', e = .returned (.tuple #[.agg #[.slice A' n' c', .int .i64 (tbits s q).length], flt 0 0]) ∧ w'.ownsRow w.heap.size 5 1 (.slice A' n' c') n' (bcells (pack (tbits s q))) ∧ Below w.heap.size w w') := by
  try unfold noBits
  try unfold flt
  have X0 := Res2.start w
  have y0 := below_box2 w (.cells #[.slice none 0 0, .int .i64 0] 25) (.cells #[.int .i64 0, .int .i64 0] 27)
  have HQ := Lib.hid hq
  have HBAD := Lib.hid hbad
  clear hq hbad
  obtain ⟨Post, hPost⟩ : ∃ Post : Ending → World → Prop, Post = fun e w' => (q < s.size ∧ e = .returned (.tuple #[.agg #[.slice none 0 0, .int .i64 0], .agg #[.int .i64 6, .int .i64 q]]) ∧ Below w.heap.size w w') ∨
      (q = s.size ∧ ∃ A' n' c', e = .returned (.tuple #[.agg #[.slice A' n' c', .int .i64 (tbits s q).length], .agg #[.int .i64 0, .int .i64 0]]) ∧ w'.ownsRow w.heap.size 5 1 (.slice A' n' c') n' (bcells (pack (tbits s q))) ∧ Below w.heap.size w w') := ⟨_, rfl⟩
  rw [← hPost]
  have HP := Lib.hid hPost
  clear hPost
  go_enter Try.func42, Try.ntmps42
  go_wp2_with fail
  go_loopw [13] (fun i wr => ∃ k : Nat, k ≤ q ∧ i = .int .i64 k ∧ Res2 wr w.heap.size ∧ Below w.heap.size w wr ∧ ∃ A' n' c', Two wr (w.heap.size + 2) 25 (.slice A' n' c') (.int .i64 k) ∧
      wr.ownsRow w.heap.size 5 1 (.slice A' n' c') n' (bcells (pack (tbits s k)))) (fun i _ => s.size - (intOf i).toNat)
  case atStart =>
    refine ⟨0, by omega, rfl, X0.alloc _, y0.alloc (by simp; omega) _, none, 0, 0, ?_, ?_⟩
    · simpa using Two.new ((w.alloc (.cells #[.slice none 0 0, .int .i64 0] 25)).alloc (.cells #[.int .i64 0, .int .i64 0] 27)) 25 (.slice none 0 0) (.int .i64 0)
    · simpa [tbits, pack_nil, bcells] using World.ownsRow_nil _ _ _ _
  case round =>
    obtain ⟨k, hk, rfl, XR, yr, A', n', c', XO, ho⟩ := hrel
    obtain ⟨m0, m1, m2, m3, m4, m5, m6, m7, m8⟩ := XR.facts
    obtain ⟨o0, o1, o2, o3, o4⟩ := XO.facts
    clear X0 y0
    by_cases hlt : k < q
    · have hlen : k < s.size := by omega
      have hL := tbits_length s k (by omega)
      have HL := Lib.hid hL
      have HS := Lib.hid (tbits_succ s k hlen)
      have H01x := tbits_01 s k (fun i h1 h2 => HQ.out i h1 (by omega)) (by omega)
      have hkb : k < 1000000 := by omega
      have hod : wr.drew.ownsRow w.heap.size 5 1 (.slice A' n' c') n' (bcells (pack (tbits s k))) := ho.drew
      have hwd : w.heap.size ≤ wr.drew.heap.size := yr.size
      clear hL
      rcases HQ.out k hlen hlt with hc | hc
      all_goals
        rw [hc] at HS
        go_wp2_with fail
        go_still_tail 6, (by kernel_rfl)
        change wpList _ _ _ _ _ wr.drew
        go_wp2_with (go_at_call 56; refine (put_int (L := tbits s k) (by rfl) HL.out H01x (by decide) hkb hod hwd).mono ?_; rintro e w4 ⟨A4, n4, c4, rfl, ho4, hg4⟩; have X4 := Res2.grown (w := wr.drew) XR hg4 (own_two_ne ho XR.1 (by decide)) (own_two_ne ho XR.2 (by decide)); have O4 := Two.grown (w := wr.drew) XO hg4 (own_two_ne ho XO (by decide)).symm; obtain ⟨t0, t1, t2, t3, t4⟩ := O4.facts)
        go_roundw
        case rel =>
          have y4 : Below w.heap.size w w4 := yr.drew.grown hg4 hwd (fun g hg => (ho.lt g hg).1)
          have hqq := own_two_ne ho4 O4 (by decide)
          refine ⟨k + 1, by omega, by go_num, (X4.far (by simp) _).far (by simp) _, (y4.setCell (by simp; omega) _).setCell (by simp; omega) _, A4, n4, c4, (O4.set0 _).set1 _, ?_⟩
          rw [HS.out]
          exact own_far_any (own_far_any ho4 hqq _) hqq _
        case measure => simp [intOf]; omega
    · obtain rfl : k = q := by omega
      by_cases hend : k < s.size
      · have hb := HBAD.out hend
        have hc1 : ((s[k].toNat : Int) != 48) = true := by rw [bne_iff_ne]; omega
        have hc2 : ((s[k].toNat : Int) != 49) = true := by rw [bne_iff_ne]; omega
        clear hb
        go_wp2_with (go_at_call 55; refine (fault_any _ _ _).mono ?_; rintro e w2 ⟨rfl, hb2⟩; have X2 := Res2.on XR hb2; have y2 := yr.trans (hb2.mono yr.size); obtain ⟨e0, e1, e2, e3, e4, e5, e6, e7, e8⟩ := X2.facts)
        obtain ⟨r0, r1, r2, r3⟩ := X2.ends (.slice none 0 0) (.int .i64 0) (.int .i64 6) (.int .i64 k)
        refine bodyPost_ret (v := .tuple #[.agg #[.slice none 0 0, .int .i64 0], .agg #[.int .i64 6, .int .i64 k]]) (by simp [results, Try.results42, go_sem, r0, r1, r2, r3]) rfl ?_
        rw [HP.out]
        exact .inl ⟨hend, rfl, below_res2 y2 _ _ _ _⟩
      · have hL := tbits_length s k (by omega)
        have HL := Lib.hid hL
        clear hL
        go_wp2_with fail
        obtain ⟨r0, r1, r2, r3⟩ := XR.ends (.slice A' n' c') (.int .i64 k) (.int .i64 0) (.int .i64 0)
        refine bodyPost_ret (v := .tuple #[.agg #[.slice A' n' c', .int .i64 k], .agg #[.int .i64 0, .int .i64 0]]) (by simp [results, Try.results42, go_sem, r0, r1, r2, r3]) rfl ?_
        rw [HP.out]
        refine .inr ⟨by omega, A', n', c', ?_, own_res2 XR ho _ _ _ _, below_res2 yr _ _ _ _⟩
        rw [HL.out]
end PB
end Go.Proofs.Ytnnpkajmheglgaa
