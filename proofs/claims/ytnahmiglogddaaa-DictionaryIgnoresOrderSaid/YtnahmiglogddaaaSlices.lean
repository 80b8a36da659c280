/-
  Slices of byte strings; slices.Grow of the nil slice; slices.Concat of byte strings.
-/
import Derived.Test.YtnahmiglogddaaaRows
import Derived.Test.YtnahmiglogddaaaKit
import Derived.Lib.AppendZerosOnto
namespace Go.Proofs.Ytnahmiglogddaaa
open Go.RowKit
set_option linter.unusedVariables false
set_option linter.unusedSimpArgs false
namespace PB
/-- One byte string of a slice of byte strings. -/
structure SItem where
  A : Option Addr
  n : Nat
  c : Nat
  d : List Nat
/-- A slice of byte strings that can be read. -/
def RdSS (w : World) (A : Option Addr) (n c : Nat) (xs : List SItem) : Prop :=
  xs.length = n ∧ n ≤ c ∧ c ≤ maxLen ∧ (0 < n → ∃ b off, A = some ⟨b, off, none⟩ ∧ b < w.heap.size ∧ ∀ i x, xs[i]? = some x →
    w.cell? ⟨b, off + i, none⟩ = some (.slice x.A x.n x.c) ∧ Rd w x.A x.n x.c (bcells x.d))
theorem RdSS.on {w w' : World} {A : Option Addr} {n c : Nat} {xs : List SItem} (h : RdSS w A n c xs) (hb : Below w.heap.size w w') : RdSS w' A n c xs := by
  obtain ⟨h1, h2, h3, h4⟩ := h
  refine ⟨h1, h2, h3, fun hn => ?_⟩
  obtain ⟨b, off, e, hlt, hc⟩ := h4 hn
  refine ⟨b, off, e, Nat.lt_of_lt_of_le hlt hb.size, fun i x hx => ?_⟩
  obtain ⟨q1, q3⟩ := hc i x hx
  exact ⟨(hb.cell (p := ⟨b, off + i, none⟩) hlt).trans q1, q3.on hb⟩
theorem RdSS.alloc {w : World} {A : Option Addr} {n c : Nat} {xs : List SItem} (h : RdSS w A n c xs) (o : Obj) : RdSS (w.alloc o) A n c xs := h.on ((Below.refl _ _).alloc (Nat.le_refl _) o)
theorem RdSS.drew {w : World} {A : Option Addr} {n c : Nat} {xs : List SItem} (h : RdSS w A n c xs) : RdSS w.drew A n c xs := h
theorem RdSS.drewN {w : World} {A : Option Addr} {n c : Nat} {xs : List SItem} (h : RdSS w A n c xs) (q : Nat) : RdSS (w.drewN q) A n c xs := h
theorem RdSS.at {w : World} {A : Option Addr} {n c : Nat} {xs : List SItem} (h : RdSS w A n c xs) (k : Nat) (hk : k < xs.length) :
    ∃ b off, A = some ⟨b, off, none⟩ ∧ b < w.heap.size ∧ w.cell? ⟨b, off + k, none⟩ = some (.slice xs[k].A xs[k].n xs[k].c) ∧ Rd w xs[k].A xs[k].n xs[k].c (bcells xs[k].d) := by
  obtain ⟨h1, h2, h3, h4⟩ := h
  obtain ⟨b, off, e, hlt, hc⟩ := h4 (by omega)
  exact ⟨b, off, e, hlt, hc k _ (List.getElem?_eq_getElem hk)⟩
/-- The joined bytes. -/
def cat (xs : List SItem) : List Nat := xs.flatMap SItem.d
theorem cat_take_succ (xs : List SItem) (k : Nat) (h : k < xs.length) : cat (xs.take (k + 1)) = cat (xs.take k) ++ xs[k].d := by
  rw [List.take_succ_eq_append_getElem h]; unfold cat; rw [List.flatMap_append, List.flatMap_singleton]
theorem cat_take_le (xs : List SItem) (k : Nat) : (cat (xs.take k)).length ≤ (cat xs).length := by
  have : cat xs = cat (xs.take k) ++ cat (xs.drop k) := by
    unfold cat
    rw [← List.flatMap_append, List.take_append_drop]
  rw [this, List.length_append]; omega
/-- A slice of two byte strings, made by a call. -/
theorem RdSS.two (w : World) (t : TypeId) {A1 A2 : Option Addr} {n1 c1 n2 c2 : Nat} {d1 d2 : List Nat} (h1 : Rd w A1 n1 c1 (bcells d1)) (h2 : Rd w A2 n2 c2 (bcells d2)) :
    RdSS (w.alloc (.cells #[.slice A1 n1 c1, .slice A2 n2 c2] t)) (some ⟨w.heap.size, 0, none⟩) 2 2 [⟨A1, n1, c1, d1⟩, ⟨A2, n2, c2, d2⟩] := by
  refine ⟨rfl, Nat.le_refl _, by decide, fun _ => ⟨w.heap.size, 0, rfl, by simp, fun i x hx => ?_⟩⟩
  have hB := Blk.new w t #[.slice A1 n1 c1, .slice A2 n2 c2]
  match i, hx with
  | 0, hx => obtain rfl : _ = x := by simpa using hx
             exact ⟨by rw [hB.cell]; rfl, h1.alloc _⟩
  | 1, hx => obtain rfl : _ = x := by simpa using hx
             exact ⟨by rw [show 0 + 1 = 1 from rfl, hB.cell]; rfl, h2.alloc _⟩
  | i + 2, hx => simp at hx
theorem zeroCells_size (z : Array Value) (n : Nat) : (Builtin.zeroCells z n).size = n * z.size := by simp [Builtin.zeroCells]
set_option maxHeartbeats 800000 in
set_option maxRecDepth 100000 in
/-- slices.Grow of the nil slice. -/
theorem grow_nil (n : Nat) (hn : n ≤ 70368744177664) (w : World) :
    Calls Try.prog 37 #[.slice none 0 0, .int .i64 (n : Int)] w fun e w' => ∃ A c, e = .returned (.slice A 0 c) ∧ w'.ownsRow w.heap.size 5 1 (.slice A 0 c) 0 [] ∧ Below w.heap.size w w' := by
  obtain ⟨i0, hi, hz0, hz1, hz2⟩ := info_parts byte_info
  rcases Nat.eq_zero_or_pos n with rfl | hpos
  · go_enter Try.func37, Try.ntmps37
    go_wp2
    go_ret
    exact ⟨none, 0, rfl, World.ownsRow_nil _ _ _ _, Below.refl _ _⟩
  · have hold : (Builtin.firstCells i0.size 0 (.slice none 0 0)).run Try.prog w.drew = .ok ([] : List Value).toArray w.drew := run_firstCells_none w.drew i0.size 0 0 0
    have hrz : ∀ ty, (Builtin.append_ #[23, 3] ty #[.slice none 0 0, .int .i64 (n : Int)]).run Try.prog w =
        .ok (.slice (some ⟨w.heap.size, 0, none⟩) n (grownCap w n 0 5)) (w.drew.alloc (.cells (([] : List Value).toArray ++ Builtin.zeroCells (Value.int .u8 0).cells n ++ Builtin.zeroCells (Value.int .u8 0).cells (grownCap w n 0 5 - n)) 5)) := fun ty => by
      have h := Lib.run_append_grow_zeros w 23 3 ty 5 i0 _ .i64 .i64 Try.underlying23 Try.underlying3 hi hz0 none 0 0 [] hold n hpos (by omega) (by omega) (by omega)
        (by rw [hz2]; omega) (by rw [hz2]; exact growslice_fits (by omega) (by omega))
      simpa only [Nat.zero_add] using h
    have hGn : n ≤ grownCap w n 0 5 := grownCap_ge w _ _ _
    obtain ⟨G, hG⟩ : ∃ G, G = grownCap w n 0 5 := ⟨_, rfl⟩
    rw [← hG] at hrz hGn
    have hG63 : G ≤ maxLen := by
      have := grownCap_le_maxLen w n 0 5 (by unfold maxLen; omega)
      rwa [← hG] at this
    have hGM := hG63
    unfold maxLen at hGM
    obtain ⟨C, hC⟩ : ∃ C, C = (([] : List Value).toArray ++ Builtin.zeroCells (Value.int .u8 0).cells n ++ Builtin.zeroCells (Value.int .u8 0).cells (G - n)) := ⟨_, rfl⟩
    have HCS := Lib.hid (show C.size = G * 1 by rw [hC]; simp only [Array.size_append, zeroCells_size]; simp [Value.cells]; omega)
    rw [← hC] at hrz
    clear hold hG hC
    go_enter Try.func37, Try.ntmps37
    go_wp2_with (at_builtin; refine Lib.wpList_append_run _ rfl _ _ _ _ rfl _ _ rfl rfl _ _ (hrz _) ?_)
    all_goals
      go_ret
      exact ⟨_, _, rfl, World.ownsRow_made (w := w.drew) C G (Nat.le_refl _) hG63 HCS.out, (Below.refl _ _).drew.alloc (Nat.le_refl _) _⟩
set_option maxHeartbeats 1600000 in
set_option maxRecDepth 100000 in
/-- slices.Concat of byte strings. -/
theorem concat_any {A : Option Addr} {n c : Nat} {xs : List SItem} {w : World} (h : RdSS w A n c xs) (hl : (cat xs).length ≤ 70368744177664) :
    Calls Try.prog 27 #[.slice A n c] w fun e w' => ∃ A' c', e = .returned (.slice A' (cat xs).length c') ∧ w'.ownsRow w.heap.size 5 1 (.slice A' (cat xs).length c') (cat xs).length (bcells (cat xs)) ∧ Below w.heap.size w w' := by
  obtain ⟨i0, hi, hz0, hz1, hz2⟩ := info_parts byte_info
  have hn := h.1
  have hcap := h.2.1
  have hcm := h.2.2.1
  unfold maxLen at hcm
  obtain rfl := hn
  have HTL := Lib.hid (cat_take_le xs)
  obtain ⟨N, hN⟩ : ∃ N, N = (cat xs).length := ⟨_, rfl⟩
  rw [← hN] at hl HTL ⊢
  have HN := Lib.hid hN
  clear hN
  go_enter Try.func27, Try.ntmps27
  go_wp2_with fail
  go_loop [3, 11] (fun t i => ∃ k : Nat, k ≤ xs.length ∧ i = .int .i64 k ∧ t = .int .i64 ((cat (xs.take k)).length : Nat)) (fun _ i => xs.length - (intOf i).toNat)
  case atStart => exact ⟨0, Nat.zero_le _, rfl, rfl⟩
  case round =>
    obtain ⟨k, hk, rfl, rfl⟩ := hrel
    have hT := HTL.out k
    obtain ⟨T, hTT⟩ : ∃ T, T = (cat (xs.take k)).length := ⟨_, rfl⟩
    rw [← hTT] at hT ⊢
    have HT := Lib.hid hTT
    clear hTT
    by_cases hlt : k < xs.length
    · obtain ⟨b, off, rfl, hb, q1, R⟩ := h.at k hlt
      obtain ⟨x, hx⟩ : ∃ x, x = xs[k] := ⟨_, rfl⟩
      rw [← hx] at q1 R
      have hs := HTL.out (k + 1)
      have hxl := R.len
      rw [bcells_length] at hxl
      rw [cat_take_succ xs k hlt, List.length_append, ← HT.out, ← hx, hxl] at hs
      have HS := Lib.hid (show (cat (xs.take (k + 1))).length = T + x.n by rw [cat_take_succ xs k hlt, List.length_append, ← HT.out, ← hx, hxl])
      clear hx hxl R
      go_wp2_with fail
      go_round
      case rel => exact ⟨k + 1, by omega, by go_num, congrArg (Value.int .i64) (by rw [HS.out]; omega)⟩
      case measure => simp [intOf]; omega
    · obtain rfl : k = xs.length := by omega
      obtain rfl : T = N := by rw [HT.out, HN.out, List.take_of_length_le (Nat.le_refl _)]
      go_wp2_with fail
      refine (grow_nil T hl _).mono ?_
      rintro e w1 ⟨A1, c1, rfl, ho1, y1⟩
      have HO1 := Lib.hid ho1
      clear ho1
      go_wp2_with fail
      go_loopw [6, 27] (fun s i wr => ∃ k : Nat, k ≤ xs.length ∧ i = .int .i64 k ∧ Below w.heap.size w wr ∧ ∃ A2 c2 m, s = .slice A2 m c2 ∧ m = (cat (xs.take k)).length ∧ wr.ownsRow w.heap.size 5 1 (.slice A2 m c2) m (bcells (cat (xs.take k)))) (fun _ i _ => xs.length - (intOf i).toNat)
      case atStart => exact ⟨0, Nat.zero_le _, rfl, y1, A1, c1, 0, rfl, rfl, HO1.out⟩
      case round =>
        obtain ⟨k, hk, rfl, yr, A2, c2, m, rfl, hm, ho⟩ := hrel
        have hmb : m ≤ T := by rw [hm]; exact HTL.out k
        have HM := Lib.hid hm
        clear hm y1
        have yrs := yr.size
        by_cases hlt : k < xs.length
        · obtain ⟨b, off, rfl, hb, q1, R⟩ := (h.on yr).at k hlt
          obtain ⟨x, hx⟩ : ∃ x, x = xs[k] := ⟨_, rfl⟩
          rw [← hx] at q1 R
          have hs := HTL.out (k + 1)
          have hxl := R.len
          rw [bcells_length] at hxl
          rw [cat_take_succ xs k hlt, List.length_append, ← HM.out, ← hx, hxl] at hs
          have HS := Lib.hid (show (cat (xs.take (k + 1))).length = m + x.n by rw [cat_take_succ xs k hlt, List.length_append, ← HM.out, ← hx, hxl])
          have HC := Lib.hid (show bcells (cat (xs.take (k + 1))) = bcells (cat (xs.take k)) ++ bcells x.d by rw [cat_take_succ xs k hlt, ← hx, bcells_append])
          clear hx hxl
          have HO := Lib.hid ho
          clear ho
          go_wp2_with (at_builtin; refine wpList_append_any _ rfl _ _ _ rfl w.heap.size 5 i0 _ 1 Try.underlying23 hi hz0 hz1 hz2 rfl _ _ _ rfl HO.out _ _ x.n x.c _ rfl R (bcells_one _) ?c1 ?c2 yrs ?_)
          case c1 => unfold maxLen; omega
          case c2 => omega
          intro A4 c4 w4 ho4 hg4 hat4
          have Y4 := below_grown yr HO.out hg4 (Nat.le_refl _) yrs
          rw [← HC.out] at ho4
          have HO4 := Lib.hid ho4
          clear ho4
          go_wp2_with fail
          go_roundw
          case rel => exact ⟨k + 1, by omega, by go_num, Y4, A4, c4, m + x.n, rfl, HS.out.symm, HO4.out⟩
          case measure => simp [intOf]; omega
        · obtain rfl : k = xs.length := by omega
          have e : cat (xs.take xs.length) = cat xs := by rw [List.take_of_length_le (Nat.le_refl _)]
          rw [e] at HM ho
          obtain rfl : m = T := by rw [HM.out, HN.out]
          have HO := Lib.hid ho
          clear ho e
          go_wp2_with fail
          go_ret
          exact ⟨_, _, rfl, HO.out, yr⟩
/-- slices.Concat of two byte strings, made for the call. -/
theorem concat_two {A1 A2 : Option Addr} {n1 c1 n2 c2 : Nat} {d1 d2 : List Nat} {w : World} (t : TypeId) (h1 : Rd w A1 n1 c1 (bcells d1)) (h2 : Rd w A2 n2 c2 (bcells d2)) (hl : n1 + n2 ≤ 70368744177664) (g : Nat) (hg : g = w.heap.size) :
    Calls Try.prog 27 #[.slice (some ⟨g, 0, none⟩) 2 2] (w.alloc (.cells #[.slice A1 n1 c1, .slice A2 n2 c2] t)) fun e w' => ∃ A' c', e = .returned (.slice A' (n1 + n2) c') ∧ w'.ownsRow w.heap.size 5 1 (.slice A' (n1 + n2) c') (n1 + n2) (bcells (d1 ++ d2)) ∧ Below w.heap.size w w' := by
  subst hg
  have e1 := h1.len
  have e2 := h2.len
  rw [bcells_length] at e1 e2
  have ec : cat [⟨A1, n1, c1, d1⟩, ⟨A2, n2, c2, d2⟩] = d1 ++ d2 := by simp [cat]
  have el : (cat [⟨A1, n1, c1, d1⟩, ⟨A2, n2, c2, d2⟩]).length = n1 + n2 := by rw [ec, List.length_append, e1, e2]
  have := concat_any (RdSS.two w t h1 h2) (by rw [el]; exact hl)
  rw [ec, ← ec, el, ec] at this
  refine this.mono ?_
  rintro e w' ⟨A', c', rfl, ho, hb⟩
  exact ⟨A', c', rfl, own_less ho (by simp), ((Below.refl _ _).alloc (Nat.le_refl _) _).trans (hb.mono (by simp))⟩
/-- x[f:] of a slice that can be read. -/
theorem Rd.tail {P : Program} {A : Option Addr} {n c : Nat} (t e : TypeId) (i : TypeInfo) (ht : P.underlying t = some (.slice e)) (hi : P.info? e = some i) (hsize : i.size = 1) (hcap : n ≤ c) (f : Nat) (hf : f ≤ n) :
    ∃ A', (∀ W, (Instr.slice t (.slice A n c) (some (.int .i64 (f : Nat))) none none).run P W = .ok (.slice A' (n - f) (c - f)) W) ∧ ∀ (w : World) (xs : List Value), Rd w A n c xs → Rd w A' (n - f) (c - f) (xs.drop f) := by
  have hrun : ∀ W, (Instr.slice t (.slice A n c) (some (.int .i64 (f : Nat))) none none).run P W = .ok (.slice (if c = f then A else A.map (·.add (f * 1))) (n - f) (c - f)) W := by
    intro W
    have h1 : n ≤ c := by omega
    simp [Instr.slice, Instr.sliceBounds, Instr.sliceBound, asIntOf, run_underlying ht, sizeOf, typeInfo, hi, hsize, h1, hf, go_sem]
  refine ⟨_, hrun, fun w xs h => ?_⟩
  have hn := h.len
  have hcm := Reads.capMax h
  by_cases hc : c = f
  · rw [if_pos hc]
    have h0 : n - f = 0 := by omega
    rw [h0, List.drop_eq_nil_of_le (by omega)]
    exact Reads.nil _ _ A _ (by omega)
  · rw [if_neg hc]
    refine ⟨by rw [List.length_drop]; omega, by omega, by omega, fun hpos => ?_⟩
    obtain ⟨b, off, rfl, hb, hcell⟩ := h.2.2.2 (by omega)
    refine ⟨b, off + f, ?_, hb, fun j u hu => ?_⟩
    · simp only [Option.map_some, Nat.mul_one, Option.some.injEq]
      unfold Addr.add
      by_cases h0 : f = 0 <;> simp [h0]
    · rw [List.getElem?_drop] at hu
      have := hcell (f + j) u hu
      rwa [← Nat.add_assoc] at this
set_option maxHeartbeats 800000 in
/-- slices.Clone at []byte. -/
theorem bclone_any {A : Option Addr} {n c : Nat} {d : List Nat} {w : World} (h : Rd w A n c (bcells d)) (hl : n ≤ 140737488355328) :
    Calls Try.prog 28 #[.slice A n c] w fun e w' => ∃ A' c', e = .returned (.slice A' n c') ∧ w'.ownsRow w.heap.size 5 1 (.slice A' n c') n (bcells d) ∧ Below w.heap.size w w' := by
  obtain ⟨i0, hi, hz0, hz1, hz2⟩ := info_parts byte_info
  have hnil := fun W => Lib.run_eql_slice_nil (P := Try.prog) W 23 5 A n c 0 0 Try.underlying23
  cases A with
  | none =>
    obtain rfl : n = 0 := by
      rcases Nat.eq_zero_or_pos n with h0 | h0
      · exact h0
      · obtain ⟨_, _, e, _⟩ := h.2.2.2 h0
        cases e
    go_enter Try.func28, Try.ntmps28
    go_wp2
    go_ret
    have hd : bcells d = [] := List.eq_nil_of_length_eq_zero h.1
    exact ⟨none, 0, rfl, by rw [hd]; exact World.ownsRow_nil _ _ _ _, Below.refl _ _⟩
  | some ad =>
    have y0 : Below w.heap.size w (w.alloc (.cells #[] 5)) := (Below.refl _ _).alloc (Nat.le_refl _) _
    have hO : (w.alloc (.cells #[] 5)).ownsRow w.heap.size 5 1 (.slice (some ⟨w.heap.size, 0, none⟩) 0 0) 0 [] := by
      have := World.ownsRow_lit (base := w.heap.size) (e := 5) (size := 1) w #[] 0 (Nat.le_refl _) (by simp [maxLen]) rfl
      simpa using this
    go_enter Try.func28, Try.ntmps28
    go_wp2_with (at_builtin; refine wpList_append_any _ rfl _ _ _ rfl w.heap.size 5 i0 _ 1 Try.underlying23 hi hz0 hz1 hz2 rfl _ _ _ rfl hO _ _ n c _ rfl (h.alloc _) (bcells_one _) ?c1 ?c2 ?c3 ?_)
    case c1 => unfold maxLen; omega
    case c2 => omega
    case c3 => simp
    intro A4 c4 w4 ho4 hg4 hat4
    have Y4 := below_grown y0 hO hg4 (Nat.le_refl _) (by simp)
    (try simp only [Nat.zero_add, List.nil_append] at ho4)
    have HO4 := Lib.hid ho4
    clear ho4
    go_wp2
    go_ret
    have e0 : 0 + n = n := Nat.zero_add n
    have ho5 := HO4.out
    (try rw [e0] at ho5)
    exact ⟨A4, c4, by simp, ho5, Y4⟩
end PB
end Go.Proofs.Ytnahmiglogddaaa
