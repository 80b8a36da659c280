/-
  Walk passes the predicted probabilities to its function and stops at the first result that is no bit: the walk of the statement ModelWalkFollowsPredictions.
-/
import Derived.Test.YtmkkbedbgkhbpaaRows
import Derived.Test.YtmkkbedbgkhbpaaMdEx
import Derived.Deep.RegionHeld3
import Derived.Deep.DrawnRows
import Derived.Deep.Cut
namespace Go.Proofs.Ytmkkbedbgkhbpaa
open Go.RowKit
attribute [local go_sem ↓] Go.wp_at_zero Go.wp_at_succ
set_option linter.unusedVariables false
set_option linter.unusedSimpArgs false
namespace PB
set_option maxRecDepth 100000 in
set_option maxHeartbeats 1600000 in
theorem mwalk_range (oi si : Int) (f : Value) (ho : ¬ (0 ≤ oi ∧ oi ≤ 2)) (w : World)  :
    Calls Try.prog 14 #[.int .i64 oi, .int .i64 si, f] w fun e w' => e = .returned (.agg #[.int .i64 4, .int .i64 (-1)]) ∧ Below w.heap.size w w' := by
  have hcs : oi < 0 ∨ (0 ≤ oi ∧ 2 < oi) := by omega
  clear ho
  rcases hcs with h1 | ⟨h1, h2⟩
  all_goals
    have R0 := Two.new w 24 (.int .i64 0) (.int .i64 0)
    have Y0 := (Below.refl w.heap.size w).alloc (Nat.le_refl _) (.cells #[.int .i64 0, .int .i64 0] 24)
    go_enter Try.func14, Try.ntmps14
    go_wp2_with fail
    refine (mdfault_any _ _ _).mono ?_
    rintro e w1 ⟨rfl, y1⟩
    have R1 := R0.on y1
    have Y1 := Lib.hid (Y0.trans (y1.mono Y0.size))
    clear y1 R0 Y0
    have q0 := R1.c0
    have q1 := R1.c1
    have q2 := R1.f0
    have q3 := R1.f1
    go_wp2
    have rr := (R1.set0 (.int .i64 4)).set1 (.int .i64 (-1))
    have r0 := rr.c0
    have r1 := rr.c1
    refine bodyPost_ret (v := .agg #[.int .i64 4, .int .i64 (-1)]) (by simp [results, Try.results14, go_sem, r0, r1]) rfl ⟨rfl, ?_⟩
    exact (Y1.out.setCell (p := ⟨w.heap.size, 0, none⟩) (by simp) _).setCell (p := ⟨w.heap.size, 1, none⟩) (by simp) _
set_option maxRecDepth 100000 in
set_option maxHeartbeats 1600000 in
theorem mwalk_long (oi si : Int) (f : Value) (ho : 0 ≤ oi ∧ oi ≤ 2) (hs : si < 0 ∨ 8192 < si) (w : World)  :
    Calls Try.prog 14 #[.int .i64 oi, .int .i64 si, f] w fun e w' => e = .returned (.agg #[.int .i64 4, .int .i64 (-2)]) ∧ Below w.heap.size w w' := by
  obtain ⟨h1, h2⟩ := ho
  have hcs : si < 0 ∨ (0 ≤ si ∧ 8192 < si) := by omega
  clear hs
  rcases hcs with h3 | ⟨h3, h4⟩
  all_goals
    have R0 := Two.new w 24 (.int .i64 0) (.int .i64 0)
    have Y0 := (Below.refl w.heap.size w).alloc (Nat.le_refl _) (.cells #[.int .i64 0, .int .i64 0] 24)
    go_enter Try.func14, Try.ntmps14
    go_wp2_with fail
    refine (mdfault_any _ _ _).mono ?_
    rintro e w1 ⟨rfl, y1⟩
    have R1 := R0.on y1
    have Y1 := Lib.hid (Y0.trans (y1.mono Y0.size))
    clear y1 R0 Y0
    have q0 := R1.c0
    have q1 := R1.c1
    have q2 := R1.f0
    have q3 := R1.f1
    go_wp2
    have rr := (R1.set0 (.int .i64 4)).set1 (.int .i64 (-2))
    have r0 := rr.c0
    have r1 := rr.c1
    refine bodyPost_ret (v := .agg #[.int .i64 4, .int .i64 (-2)]) (by simp [results, Try.results14, go_sem, r0, r1]) rfl ⟨rfl, ?_⟩
    exact (Y1.out.setCell (p := ⟨w.heap.size, 0, none⟩) (by simp) _).setCell (p := ⟨w.heap.size, 1, none⟩) (by simp) _
theorem wrap_long {n : Nat} (h1 : 8192 ≤ n) (h2 : n ≤ 9223372036854775807) : wrap64 ((n : Int) + 1) < 0 ∨ 8192 < wrap64 ((n : Int) + 1) := by
  rcases (by omega : n + 1 ≤ 9223372036854775807 ∨ n = 9223372036854775807) with h | rfl
  · right
    rw [IntWalk.wrap64_in _ (by omega)]
    omega
  · left
    decide +kernel
theorem allpreds_snoc (ord : Nat) (h : List Nat) : preds ord h ++ [predv h h.length ord] = allpreds ord h := by
  unfold preds allpreds
  rw [List.range_succ, List.map_append]
  rfl
section
variable {B ob hb lb : Nat} {w0 : World} {A : Option Addr} {n c ord : Nat} {xs : List Int} {last : Int} {w : World}
theorem okpre_bits {l : List Nat} (h01 : Is01 l) (hp : Okpre n xs last l) (j : Nat) (hj : j < l.length) : ysat n xs last j = 0 ∨ ysat n xs last j = 1 := by
  rw [hp j hj]
  have := h01 j
  omega
theorem wl_bad (h : Col B ob hb lb w0 A n c xs true last [] w) (hn : n + 1 ≤ 8192) (ho : ord ≤ 2) (q : Nat) (hq : q ≤ n) (hbit : ∀ j, j < q → ysat n xs last j = 0 ∨ ysat n xs last j = 1) (hbad : ¬ (ysat n xs last q = 0 ∨ ysat n xs last q = 1)) (oi si : Int) (hoi : oi = (ord : Nat)) (hsi : si = ((n + 1 : Nat) : Int)) :
    Calls Try.prog 14 #[.int .i64 oi, .int .i64 si, .func (.func 15) #[] #[.pointer (some ⟨ob, 0, none⟩), .pointer (some ⟨hb, 0, none⟩), .pointer (some ⟨lb, 0, none⟩)]] w fun e w' => ∃ Ao co, e = .returned (.agg #[.int .i64 6, .int .i64 (q : Nat)]) ∧ ∃ l, Is01 l ∧ Okpre n xs last l ∧ l.length = q ∧
      (One w' ob 22 (.slice Ao (q + 1) co) ∧ w'.ownsRow (ob + 1) 3 1 (.slice Ao (q + 1) co) (q + 1) (ncells (allpreds ord l)) ∧ One w' hb 22 (.slice A n c) ∧ One w' lb 3 (.int .i64 last) ∧ Below B w0 w' ∧ Reads w' B A n c (icells xs)) := by
  refine (walk_law h hn ho oi si hoi hsi).mono ?_
  rintro e w' ⟨hfk, l, h01, hpre, hres⟩
  have hle : l.length ≤ q := by
    rcases Nat.lt_or_ge q l.length with h1 | h1
    · exact absurd (okpre_bits h01 hpre q h1) hbad
    · exact h1
  rcases hres with ⟨h1, _, _⟩ | ⟨h1, h2, rfl, hc⟩
  · omega
  · have hlq : l.length = q := by
      rcases Nat.lt_or_ge l.length q with h3 | h3
      · exact absurd (hbit _ h3) h2
      · omega
    obtain ⟨⟨Ao, co, o1, o2⟩, h3, h4, h5, h6, h7, h8, h9⟩ := hc
    rw [allpreds_snoc] at o1 o2
    have hal : (allpreds ord l).length = q + 1 := by rw [allpreds_length, hlq]
    rw [hal] at o1 o2
    exact ⟨Ao, co, by rw [hlq], l, h01, hpre, hlq, o1, o2, h3, (h4 rfl).1, h6, h5⟩
theorem wl_ok (h : Col B ob hb lb w0 A n c xs true last [] w) (hxn : xs.length = n) (hn : n + 1 ≤ 8192) (ho : ord ≤ 2) (hbit : BitsTo xs n) (hlast : last = 0 ∨ last = 1) (oi si : Int) (hoi : oi = (ord : Nat)) (hsi : si = ((n + 1 : Nat) : Int)) :
    Calls Try.prog 14 #[.int .i64 oi, .int .i64 si, .func (.func 15) #[] #[.pointer (some ⟨ob, 0, none⟩), .pointer (some ⟨hb, 0, none⟩), .pointer (some ⟨lb, 0, none⟩)]] w fun e w' => ∃ Ao co, e = .returned (.agg #[.int .i64 0, .int .i64 0]) ∧
      (One w' ob 22 (.slice Ao (n + 1) co) ∧ w'.ownsRow (ob + 1) 3 1 (.slice Ao (n + 1) co) (n + 1) (ncells (allpreds ord (toBits xs))) ∧ One w' hb 22 (.slice A n c) ∧ One w' lb 3 (.int .i64 last) ∧ Below B w0 w' ∧ Reads w' B A n c (icells xs)) := by
  refine (walk_law h hn ho oi si hoi hsi).mono ?_
  rintro e w' ⟨hfk, l, h01, hpre, hres⟩
  have hys : ∀ j, j < n + 1 → ysat n xs last j = 0 ∨ ysat n xs last j = 1 := by
    intro j hj
    unfold ysat
    split
    · exact hbit j (by omega)
    · exact hlast
  rcases hres with ⟨h1, rfl, hc⟩ | ⟨h1, h2, _, _⟩
  · have hle : l = toBits xs ++ [last.toNat] := by
      refine List.ext_getElem (by rw [h1, List.length_append, toBits_length, List.length_singleton, hxn]) ?_
      intro j h3 h4
      have e1 := hpre j h3
      rw [← getD_lt h3, ← getD_lt h4]
      rcases (by omega : j < n ∨ j = n) with h5 | h5
      · rw [getD_append_lt (by rw [toBits_length]; omega), toBits_getD]
        unfold ysat at e1
        rw [if_pos h5] at e1
        omega
      · subst h5
        have e2 : (toBits xs ++ [last.toNat]).getD j 0 = last.toNat := by
          rw [List.getD_eq_getElem?_getD, List.getElem?_append_right (by rw [toBits_length]; omega), toBits_length, hxn, Nat.sub_self]; rfl
        unfold ysat at e1
        rw [if_neg (by omega)] at e1
        rw [e2]
        omega
    obtain ⟨⟨Ao, co, o1, o2⟩, h3, h4, h5, h6, h7, h8, h9⟩ := hc
    rw [hle, preds_last] at o1 o2
    have hal : (allpreds ord (toBits xs)).length = n + 1 := by rw [allpreds_length, toBits_length, hxn]
    rw [hal] at o1 o2
    exact ⟨Ao, co, rfl, o1, o2, h3, (h4 rfl).1, h6, h5⟩
  · exact absurd (hys _ h1) h2
end
theorem okpre_full {n : Nat} {xs : List Int} {last : Int} {l : List Nat} (hxn : xs.length = n) (hp : Okpre n xs last l) (hl : l.length = n) : l = toBits xs := by
  refine List.ext_getElem (by rw [hl, toBits_length, hxn]) ?_
  intro j h3 h4
  have e1 := hp j h3
  rw [← getD_lt h3, ← getD_lt h4, toBits_getD]
  unfold ysat at e1
  rw [if_pos (by omega)] at e1
  omega
theorem ncells_icells (l : List Nat) : ncells l = icells (l.map fun x : Nat => (x : Int)) := by simp [ncells, icells]
theorem Rd.toI {w : World} {A : Option Addr} {n c : Nat} {l : List Nat} (h : Rd w A n c (ncells l)) : Rd w A n c (icells (l.map fun x : Nat => (x : Int))) := by rw [← ncells_icells]; exact h
set_option maxRecDepth 100000 in
set_option maxHeartbeats 1600000 in
theorem mw_range {A : Option Addr} {n c : Nat} {xs : List Int} {oi last : Int} (ho : ¬ (0 ≤ oi ∧ oi ≤ 2)) (w : World) (h : Rd w A n c (icells xs)) :
    Calls Try.prog 6 #[.int .i64 oi, .slice A n c, .int .i64 last] w fun e w' => e = .returned (.bool true) ∧ Below w.heap.size w w' := by
  have hn := h.len
  simp only [icells, List.length_map] at hn
  subst hn
  have hcap := Reads.cap h
  have hcm := Reads.capMax h
  unfold maxLen at hcm
  have HPF := Lib.hid (fun (W : World) (hW : Rd W A xs.length c (icells xs)) => pfault_any hW oi 4 (-1) (.inl ⟨ho, rfl, rfl⟩))
  have HW := Lib.hid (fun (W : World) (f : Value) => mwalk_range oi (wrap64 ((xs.length : Int) + 1)) f ho W)
  clear ho
  have C_0 := (((h).alloc (.cells #[.slice A xs.length c] 22)).alloc (.cells #[.int .i64 last] 3)).alloc (.cells #[.slice none 0 0] 22)
  have H_0 := (((One.new w 22 (.slice A xs.length c))).alloc (.cells #[.int .i64 last] 3)).alloc (.cells #[.slice none 0 0] 22)
  have B_0 := ((One.new1 w (.cells #[.slice A xs.length c] 22) 3 (.int .i64 last))).alloc (.cells #[.slice none 0 0] 22)
  have O_0 := (One.new2 w (.cells #[.slice A xs.length c] 22) (.cells #[.int .i64 last] 3) 22 (.slice none 0 0))
  have Z0 := (((Below.refl w.heap.size w).alloc (by simp) (.cells #[.slice A xs.length c] 22)).alloc (by simp) (.cells #[.int .i64 last] 3)).alloc (by simp; omega) (.cells #[.slice none 0 0] 22)
  have H_0_c0 := H_0.c0
  have B_0_c0 := B_0.c0
  have O_0_c0 := O_0.c0
  go_enter Try.func6, Try.ntmps6
  go_wp2_with fail
  refine (HW.out _ _).mono ?_
  rintro e w1 ⟨rfl, y1⟩
  have C_1 := (C_0.on y1).alloc (.cells #[.int .i64 4, .int .i64 (-1)] 24)
  have H_1 := (H_0.on y1).alloc (.cells #[.int .i64 4, .int .i64 (-1)] 24)
  have B_1 := (B_0.on y1).alloc (.cells #[.int .i64 4, .int .i64 (-1)] 24)
  have O_1 := (O_0.on y1).alloc (.cells #[.int .i64 4, .int .i64 (-1)] 24)
  have F_1 := (Two.new w1 24 (.int .i64 4) (.int .i64 (-1)))
  clear C_0 H_0 H_0_c0 B_0 B_0_c0 O_0 O_0_c0
  have z1 := Z0.trans (y1.mono Z0.size)
  have Z1 := (z1).alloc (by have := z1.size; omega) (.cells #[.int .i64 4, .int .i64 (-1)] 24)
  have H_1_c0 := H_1.c0
  have B_1_c0 := B_1.c0
  have O_1_c0 := O_1.c0
  have F_1_c0 := F_1.c0
  have F_1_c1 := F_1.c1
  go_wp2_with fail
  refine (HPF.out _ C_1).mono ?_
  rintro e w2 ⟨rfl, y2⟩
  have C_2 := (C_1.on y2).alloc (.cells #[.int .i64 4, .int .i64 (-1)] 24)
  have H_2 := (H_1.on y2).alloc (.cells #[.int .i64 4, .int .i64 (-1)] 24)
  have B_2 := (B_1.on y2).alloc (.cells #[.int .i64 4, .int .i64 (-1)] 24)
  have O_2 := (O_1.on y2).alloc (.cells #[.int .i64 4, .int .i64 (-1)] 24)
  have F_2 := (F_1.on y2).alloc (.cells #[.int .i64 4, .int .i64 (-1)] 24)
  have G_2 := (Two.new w2 24 (.int .i64 4) (.int .i64 (-1)))
  clear C_1 H_1 H_1_c0 B_1 B_1_c0 O_1 O_1_c0 F_1 F_1_c0 F_1_c1
  have z2 := Z1.trans (y2.mono Z1.size)
  have Z2 := (z2).alloc (by have := z2.size; omega) (.cells #[.int .i64 4, .int .i64 (-1)] 24)
  have H_2_c0 := H_2.c0
  have B_2_c0 := B_2.c0
  have O_2_c0 := O_2.c0
  have F_2_c0 := F_2.c0
  have F_2_c1 := F_2.c1
  have G_2_c0 := G_2.c0
  have G_2_c1 := G_2.c1
  have G_2_f0 := G_2.f0
  have G_2_f1 := G_2.f1
  go_wp2_with fail
  refine (predicts_true _).mono ?_
  rintro e w3 ⟨rfl, y3⟩
  have C_3 := C_2.on y3
  have H_3 := H_2.on y3
  have B_3 := B_2.on y3
  have O_3 := O_2.on y3
  have F_3 := F_2.on y3
  have G_3 := G_2.on y3
  clear C_2 H_2 H_2_c0 B_2 B_2_c0 O_2 O_2_c0 F_2 F_2_c0 F_2_c1 G_2 G_2_c0 G_2_c1 G_2_f0 G_2_f1
  have z3 := Z2.trans (y3.mono Z2.size)
  have Z3 := z3
  have H_3_c0 := H_3.c0
  have B_3_c0 := B_3.c0
  have O_3_c0 := O_3.c0
  have F_3_c0 := F_3.c0
  have F_3_c1 := F_3.c1
  have G_3_c0 := G_3.c0
  have G_3_c1 := G_3.c1
  have G_3_f0 := G_3.f0
  have G_3_f1 := G_3.f1
  go_wp2
  go_ret
  exact ⟨rfl, Z3⟩
set_option maxRecDepth 100000 in
set_option maxHeartbeats 1600000 in
theorem mw_long {A : Option Addr} {n c : Nat} {xs : List Int} {oi last : Int} (ho : 0 ≤ oi ∧ oi ≤ 2) (hl : 8192 ≤ xs.length) (w : World) (h : Rd w A n c (icells xs)) :
    Calls Try.prog 6 #[.int .i64 oi, .slice A n c, .int .i64 last] w fun e w' => e = .returned (.bool true) ∧ Below w.heap.size w w' := by
  have hn := h.len
  simp only [icells, List.length_map] at hn
  subst hn
  have hcap := Reads.cap h
  have hcm := Reads.capMax h
  unfold maxLen at hcm
  have HPF := Lib.hid (fun (W : World) (hW : Rd W A xs.length c (icells xs)) => pfault_any hW oi 2 (-2) (.inr (.inl ⟨ho, hl, rfl, rfl⟩)))
  have HW := Lib.hid (fun (W : World) (f : Value) => mwalk_long oi (wrap64 ((xs.length : Int) + 1)) f ho (wrap_long (by omega) (by omega)) W)
  clear ho
  have C_0 := (((h).alloc (.cells #[.slice A xs.length c] 22)).alloc (.cells #[.int .i64 last] 3)).alloc (.cells #[.slice none 0 0] 22)
  have H_0 := (((One.new w 22 (.slice A xs.length c))).alloc (.cells #[.int .i64 last] 3)).alloc (.cells #[.slice none 0 0] 22)
  have B_0 := ((One.new1 w (.cells #[.slice A xs.length c] 22) 3 (.int .i64 last))).alloc (.cells #[.slice none 0 0] 22)
  have O_0 := (One.new2 w (.cells #[.slice A xs.length c] 22) (.cells #[.int .i64 last] 3) 22 (.slice none 0 0))
  have Z0 := (((Below.refl w.heap.size w).alloc (by simp) (.cells #[.slice A xs.length c] 22)).alloc (by simp) (.cells #[.int .i64 last] 3)).alloc (by simp; omega) (.cells #[.slice none 0 0] 22)
  have H_0_c0 := H_0.c0
  have B_0_c0 := B_0.c0
  have O_0_c0 := O_0.c0
  go_enter Try.func6, Try.ntmps6
  go_wp2_with fail
  refine (HW.out _ _).mono ?_
  rintro e w1 ⟨rfl, y1⟩
  have C_1 := (C_0.on y1).alloc (.cells #[.int .i64 4, .int .i64 (-2)] 24)
  have H_1 := (H_0.on y1).alloc (.cells #[.int .i64 4, .int .i64 (-2)] 24)
  have B_1 := (B_0.on y1).alloc (.cells #[.int .i64 4, .int .i64 (-2)] 24)
  have O_1 := (O_0.on y1).alloc (.cells #[.int .i64 4, .int .i64 (-2)] 24)
  have F_1 := (Two.new w1 24 (.int .i64 4) (.int .i64 (-2)))
  clear C_0 H_0 H_0_c0 B_0 B_0_c0 O_0 O_0_c0
  have z1 := Z0.trans (y1.mono Z0.size)
  have Z1 := (z1).alloc (by have := z1.size; omega) (.cells #[.int .i64 4, .int .i64 (-2)] 24)
  have H_1_c0 := H_1.c0
  have B_1_c0 := B_1.c0
  have O_1_c0 := O_1.c0
  have F_1_c0 := F_1.c0
  have F_1_c1 := F_1.c1
  go_wp2_with fail
  refine (HPF.out _ C_1).mono ?_
  rintro e w2 ⟨rfl, y2⟩
  have C_2 := (C_1.on y2).alloc (.cells #[.int .i64 2, .int .i64 (-2)] 24)
  have H_2 := (H_1.on y2).alloc (.cells #[.int .i64 2, .int .i64 (-2)] 24)
  have B_2 := (B_1.on y2).alloc (.cells #[.int .i64 2, .int .i64 (-2)] 24)
  have O_2 := (O_1.on y2).alloc (.cells #[.int .i64 2, .int .i64 (-2)] 24)
  have F_2 := (F_1.on y2).alloc (.cells #[.int .i64 2, .int .i64 (-2)] 24)
  have G_2 := (Two.new w2 24 (.int .i64 2) (.int .i64 (-2)))
  clear C_1 H_1 H_1_c0 B_1 B_1_c0 O_1 O_1_c0 F_1 F_1_c0 F_1_c1
  have z2 := Z1.trans (y2.mono Z1.size)
  have Z2 := (z2).alloc (by have := z2.size; omega) (.cells #[.int .i64 2, .int .i64 (-2)] 24)
  have H_2_c0 := H_2.c0
  have B_2_c0 := B_2.c0
  have O_2_c0 := O_2.c0
  have F_2_c0 := F_2.c0
  have F_2_c1 := F_2.c1
  have G_2_c0 := G_2.c0
  have G_2_c1 := G_2.c1
  have G_2_f0 := G_2.f0
  have G_2_f1 := G_2.f1
  go_wp2_with fail
  refine (predicts_true _).mono ?_
  rintro e w3 ⟨rfl, y3⟩
  have C_3 := C_2.on y3
  have H_3 := H_2.on y3
  have B_3 := B_2.on y3
  have O_3 := O_2.on y3
  have F_3 := F_2.on y3
  have G_3 := G_2.on y3
  clear C_2 H_2 H_2_c0 B_2 B_2_c0 O_2 O_2_c0 F_2 F_2_c0 F_2_c1 G_2 G_2_c0 G_2_c1 G_2_f0 G_2_f1
  have z3 := Z2.trans (y3.mono Z2.size)
  have Z3 := z3
  have H_3_c0 := H_3.c0
  have B_3_c0 := B_3.c0
  have O_3_c0 := O_3.c0
  have F_3_c0 := F_3.c0
  have F_3_c1 := F_3.c1
  have G_3_c0 := G_3.c0
  have G_3_c1 := G_3.c1
  have G_3_f0 := G_3.f0
  have G_3_f1 := G_3.f1
  go_wp2_with fail
  go_region_held3 (fun w' => w'.cell? ⟨w1.heap.size, 0, none⟩ = some (.int .i64 4) ∧ w'.cell? ⟨w1.heap.size, 1, none⟩ = some (.int .i64 (-2)) ∧ w'.cell? ⟨w.heap.size + 2, 0, none⟩ = some (.slice none 0 0)) (go_keep) ((go_at_call 16; refine (refat_any _ _ _).mono ?_; rintro e w4 ⟨rfl, y4⟩; have Y4 : Below w3.heap.size w3.drew w4 := y4; have F_4_c0 := ((Two.on (w := w3.drew) F_3 Y4)).c0; have F_4_c1 := ((Two.on (w := w3.drew) F_3 Y4)).c1; have O_4_c0 := ((One.on (w := w3.drew) O_3 Y4)).c0))
  have C_4 := (Rd.on (w := w3.drew) C_3 Y4)
  have H_4 := (One.on (w := w3.drew) H_3 Y4)
  have B_4 := (One.on (w := w3.drew) B_3 Y4)
  have O_4 := (One.on (w := w3.drew) O_3 Y4)
  have F_4 := (Two.on (w := w3.drew) F_3 Y4)
  have G_4 := (Two.on (w := w3.drew) G_3 Y4)
  have Z4 := (belowD Z3).trans (Y4.mono (belowD Z3).size)
  clear F_4_c0 F_4_c1 O_4_c0
  clear C_3 H_3 H_3_c0 B_3 B_3_c0 O_3 O_3_c0 F_3 F_3_c0 F_3_c1 G_3 G_3_c0 G_3_c1 G_3_f0 G_3_f1
  have H_4_c0 := H_4.c0
  have B_4_c0 := B_4.c0
  have O_4_c0 := O_4.c0
  have F_4_c0 := F_4.c0
  have F_4_c1 := F_4.c1
  have G_4_c0 := G_4.c0
  have G_4_c1 := G_4.c1
  have G_4_f0 := G_4.f0
  have G_4_f1 := G_4.f1
  go_wp2
  go_ret
  exact ⟨rfl, Z4⟩
set_option maxRecDepth 100000 in
set_option maxHeartbeats 1600000 in
theorem mw_bad {A : Option Addr} {n c : Nat} {xs : List Int} {oi last : Int} (ho : 0 ≤ oi ∧ oi ≤ 2) (hl : xs.length < 8192) (q : Nat) (hq : q < xs.length) (hb : BitsTo xs q) (hbad : ¬ IsBit (xs.getD q 0)) (w : World) (h : Rd w A n c (icells xs)) :
    Calls Try.prog 6 #[.int .i64 oi, .slice A n c, .int .i64 last] w fun e w' => e = .returned (.bool true) ∧ Below w.heap.size w w' := by
  have hn := h.len
  simp only [icells, List.length_map] at hn
  subst hn
  have hcap := Reads.cap h
  have hcm := Reads.capMax h
  unfold maxLen at hcm
  have HPF := Lib.hid (fun (W : World) (hW : Rd W A xs.length c (icells xs)) => pfault_any hW oi 6 (q : Nat) (.inr (.inr (.inl ⟨ho, hl, ⟨q, hq, hb, hbad, rfl⟩, rfl⟩))))
  obtain ⟨ord, rfl⟩ := Int.eq_ofNat_of_zero_le ho.1
  have hord : ord ≤ 2 := by have := ho.2; omega
  have HYS := Lib.hid (show (∀ j, j < q → ysat xs.length xs last j = 0 ∨ ysat xs.length xs last j = 1) ∧ ¬ (ysat xs.length xs last q = 0 ∨ ysat xs.length xs last q = 1) from ⟨fun j hj => by unfold ysat; rw [if_pos (by omega)]; exact hb j hj, by unfold ysat; rw [if_pos hq]; exact hbad⟩)
  have HQ := Lib.hid (show q ≤ xs.length by omega)
  have HB := Lib.hid hb
  have HL := Lib.hid hl
  clear ho hb hbad
  have C_0 := (((h).alloc (.cells #[.slice A xs.length c] 22)).alloc (.cells #[.int .i64 last] 3)).alloc (.cells #[.slice none 0 0] 22)
  have H_0 := (((One.new w 22 (.slice A xs.length c))).alloc (.cells #[.int .i64 last] 3)).alloc (.cells #[.slice none 0 0] 22)
  have B_0 := ((One.new1 w (.cells #[.slice A xs.length c] 22) 3 (.int .i64 last))).alloc (.cells #[.slice none 0 0] 22)
  have O_0 := (One.new2 w (.cells #[.slice A xs.length c] 22) (.cells #[.int .i64 last] 3) 22 (.slice none 0 0))
  have Z0 := (((Below.refl w.heap.size w).alloc (by simp) (.cells #[.slice A xs.length c] 22)).alloc (by simp) (.cells #[.int .i64 last] 3)).alloc (by simp; omega) (.cells #[.slice none 0 0] 22)
  have H_0_c0 := H_0.c0
  have B_0_c0 := B_0.c0
  have O_0_c0 := O_0.c0
  have HCOL := Lib.hid (show Col w.heap.size (w.heap.size + 2) w.heap.size (w.heap.size + 1) w A xs.length c xs true last [] ((((w).alloc (.cells #[.slice A xs.length c] 22)).alloc (.cells #[.int .i64 last] 3)).alloc (.cells #[.slice none 0 0] 22)) from ⟨⟨none, 0, O_0, World.ownsRow_nil _ _ _ _⟩, H_0, (fun _ => ⟨B_0, by omega, by omega⟩), Reads.below h Z0, Z0, by omega, Nat.le_refl _, by omega⟩)
  go_enter Try.func6, Try.ntmps6
  go_wp2_with fail
  refine (wl_bad HCOL.out (by have := HL.out; omega) hord q HQ.out HYS.out.1 HYS.out.2 (ord : Nat) ((xs.length : Int) + 1) rfl (by push_cast; rfl)).mono ?_
  clear C_0 H_0 H_0_c0 B_0 B_0_c0 O_0 O_0_c0
  rintro e w1 ⟨Ao, co, rfl, l, h01, hpre, hll, t1, t2, t3, t4, t5, t6⟩
  have C_1 : Rd w1 A xs.length c (icells xs) := Reads.more t6 t5.size
  clear t6
  have H_2 := t3.alloc (.cells #[.int .i64 6, .int .i64 (q : Nat)] 24)
  have B_2 := t4.alloc (.cells #[.int .i64 6, .int .i64 (q : Nat)] 24)
  have O_2 := t1.alloc (.cells #[.int .i64 6, .int .i64 (q : Nat)] 24)
  have Y_2 := own_on t2 ((Below.refl _ _).alloc (Nat.le_refl _) (.cells #[.int .i64 6, .int .i64 (q : Nat)] 24))
  have C_2 := C_1.alloc (.cells #[.int .i64 6, .int .i64 (q : Nat)] 24)
  have F_2 := Two.new w1 24 (.int .i64 6) (.int .i64 (q : Nat))
  have Z2 := t5.alloc t5.size (.cells #[.int .i64 6, .int .i64 (q : Nat)] 24)
  clear t1 t2 t3 t4 t5 C_1
  have H_2_c0 := H_2.c0
  have B_2_c0 := B_2.c0
  have O_2_c0 := O_2.c0
  have F_2_c0 := F_2.c0
  have F_2_c1 := F_2.c1
  go_wp2_with fail
  refine (HPF.out _ C_2).mono ?_
  rintro e w3 ⟨rfl, y3⟩
  have H_3 := (H_2.on y3).alloc (.cells #[.int .i64 6, .int .i64 (q : Nat)] 24)
  have B_3 := (B_2.on y3).alloc (.cells #[.int .i64 6, .int .i64 (q : Nat)] 24)
  have O_3 := (O_2.on y3).alloc (.cells #[.int .i64 6, .int .i64 (q : Nat)] 24)
  have Y_3 := (own_on Y_2 y3).alloc (.cells #[.int .i64 6, .int .i64 (q : Nat)] 24)
  have C_3 := (C_2.on y3).alloc (.cells #[.int .i64 6, .int .i64 (q : Nat)] 24)
  have F_3 := (F_2.on y3).alloc (.cells #[.int .i64 6, .int .i64 (q : Nat)] 24)
  have G_3 := (Two.new w3 24 (.int .i64 6) (.int .i64 (q : Nat)))
  clear H_2 H_2_c0 B_2 B_2_c0 O_2 O_2_c0 Y_2 C_2 F_2 F_2_c0 F_2_c1
  have z3 := Z2.trans (y3.mono Z2.size)
  have Z3 := (z3).alloc (by have := z3.size; omega) (.cells #[.int .i64 6, .int .i64 (q : Nat)] 24)
  have H_3_c0 := H_3.c0
  have B_3_c0 := B_3.c0
  have O_3_c0 := O_3.c0
  have F_3_c0 := F_3.c0
  have F_3_c1 := F_3.c1
  have G_3_c0 := G_3.c0
  have G_3_c1 := G_3.c1
  have G_3_f0 := G_3.f0
  have G_3_f1 := G_3.f1
  go_wp2_with fail
  refine (predicts_true _).mono ?_
  rintro e w4 ⟨rfl, y4⟩
  have H_4 := H_3.on y4
  have B_4 := B_3.on y4
  have O_4 := O_3.on y4
  have Y_4 := own_on Y_3 y4
  have C_4 := C_3.on y4
  have F_4 := F_3.on y4
  have G_4 := G_3.on y4
  clear H_3 H_3_c0 B_3 B_3_c0 O_3 O_3_c0 Y_3 C_3 F_3 F_3_c0 F_3_c1 G_3 G_3_c0 G_3_c1 G_3_f0 G_3_f1
  have z4 := Z3.trans (y4.mono Z3.size)
  have Z4 := z4
  have H_4_c0 := H_4.c0
  have B_4_c0 := B_4.c0
  have O_4_c0 := O_4.c0
  have F_4_c0 := F_4.c0
  have F_4_c1 := F_4.c1
  have G_4_c0 := G_4.c0
  have G_4_c1 := G_4.c1
  have G_4_f0 := G_4.f0
  have G_4_f1 := G_4.f1
  go_wp2
  go_ret
  exact ⟨rfl, Z4⟩
set_option maxRecDepth 100000 in
set_option maxHeartbeats 1600000 in
theorem mw_last {A : Option Addr} {n c : Nat} {xs : List Int} {oi last : Int} (ho : 0 ≤ oi ∧ oi ≤ 2) (hl : xs.length < 8192) (hb : BitsTo xs xs.length) (hlast : ¬ (last = 0 ∨ last = 1)) (w : World) (h : Rd w A n c (icells xs)) :
    Calls Try.prog 6 #[.int .i64 oi, .slice A n c, .int .i64 last] w fun e w' => e = .returned (.bool true) ∧ Below w.heap.size w w' := by
  have hn := h.len
  simp only [icells, List.length_map] at hn
  subst hn
  have hcap := Reads.cap h
  have hcm := Reads.capMax h
  unfold maxLen at hcm
  have HPF := Lib.hid (fun (W : World) (hW : Rd W A xs.length c (icells xs)) => pfault_any hW oi 0 0 (.inr (.inr (.inr ⟨ho, hl, hb, rfl, rfl⟩))))
  obtain ⟨ord, rfl⟩ := Int.eq_ofNat_of_zero_le ho.1
  have hord : ord ≤ 2 := by have := ho.2; omega
  have HYS := Lib.hid (show (∀ j, j < xs.length → ysat xs.length xs last j = 0 ∨ ysat xs.length xs last j = 1) ∧ ¬ (ysat xs.length xs last xs.length = 0 ∨ ysat xs.length xs last xs.length = 1) from ⟨fun j hj => by unfold ysat; rw [if_pos (by omega)]; exact hb j hj, by unfold ysat; rw [if_neg (by omega)]; exact hlast⟩)
  have k1 : (last != 0) = true := by rw [bne_iff_ne]; omega
  have k2 : (last != 1) = true := by rw [bne_iff_ne]; omega
  have HB := Lib.hid hb
  have HPR := Lib.hid (fun (W : World) (hW : Rd W A xs.length c (icells xs)) => predict_ok hW ord ho hl hb)
  have HL := Lib.hid hl
  clear ho hb hlast
  have C_0 := (((h).alloc (.cells #[.slice A xs.length c] 22)).alloc (.cells #[.int .i64 last] 3)).alloc (.cells #[.slice none 0 0] 22)
  have H_0 := (((One.new w 22 (.slice A xs.length c))).alloc (.cells #[.int .i64 last] 3)).alloc (.cells #[.slice none 0 0] 22)
  have B_0 := ((One.new1 w (.cells #[.slice A xs.length c] 22) 3 (.int .i64 last))).alloc (.cells #[.slice none 0 0] 22)
  have O_0 := (One.new2 w (.cells #[.slice A xs.length c] 22) (.cells #[.int .i64 last] 3) 22 (.slice none 0 0))
  have Z0 := (((Below.refl w.heap.size w).alloc (by simp) (.cells #[.slice A xs.length c] 22)).alloc (by simp) (.cells #[.int .i64 last] 3)).alloc (by simp; omega) (.cells #[.slice none 0 0] 22)
  have H_0_c0 := H_0.c0
  have B_0_c0 := B_0.c0
  have O_0_c0 := O_0.c0
  have HCOL := Lib.hid (show Col w.heap.size (w.heap.size + 2) w.heap.size (w.heap.size + 1) w A xs.length c xs true last [] ((((w).alloc (.cells #[.slice A xs.length c] 22)).alloc (.cells #[.int .i64 last] 3)).alloc (.cells #[.slice none 0 0] 22)) from ⟨⟨none, 0, O_0, World.ownsRow_nil _ _ _ _⟩, H_0, (fun _ => ⟨B_0, by omega, by omega⟩), Reads.below h Z0, Z0, by omega, Nat.le_refl _, by omega⟩)
  go_enter Try.func6, Try.ntmps6
  go_wp2_with fail
  refine (wl_bad HCOL.out (by have := HL.out; omega) hord xs.length (Nat.le_refl _) HYS.out.1 HYS.out.2 (ord : Nat) ((xs.length : Int) + 1) rfl (by push_cast; rfl)).mono ?_
  clear C_0 H_0 H_0_c0 B_0 B_0_c0 O_0 O_0_c0
  rintro e w1 ⟨Ao, co, rfl, l, h01, hpre, hll, t1, t2, t3, t4, t5, t6⟩
  obtain rfl := okpre_full rfl hpre hll
  clear h01 hpre hll
  have C_1 : Rd w1 A xs.length c (icells xs) := Reads.more t6 t5.size
  clear t6
  have H_2 := t3.alloc (.cells #[.int .i64 6, .int .i64 (xs.length : Nat)] 24)
  have B_2 := t4.alloc (.cells #[.int .i64 6, .int .i64 (xs.length : Nat)] 24)
  have O_2 := t1.alloc (.cells #[.int .i64 6, .int .i64 (xs.length : Nat)] 24)
  have Y_2 := own_on t2 ((Below.refl _ _).alloc (Nat.le_refl _) (.cells #[.int .i64 6, .int .i64 (xs.length : Nat)] 24))
  have C_2 := C_1.alloc (.cells #[.int .i64 6, .int .i64 (xs.length : Nat)] 24)
  have F_2 := Two.new w1 24 (.int .i64 6) (.int .i64 (xs.length : Nat))
  have Z2 := t5.alloc t5.size (.cells #[.int .i64 6, .int .i64 (xs.length : Nat)] 24)
  clear t1 t2 t3 t4 t5 C_1
  have H_2_c0 := H_2.c0
  have B_2_c0 := B_2.c0
  have O_2_c0 := O_2.c0
  have F_2_c0 := F_2.c0
  have F_2_c1 := F_2.c1
  go_wp2_with fail
  refine (HPF.out _ C_2).mono ?_
  rintro e w3 ⟨rfl, y3⟩
  have H_3 := (H_2.on y3).alloc (.cells #[.int .i64 0, .int .i64 0] 24)
  have B_3 := (B_2.on y3).alloc (.cells #[.int .i64 0, .int .i64 0] 24)
  have O_3 := (O_2.on y3).alloc (.cells #[.int .i64 0, .int .i64 0] 24)
  have Y_3 := (own_on Y_2 y3).alloc (.cells #[.int .i64 0, .int .i64 0] 24)
  have C_3 := (C_2.on y3).alloc (.cells #[.int .i64 0, .int .i64 0] 24)
  have F_3 := (F_2.on y3).alloc (.cells #[.int .i64 0, .int .i64 0] 24)
  have H_b := H_2.on y3
  have B_b := B_2.on y3
  have O_b := O_2.on y3
  have Y_b := own_on Y_2 y3
  have C_b := C_2.on y3
  have F_b := F_2.on y3
  have G_3 := (Two.new w3 24 (.int .i64 0) (.int .i64 0))
  clear H_2 H_2_c0 B_2 B_2_c0 O_2 O_2_c0 Y_2 C_2 F_2 F_2_c0 F_2_c1
  have z3 := Z2.trans (y3.mono Z2.size)
  have Z3 := (z3).alloc (by have := z3.size; omega) (.cells #[.int .i64 0, .int .i64 0] 24)
  have CG_3 := (Below.refl w3.heap.size w3).alloc (by simp) (.cells #[.int .i64 0, .int .i64 0] 24)
  have H_3_c0 := H_3.c0
  have B_3_c0 := B_3.c0
  have O_3_c0 := O_3.c0
  have F_3_c0 := F_3.c0
  have F_3_c1 := F_3.c1
  have G_3_c0 := G_3.c0
  have G_3_c1 := G_3.c1
  have G_3_f0 := G_3.f0
  have G_3_f1 := G_3.f1
  go_wp2_with fail
  refine (predicts_true _).mono ?_
  rintro e w4 ⟨rfl, y4⟩
  have H_4 := H_3.on y4
  have B_4 := B_3.on y4
  have O_4 := O_3.on y4
  have Y_4 := own_on Y_3 y4
  have C_4 := C_3.on y4
  have F_4 := F_3.on y4
  have G_4 := G_3.on y4
  clear H_3 H_3_c0 B_3 B_3_c0 O_3 O_3_c0 Y_3 C_3 F_3 F_3_c0 F_3_c1 G_3 G_3_c0 G_3_c1 G_3_f0 G_3_f1
  have z4 := Z3.trans (y4.mono Z3.size)
  have Z4 := z4
  have cG4 := CG_3.trans (y4.mono CG_3.size)
  have CG_4 := cG4
  have H_4_c0 := H_4.c0
  have B_4_c0 := B_4.c0
  have O_4_c0 := O_4.c0
  have F_4_c0 := F_4.c0
  have F_4_c1 := F_4.c1
  have G_4_c0 := G_4.c0
  have G_4_c1 := G_4.c1
  have G_4_f0 := G_4.f0
  have G_4_f1 := G_4.f1
  go_wp2_with fail
  refine (HPR.out _ C_4).mono ?_
  rintro e w5 ⟨A5, c5, rfl, o5, y5⟩
  have H_5 := (H_4.on y5).alloc (.cells #[.int .i64 0, .int .i64 0] 24)
  have B_5 := (B_4.on y5).alloc (.cells #[.int .i64 0, .int .i64 0] 24)
  have O_5 := (O_4.on y5).alloc (.cells #[.int .i64 0, .int .i64 0] 24)
  have Y_5 := (own_on Y_4 y5).alloc (.cells #[.int .i64 0, .int .i64 0] 24)
  have C_5 := (C_4.on y5).alloc (.cells #[.int .i64 0, .int .i64 0] 24)
  have F_5 := (F_4.on y5).alloc (.cells #[.int .i64 0, .int .i64 0] 24)
  have G_5 := (G_4.on y5).alloc (.cells #[.int .i64 0, .int .i64 0] 24)
  have P_5 := (o5).alloc (.cells #[.int .i64 0, .int .i64 0] 24)
  have Q_5 := (Two.new w5 24 (.int .i64 0) (.int .i64 0))
  clear H_4 H_4_c0 B_4 B_4_c0 O_4 O_4_c0 Y_4 C_4 F_4 F_4_c0 F_4_c1 G_4 G_4_c0 G_4_c1 G_4_f0 G_4_f1
  have z5 := Z4.trans (y5.mono Z4.size)
  have Z5 := (z5).alloc (by have := z5.size; omega) (.cells #[.int .i64 0, .int .i64 0] 24)
  have cG5 := CG_4.trans (y5.mono CG_4.size)
  have CG_5 := (cG5).alloc (by have := cG5.size; omega) (.cells #[.int .i64 0, .int .i64 0] 24)
  have H_5_c0 := H_5.c0
  have B_5_c0 := B_5.c0
  have O_5_c0 := O_5.c0
  have F_5_c0 := F_5.c0
  have F_5_c1 := F_5.c1
  have G_5_c0 := G_5.c0
  have G_5_c1 := G_5.c1
  have G_5_f0 := G_5.f0
  have G_5_f1 := G_5.f1
  have Q_5_c0 := Q_5.c0
  have Q_5_c1 := Q_5.c1
  go_wp2_with fail
  refine (refat_any _ _ _).mono ?_
  rintro e w6 ⟨rfl, y6⟩
  have H_6 := H_5.on y6
  have B_6 := B_5.on y6
  have O_6 := O_5.on y6
  have Y_6 := own_on Y_5 y6
  have C_6 := C_5.on y6
  have F_6 := F_5.on y6
  have G_6 := G_5.on y6
  have P_6 := own_on P_5 y6
  have Q_6 := Q_5.on y6
  clear H_5 H_5_c0 B_5 B_5_c0 O_5 O_5_c0 Y_5 C_5 F_5 F_5_c0 F_5_c1 G_5 G_5_c0 G_5_c1 G_5_f0 G_5_f1 P_5 Q_5 Q_5_c0 Q_5_c1
  have z6 := Z5.trans (y6.mono Z5.size)
  have Z6 := z6
  have cG6 := CG_5.trans (y6.mono CG_5.size)
  have CG_6 := cG6
  have H_6_c0 := H_6.c0
  have B_6_c0 := B_6.c0
  have O_6_c0 := O_6.c0
  have F_6_c0 := F_6.c0
  have F_6_c1 := F_6.c1
  have G_6_c0 := G_6.c0
  have G_6_c1 := G_6.c1
  have G_6_f0 := G_6.f0
  have G_6_f1 := G_6.f1
  have Q_6_c0 := Q_6.c0
  have Q_6_c1 := Q_6.c1
  have CG_7 := (CG_6.setCell (p := ⟨w3.heap.size, 0, none⟩) (by simp) (.int .i64 6)).setCell (p := ⟨w3.heap.size, 1, none⟩) (by simp) (.int .i64 (xs.length : Nat))
  have Z7 := (Z6.setCell (p := ⟨w3.heap.size, 0, none⟩) (by have := z3.size; simp; omega) (.int .i64 6)).setCell (p := ⟨w3.heap.size, 1, none⟩) (by have := z3.size; simp; omega) (.int .i64 (xs.length : Nat))
  have H_7 := H_b.on CG_7
  have B_7 := B_b.on CG_7
  have O_7 := O_b.on CG_7
  have Y_7 := own_on Y_b CG_7
  have C_7 := C_b.on CG_7
  have F_7 := F_b.on CG_7
  have G_7 := (G_6.set0 (.int .i64 6)).set1 (.int .i64 (xs.length : Nat))
  have P_7 := own_far_any (own_far_any P_6 (p := ⟨w3.heap.size, 0, none⟩) (own_two_ne P_6 G_6 (by decide)) (.int .i64 6)) (p := ⟨w3.heap.size, 1, none⟩) (own_two_ne P_6 G_6 (by decide)) (.int .i64 (xs.length : Nat))
  have Q_7 := (Q_6.far (p := ⟨w3.heap.size, 0, none⟩) (by first | (simp; done) | (have := y4.size; have := y5.size; have := y6.size; (try simp at *); omega)) (.int .i64 6)).far (p := ⟨w3.heap.size, 1, none⟩) (by first | (simp; done) | (have := y4.size; have := y5.size; have := y6.size; (try simp at *); omega)) (.int .i64 (xs.length : Nat))
  have H_7_c0 := H_7.c0
  have B_7_c0 := B_7.c0
  have O_7_c0 := O_7.c0
  have F_7_c0 := F_7.c0
  have F_7_c1 := F_7.c1
  have G_7_c0 := G_7.c0
  have G_7_c1 := G_7.c1
  have G_7_f0 := G_7.f0
  have G_7_f1 := G_7.f1
  have Q_7_c0 := Q_7.c0
  have Q_7_c1 := Q_7.c1
  have HIP := Lib.hid (Rd.toI (Rd.own P_7))
  have HIY := Lib.hid (Rd.toI (Rd.own Y_7))
  go_wp2_with fail
  refine (ints_any HIY.out HIP.out true (by simp)).mono ?_
  rintro e w9 ⟨rfl, y9⟩
  go_wp2
  go_ret
  exact ⟨rfl, Z7.trans (y9.mono Z7.size)⟩
set_option maxRecDepth 100000 in
set_option maxHeartbeats 1600000 in
theorem mw_ok {A : Option Addr} {n c : Nat} {xs : List Int} {oi last : Int} (ho : 0 ≤ oi ∧ oi ≤ 2) (hl : xs.length < 8192) (hb : BitsTo xs xs.length) (hlast : last = 0 ∨ last = 1) (w : World) (h : Rd w A n c (icells xs)) :
    Calls Try.prog 6 #[.int .i64 oi, .slice A n c, .int .i64 last] w fun e w' => e = .returned (.bool true) ∧ Below w.heap.size w w' := by
  have hn := h.len
  simp only [icells, List.length_map] at hn
  subst hn
  have hcap := Reads.cap h
  have hcm := Reads.capMax h
  unfold maxLen at hcm
  have HPF := Lib.hid (fun (W : World) (hW : Rd W A xs.length c (icells xs)) => pfault_any hW oi 0 0 (.inr (.inr (.inr ⟨ho, hl, hb, rfl, rfl⟩))))
  obtain ⟨ord, rfl⟩ := Int.eq_ofNat_of_zero_le ho.1
  have hord : ord ≤ 2 := by have := ho.2; omega
  have HLA := Lib.hid hlast
  have HB := Lib.hid hb
  have HPR := Lib.hid (fun (W : World) (hW : Rd W A xs.length c (icells xs)) => predict_ok hW ord ho hl hb)
  have HL := Lib.hid hl
  clear ho hb hlast
  have C_0 := (((h).alloc (.cells #[.slice A xs.length c] 22)).alloc (.cells #[.int .i64 last] 3)).alloc (.cells #[.slice none 0 0] 22)
  have H_0 := (((One.new w 22 (.slice A xs.length c))).alloc (.cells #[.int .i64 last] 3)).alloc (.cells #[.slice none 0 0] 22)
  have B_0 := ((One.new1 w (.cells #[.slice A xs.length c] 22) 3 (.int .i64 last))).alloc (.cells #[.slice none 0 0] 22)
  have O_0 := (One.new2 w (.cells #[.slice A xs.length c] 22) (.cells #[.int .i64 last] 3) 22 (.slice none 0 0))
  have Z0 := (((Below.refl w.heap.size w).alloc (by simp) (.cells #[.slice A xs.length c] 22)).alloc (by simp) (.cells #[.int .i64 last] 3)).alloc (by simp; omega) (.cells #[.slice none 0 0] 22)
  have H_0_c0 := H_0.c0
  have B_0_c0 := B_0.c0
  have O_0_c0 := O_0.c0
  have HCOL := Lib.hid (show Col w.heap.size (w.heap.size + 2) w.heap.size (w.heap.size + 1) w A xs.length c xs true last [] ((((w).alloc (.cells #[.slice A xs.length c] 22)).alloc (.cells #[.int .i64 last] 3)).alloc (.cells #[.slice none 0 0] 22)) from ⟨⟨none, 0, O_0, World.ownsRow_nil _ _ _ _⟩, H_0, (fun _ => ⟨B_0, by omega, by omega⟩), Reads.below h Z0, Z0, by omega, Nat.le_refl _, by omega⟩)
  go_enter Try.func6, Try.ntmps6
  go_wp2_with fail
  refine (wl_ok HCOL.out rfl (by have := HL.out; omega) hord HB.out HLA.out (ord : Nat) ((xs.length : Int) + 1) rfl (by push_cast; rfl)).mono ?_
  clear C_0 H_0 H_0_c0 B_0 B_0_c0 O_0 O_0_c0
  rintro e w1 ⟨Ao, co, rfl, t1, t2, t3, t4, t5, t6⟩
  have C_1 : Rd w1 A xs.length c (icells xs) := Reads.more t6 t5.size
  clear t6
  have H_2 := t3.alloc (.cells #[.int .i64 0, .int .i64 0] 24)
  have B_2 := t4.alloc (.cells #[.int .i64 0, .int .i64 0] 24)
  have O_2 := t1.alloc (.cells #[.int .i64 0, .int .i64 0] 24)
  have Y_2 := own_on t2 ((Below.refl _ _).alloc (Nat.le_refl _) (.cells #[.int .i64 0, .int .i64 0] 24))
  have C_2 := C_1.alloc (.cells #[.int .i64 0, .int .i64 0] 24)
  have F_2 := Two.new w1 24 (.int .i64 0) (.int .i64 0)
  have Z2 := t5.alloc t5.size (.cells #[.int .i64 0, .int .i64 0] 24)
  clear t1 t2 t3 t4 t5 C_1
  have H_2_c0 := H_2.c0
  have B_2_c0 := B_2.c0
  have O_2_c0 := O_2.c0
  have F_2_c0 := F_2.c0
  have F_2_c1 := F_2.c1
  go_wp2_with fail
  refine (HPF.out _ C_2).mono ?_
  rintro e w3 ⟨rfl, y3⟩
  have H_3 := (H_2.on y3).alloc (.cells #[.int .i64 0, .int .i64 0] 24)
  have B_3 := (B_2.on y3).alloc (.cells #[.int .i64 0, .int .i64 0] 24)
  have O_3 := (O_2.on y3).alloc (.cells #[.int .i64 0, .int .i64 0] 24)
  have Y_3 := (own_on Y_2 y3).alloc (.cells #[.int .i64 0, .int .i64 0] 24)
  have C_3 := (C_2.on y3).alloc (.cells #[.int .i64 0, .int .i64 0] 24)
  have F_3 := (F_2.on y3).alloc (.cells #[.int .i64 0, .int .i64 0] 24)
  have G_3 := (Two.new w3 24 (.int .i64 0) (.int .i64 0))
  clear H_2 H_2_c0 B_2 B_2_c0 O_2 O_2_c0 Y_2 C_2 F_2 F_2_c0 F_2_c1
  have z3 := Z2.trans (y3.mono Z2.size)
  have Z3 := (z3).alloc (by have := z3.size; omega) (.cells #[.int .i64 0, .int .i64 0] 24)
  have H_3_c0 := H_3.c0
  have B_3_c0 := B_3.c0
  have O_3_c0 := O_3.c0
  have F_3_c0 := F_3.c0
  have F_3_c1 := F_3.c1
  have G_3_c0 := G_3.c0
  have G_3_c1 := G_3.c1
  have G_3_f0 := G_3.f0
  have G_3_f1 := G_3.f1
  go_wp2_with fail
  refine (predicts_true _).mono ?_
  rintro e w4 ⟨rfl, y4⟩
  have H_4 := H_3.on y4
  have B_4 := B_3.on y4
  have O_4 := O_3.on y4
  have Y_4 := own_on Y_3 y4
  have C_4 := C_3.on y4
  have F_4 := F_3.on y4
  have G_4 := G_3.on y4
  clear H_3 H_3_c0 B_3 B_3_c0 O_3 O_3_c0 Y_3 C_3 F_3 F_3_c0 F_3_c1 G_3 G_3_c0 G_3_c1 G_3_f0 G_3_f1
  have z4 := Z3.trans (y4.mono Z3.size)
  have Z4 := z4
  have H_4_c0 := H_4.c0
  have B_4_c0 := B_4.c0
  have O_4_c0 := O_4.c0
  have F_4_c0 := F_4.c0
  have F_4_c1 := F_4.c1
  have G_4_c0 := G_4.c0
  have G_4_c1 := G_4.c1
  have G_4_f0 := G_4.f0
  have G_4_f1 := G_4.f1
  go_wp2_with fail
  refine (HPR.out _ C_4).mono ?_
  rintro e w5 ⟨A5, c5, rfl, o5, y5⟩
  have H_5 := (H_4.on y5).alloc (.cells #[.int .i64 0, .int .i64 0] 24)
  have B_5 := (B_4.on y5).alloc (.cells #[.int .i64 0, .int .i64 0] 24)
  have O_5 := (O_4.on y5).alloc (.cells #[.int .i64 0, .int .i64 0] 24)
  have Y_5 := (own_on Y_4 y5).alloc (.cells #[.int .i64 0, .int .i64 0] 24)
  have C_5 := (C_4.on y5).alloc (.cells #[.int .i64 0, .int .i64 0] 24)
  have F_5 := (F_4.on y5).alloc (.cells #[.int .i64 0, .int .i64 0] 24)
  have G_5 := (G_4.on y5).alloc (.cells #[.int .i64 0, .int .i64 0] 24)
  have P_5 := (o5).alloc (.cells #[.int .i64 0, .int .i64 0] 24)
  have Q_5 := (Two.new w5 24 (.int .i64 0) (.int .i64 0))
  clear H_4 H_4_c0 B_4 B_4_c0 O_4 O_4_c0 Y_4 C_4 F_4 F_4_c0 F_4_c1 G_4 G_4_c0 G_4_c1 G_4_f0 G_4_f1
  have z5 := Z4.trans (y5.mono Z4.size)
  have Z5 := (z5).alloc (by have := z5.size; omega) (.cells #[.int .i64 0, .int .i64 0] 24)
  have H_5_c0 := H_5.c0
  have B_5_c0 := B_5.c0
  have O_5_c0 := O_5.c0
  have F_5_c0 := F_5.c0
  have F_5_c1 := F_5.c1
  have G_5_c0 := G_5.c0
  have G_5_c1 := G_5.c1
  have G_5_f0 := G_5.f0
  have G_5_f1 := G_5.f1
  have Q_5_c0 := Q_5.c0
  have Q_5_c1 := Q_5.c1
  rcases HLA.out with rfl | rfl
  all_goals
    have HIP := Lib.hid (Rd.toI (Rd.own P_5))
    have HIY := Lib.hid (Rd.toI (Rd.own Y_5))
    go_wp2_with fail
    refine (ints_any HIY.out HIP.out true (by simp)).mono ?_
    rintro e w9 ⟨rfl, y9⟩
    go_wp2
    go_ret
    exact ⟨rfl, Z5.trans (y9.mono Z5.size)⟩
theorem mw_all {A : Option Addr} {n c : Nat} {xs : List Int} {oi last : Int} (w : World) (h : Rd w A n c (icells xs)) : Calls Try.prog 6 #[.int .i64 oi, .slice A n c, .int .i64 last] w fun e w' => e = .returned (.bool true) ∧ Below w.heap.size w w' := by
  by_cases ho : 0 ≤ oi ∧ oi ≤ 2
  · by_cases hl : xs.length < 8192
    · rcases bits_ex xs with hb | ⟨q, hq, hb, hbad⟩
      · by_cases hlast : last = 0 ∨ last = 1
        · exact mw_ok ho hl hb hlast w h
        · exact mw_last ho hl hb hlast w h
      · exact mw_bad ho hl q hq hb hbad w h
    · exact mw_long ho (by omega) w h
  · exact mw_range ho w h
end PB
end Go.Proofs.Ytmkkbedbgkhbpaa
