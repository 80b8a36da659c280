/-
  arith.Encode: the code of choices, with all faults.
-/
import Derived.Test.YtnnpkajmheglgaaArRCode
import Derived.Test.YtnnpkajmheglgaaArBld
namespace Go.Proofs.Ytnnpkajmheglgaa
open Go.RowKit
attribute [local go_sem ↓] Go.wp_at_zero Go.wp_at_succ
set_option linter.unusedVariables false
set_option linter.unusedSimpArgs false
namespace PB
theorem share2 {T p : Prop} (h : T → p) (t : T) : p := h t
theorem Oth.three {w w' : World} {b s : Nat} {v0 v1 v2 : Value} (h : Oth b w w') (hs : Three w s 50 v0 v1 v2) (hb : s ≠ b) : Three w' s 50 v0 v1 v2 := Oth.blk h hs (by decide) hb
/-- What the walk of Encode holds: the results' blocks (s, s + 1) below the coder's (C), which is below the builder's. -/
def EnW (w wr : World) (s C : Nat) (l u : Int) (q : Nat) (S : List Nat) : Prop :=
  Two wr s 25 (.slice none 0 0) (.int .i64 0) ∧ Two wr (s + 1) 27 (.int .i64 0) (.int .i64 0) ∧ Three wr C 50 (.int .i64 l) (.int .i64 u) (.int .i64 (q : Nat)) ∧ Bld wr (C + 1) S ∧ Below s w wr ∧ s + 1 < C
theorem EnW.on {w wr w' : World} {s C : Nat} {l u : Int} {q : Nat} {S : List Nat} (h : EnW w wr s C l u q S) (y : Below wr.heap.size wr w') : EnW w w' s C l u q S := by
  obtain ⟨h1, h2, h3, h4, h5, h6⟩ := h
  exact ⟨h1.on y, h2.on y, h3.on y, h4.on y, h5.trans (y.mono (by have := h1.lt; omega)), h6⟩
theorem EnW.drew {w wr : World} {s C : Nat} {l u : Int} {q : Nat} {S : List Nat} (h : EnW w wr s C l u q S) : EnW w wr.drew s C l u q S := by
  obtain ⟨h1, h2, h3, h4, h5, h6⟩ := h
  exact ⟨h1.drew, h2.drew, h3.drew, h4.drew, belowD h5, h6⟩
theorem EnW.alloc {w wr : World} {s C : Nat} {l u : Int} {q : Nat} {S : List Nat} (h : EnW w wr s C l u q S) (o : Obj) : EnW w (wr.alloc o) s C l u q S := h.on ((Below.refl _ _).alloc (Nat.le_refl _) o)
theorem EnW.wrote {w wr w' : World} {s C : Nat} {l u : Int} {q : Nat} {S S' : List Nat} (h : EnW w wr s C l u q S) (hb : Bld w' (C + 1) S') (y : Below (C + 1) wr w') : EnW w w' s C l u q S' := by
  obtain ⟨h1, h2, h3, h4, h5, h6⟩ := h
  exact ⟨h1.below y (by omega), h2.below y (by omega), h3.below y (by omega), hb, h5.trans (y.mono (by omega)), h6⟩
theorem EnW.set {w wr : World} {s C : Nat} {l u : Int} {q : Nat} {S : List Nat} (h : EnW w wr s C l u q S) (l' u' : Int) (q' : Nat) : EnW w (((wr.setCell ⟨C, 0, none⟩ (.int .i64 l')).setCell ⟨C, 1, none⟩ (.int .i64 u')).setCell ⟨C, 2, none⟩ (.int .i64 (q' : Nat))) s C l' u' q' S := by
  obtain ⟨h1, h2, h3, h4, h5, h6⟩ := h
  have a1 := h3.set0 (.int .i64 l')
  have a2 := a1.set1 (.int .i64 u')
  exact ⟨((h1.far (p := ⟨C, 0, none⟩) (by show s ≠ C; omega) _).far (p := ⟨C, 1, none⟩) (by show s ≠ C; omega) _).far (p := ⟨C, 2, none⟩) (by show s ≠ C; omega) _,
    ((h2.far (p := ⟨C, 0, none⟩) (by show s + 1 ≠ C; omega) _).far (p := ⟨C, 1, none⟩) (by show s + 1 ≠ C; omega) _).far (p := ⟨C, 2, none⟩) (by show s + 1 ≠ C; omega) _,
    a2.set2 _, ((h4.far h3 (by decide) (by omega) 0 _).far a1 (by decide) (by omega) 1 _).far a2 (by decide) (by omega) 2 _,
    ((h5.setCell (p := ⟨C, 0, none⟩) (by show s ≤ C; omega) _).setCell (p := ⟨C, 1, none⟩) (by show s ≤ C; omega) _).setCell (p := ⟨C, 2, none⟩) (by show s ≤ C; omega) _, h6⟩
theorem Three.wr {w : World} {s : Nat} {t : TypeId} {v0 v1 v2 : Value} (h : Three w s t v0 v1 v2) (a b c : Value) : Three (((w.setCell ⟨s, 0, none⟩ a).setCell ⟨s, 1, none⟩ b).setCell ⟨s, 2, none⟩ c) s t a b c := ((h.set0 a).set1 b).set2 c
theorem EnW.farN {w wr : World} {s C N : Nat} {l u : Int} {q : Nat} {S : List Nat} {v0 v1 v2 : Value} (h : EnW w wr s C l u q S) (hN : Three wr N 50 v0 v1 v2) (hg : C + 1 < N) (a b c : Value) : EnW w (((wr.setCell ⟨N, 0, none⟩ a).setCell ⟨N, 1, none⟩ b).setCell ⟨N, 2, none⟩ c) s C l u q S := by
  obtain ⟨h1, h2, h3, h4, h5, h6⟩ := h
  have a1 := hN.set0 a
  have a2 := a1.set1 b
  exact ⟨((h1.far (p := ⟨N, 0, none⟩) (by show s ≠ N; omega) _).far (p := ⟨N, 1, none⟩) (by show s ≠ N; omega) _).far (p := ⟨N, 2, none⟩) (by show s ≠ N; omega) _,
    ((h2.far (p := ⟨N, 0, none⟩) (by show s + 1 ≠ N; omega) _).far (p := ⟨N, 1, none⟩) (by show s + 1 ≠ N; omega) _).far (p := ⟨N, 2, none⟩) (by show s + 1 ≠ N; omega) _,
    ((h3.far (p := ⟨N, 0, none⟩) (by show C ≠ N; omega) _).far (p := ⟨N, 1, none⟩) (by show C ≠ N; omega) _).far (p := ⟨N, 2, none⟩) (by show C ≠ N; omega) _,
    ((h4.far hN (by decide) (by omega) 0 _).far a1 (by decide) (by omega) 1 _).far a2 (by decide) (by omega) 2 _,
    ((h5.setCell (p := ⟨N, 0, none⟩) (by show s ≤ N; omega) _).setCell (p := ⟨N, 1, none⟩) (by show s ≤ N; omega) _).setCell (p := ⟨N, 2, none⟩) (by show s ≤ N; omega) _, h6⟩
theorem EnW.cells {w wr : World} {s C : Nat} {l u : Int} {q : Nat} {S : List Nat} (h : EnW w wr s C l u q S) : wr.cell? ⟨C, 0, none⟩ = some (.int .i64 l) ∧ wr.cell? ⟨C, 1, none⟩ = some (.int .i64 u) ∧ wr.cell? ⟨C, 2, none⟩ = some (.int .i64 (q : Nat)) := ⟨h.2.2.1.c0, h.2.2.1.c1, h.2.2.1.c2⟩
theorem EnW.bel {w wr : World} {s C : Nat} {l u : Int} {q : Nat} {S : List Nat} (h : EnW w wr s C l u q S) : Below s w wr := h.2.2.2.2.1
theorem EnW.lt {w wr : World} {s C : Nat} {l u : Int} {q : Nat} {S : List Nat} (h : EnW w wr s C l u q S) : C + 1 < wr.heap.size := h.2.2.2.1.lt
theorem RdC.held {w wr : World} {A : Option Addr} {n c g off k : Nat} {xs : List Cho} {x : Cho} (h : RdC w A n c xs) (y : Below w.heap.size w wr) (hA : A = some ⟨g, off, none⟩) (hx : xs[k]? = some x) : wr.cell? ⟨g, off + k * 2, none⟩ = some (.int .i64 x.b) ∧ wr.cell? ⟨g, off + k * 2 + 1, none⟩ = some (.int .i64 x.p) := by
  subst hA
  exact ((h.on y).cells hx).2
set_option maxRecDepth 100000 in
set_option maxHeartbeats 600000 in
theorem arencode_long {A : Option Addr} {n c : Nat} {cs : List Cho} {w : World} (h : RdC w A n c cs) (hl : 8192 < cs.length) :
    Calls Try.prog 11 #[.slice A n c] w fun e w' => e = .returned (.tuple #[.agg #[.slice none 0 0, .int .i64 0], .agg #[.int .i64 2, .int .i64 (-1)]]) ∧ Below w.heap.size w w' := by
  have hn := h.len
  have hcap := h.2.1
  have hcm := h.2.2.1
  unfold maxLen at hcm
  have k0 : decide ((8192 : Int) < (n : Int)) = true := by simp; omega
  clear hn hl
  have X0 := (Two.new w 25 (.slice none 0 0) (.int .i64 0)).alloc (.cells #[.int .i64 0, .int .i64 0] 27)
  have F0 := Two.new1 w (.cells #[.slice none 0 0, .int .i64 0] 25) 27 (.int .i64 0) (.int .i64 0)
  have y0 : Below w.heap.size w ((w.alloc (.cells #[.slice none 0 0, .int .i64 0] 25)).alloc (.cells #[.int .i64 0, .int .i64 0] 27)) := ((Below.refl _ _).alloc (Nat.le_refl _) _).alloc (by simp) _
  clear h
  go_enter Try.func11, Try.ntmps11
  go_wp2_with fail
  refine (arfault_any _ _ _).mono ?_
  rintro e w5 ⟨rfl, y5⟩
  have X5 := X0.on y5
  have F5 := F0.on y5
  have Y5 := y0.trans (y5.mono y0.size)
  have b0 := X5.c0
  have b1 := X5.c1
  have b2 := X5.f0
  have b3 := X5.f1
  have f0 := F5.c0
  have f1 := F5.c1
  have f2 := F5.f0
  have f3 := F5.f1
  go_wp2
  have rX := (((X5.set0 (.slice none 0 0)).set1 (.int .i64 0)).far (p := ⟨w.heap.size + 1, 0, none⟩) (by simp) (.int .i64 2)).far (p := ⟨w.heap.size + 1, 1, none⟩) (by simp) (.int .i64 (-1))
  have rF := (((F5.far (p := ⟨w.heap.size, 0, none⟩) (by simp) (.slice none 0 0)).far (p := ⟨w.heap.size, 1, none⟩) (by simp) (.int .i64 0)).set0 (.int .i64 2)).set1 (.int .i64 (-1))
  have r0 := rX.c0
  have r1 := rX.c1
  have r2 := rF.c0
  have r3 := rF.c1
  exact bodyPost_ret (v := .tuple #[.agg #[.slice none 0 0, .int .i64 0], .agg #[.int .i64 2, .int .i64 (-1)]]) (by simp [results, Try.results11, go_sem, r0, r1, r2, r3]) rfl ⟨rfl, (((Y5.setCell (p := ⟨w.heap.size, 0, none⟩) (by simp) _).setCell (p := ⟨w.heap.size, 1, none⟩) (by simp) _).setCell (p := ⟨w.heap.size + 1, 0, none⟩) (by simp) _).setCell (p := ⟨w.heap.size + 1, 1, none⟩) (by simp) _⟩
set_option maxRecDepth 100000 in
set_option maxHeartbeats 1600000 in
theorem arencode_bad {A : Option Addr} {n c : Nat} {cs : List Cho} {w : World} (h : RdC w A n c cs) (hl : cs.length ≤ 8192) (q : Nat) (hq : q < cs.length) (hall : ∀ j (hj : j < q), (cs[j]'(by omega)).ok) (hbad : ¬ cs[q].ok) :
    Calls Try.prog 11 #[.slice A n c] w fun e w' => e = .returned (.tuple #[.agg #[.slice none 0 0, .int .i64 0], .agg #[.int .i64 4, .int .i64 (q : Nat)]]) ∧ Below w.heap.size w w' := by
  have hn := h.len
  have hcap := h.2.1
  have hcm := h.2.2.1
  unfold maxLen at hcm
  obtain rfl := hn
  have k0 : decide ((8192 : Int) < (cs.length : Int)) = false := by simp; omega
  have HA := Lib.hid hall
  have HB := Lib.hid hbad
  clear hall hbad
  have X0 := (Two.new w 25 (.slice none 0 0) (.int .i64 0)).alloc (.cells #[.int .i64 0, .int .i64 0] 27)
  have F0 := Two.new1 w (.cells #[.slice none 0 0, .int .i64 0] 25) 27 (.int .i64 0) (.int .i64 0)
  have y0 : Below w.heap.size w ((w.alloc (.cells #[.slice none 0 0, .int .i64 0] 25)).alloc (.cells #[.int .i64 0, .int .i64 0] 27)) := ((Below.refl _ _).alloc (Nat.le_refl _) _).alloc (by simp) _
  have HR := (h.alloc (.cells #[.slice none 0 0, .int .i64 0] 25)).alloc (.cells #[.int .i64 0, .int .i64 0] 27)
  clear h
  go_enter Try.func11, Try.ntmps11
  go_wp2_with fail
  generalize ((w.alloc (.cells #[.slice none 0 0, .int .i64 0] 25)).alloc (.cells #[.int .i64 0, .int .i64 0] 27)) = W at X0 F0 y0 HR ⊢
  go_loopw [4, 5, 18] (fun _ _ i wr => ∃ k : Nat, k ≤ q ∧ i = .int .i64 (k : Nat) ∧ Below W.heap.size W wr) (fun _ _ i _ => cs.length - (intOf i).toNat)
  case atStart => exact ⟨0, Nat.zero_le _, rfl, Below.refl _ _⟩
  case round =>
    obtain ⟨k, hk, rfl, yr⟩ := hrel
    have hlt : k < cs.length := by omega
    have hR := HR.on yr
    obtain ⟨g, off, rfl, hg, q1, q2⟩ := hR.at k hlt
    obtain ⟨x, hx⟩ : ∃ x, x = cs[k] := ⟨_, rfl⟩
    rw [← hx] at q1 q2
    obtain ⟨xb, xp⟩ := x
    dsimp only at q1 q2
    have i1 : (0 : Int) ≤ (k : Int) := by omega
    have i2 : (k : Int) < (cs.length : Int) := by omega
    have yx := yr.alloc yr.size (.cells #[.int .i64 xb, .int .i64 xp] 48)
    have V0 := Two.new wr 48 (.int .i64 xb) (.int .i64 xp)
    have v0 := V0.c0
    have v1 := V0.c1
    by_cases hkq : k < q
    · have hok := HA.out k hkq
      rw [← hx] at hok
      obtain ⟨hbits, hp1, hp2⟩ := cho_split hok
      dsimp only at hbits hp1 hp2
      have HP := Lib.hid (decide_eq_true (⟨hp1, hp2⟩ : 1 ≤ xp ∧ xp ≤ 4095))
      clear hx hok hp1 hp2
      rcases hbits with ⟨e0, -⟩ | ⟨e0, e1⟩
      all_goals
        go_wp2_with fail
        refine (validp_yes _ HP.out _).mono ?_
        rintro e w9 ⟨rfl, rfl⟩
        go_wp2_with fail
        go_roundw
        case rel => exact ⟨k + 1, by omega, by go_num, yx⟩
        case measure => simp [intOf] <;> omega
    · obtain rfl : k = q := by omega
      have hno := HB.out
      rw [← hx] at hno
      clear hx
      have X1 := X0.on yx
      have F1 := F0.on yx
      have Y1 := y0.trans (yx.mono y0.size)
      rcases cho_bad hno with ⟨e0, e1⟩ | ⟨hb, hp⟩
      · dsimp only at e0 e1
        clear hno
        go_wp2_with fail
        refine (arfault_any _ _ _).mono ?_
        rintro e w5 ⟨rfl, y5⟩
        have X5 := X1.on y5
        have F5 := F1.on y5
        have Y5 := Y1.trans (y5.mono Y1.size)
        have b0 := X5.c0
        have b1 := X5.c1
        have b2 := X5.f0
        have b3 := X5.f1
        have f0 := F5.c0
        have f1 := F5.c1
        have f2 := F5.f0
        have f3 := F5.f1
        go_wp2
        have rX := (((X5.set0 (.slice none 0 0)).set1 (.int .i64 0)).far (p := ⟨w.heap.size + 1, 0, none⟩) (by simp) (.int .i64 4)).far (p := ⟨w.heap.size + 1, 1, none⟩) (by simp) (.int .i64 (k : Nat))
        have rF := (((F5.far (p := ⟨w.heap.size, 0, none⟩) (by simp) (.slice none 0 0)).far (p := ⟨w.heap.size, 1, none⟩) (by simp) (.int .i64 0)).set0 (.int .i64 4)).set1 (.int .i64 (k : Nat))
        have r0 := rX.c0
        have r1 := rX.c1
        have r2 := rF.c0
        have r3 := rF.c1
        exact bodyPost_ret (v := .tuple #[.agg #[.slice none 0 0, .int .i64 0], .agg #[.int .i64 4, .int .i64 (k : Nat)]]) (by simp [results, Try.results11, go_sem, r0, r1, r2, r3]) rfl ⟨rfl, (((Y5.setCell (p := ⟨w.heap.size, 0, none⟩) (by simp) _).setCell (p := ⟨w.heap.size, 1, none⟩) (by simp) _).setCell (p := ⟨w.heap.size + 1, 0, none⟩) (by simp) _).setCell (p := ⟨w.heap.size + 1, 1, none⟩) (by simp) _⟩
      · dsimp only at hb hp
        have HP := Lib.hid (decide_eq_false hp)
        clear hno hp
        rcases hb with e0 | ⟨e0, e1⟩
        all_goals
          go_wp2_with fail
          refine (validp_no _ HP.out _).mono ?_
          rintro e w9 ⟨rfl, rfl⟩
          go_wp2_with fail
          refine (arfault_any _ _ _).mono ?_
          rintro e w5 ⟨rfl, y5⟩
          have X5 := X1.on y5
          have F5 := F1.on y5
          have Y5 := Y1.trans (y5.mono Y1.size)
          have b0 := X5.c0
          have b1 := X5.c1
          have b2 := X5.f0
          have b3 := X5.f1
          have f0 := F5.c0
          have f1 := F5.c1
          have f2 := F5.f0
          have f3 := F5.f1
          go_wp2
          have rX := (((X5.set0 (.slice none 0 0)).set1 (.int .i64 0)).far (p := ⟨w.heap.size + 1, 0, none⟩) (by simp) (.int .i64 4)).far (p := ⟨w.heap.size + 1, 1, none⟩) (by simp) (.int .i64 (k : Nat))
          have rF := (((F5.far (p := ⟨w.heap.size, 0, none⟩) (by simp) (.slice none 0 0)).far (p := ⟨w.heap.size, 1, none⟩) (by simp) (.int .i64 0)).set0 (.int .i64 4)).set1 (.int .i64 (k : Nat))
          have r0 := rX.c0
          have r1 := rX.c1
          have r2 := rF.c0
          have r3 := rF.c1
          exact bodyPost_ret (v := .tuple #[.agg #[.slice none 0 0, .int .i64 0], .agg #[.int .i64 4, .int .i64 (k : Nat)]]) (by simp [results, Try.results11, go_sem, r0, r1, r2, r3]) rfl ⟨rfl, (((Y5.setCell (p := ⟨w.heap.size, 0, none⟩) (by simp) _).setCell (p := ⟨w.heap.size, 1, none⟩) (by simp) _).setCell (p := ⟨w.heap.size + 1, 0, none⟩) (by simp) _).setCell (p := ⟨w.heap.size + 1, 1, none⟩) (by simp) _⟩
set_option maxRecDepth 100000 in
set_option maxHeartbeats 6400000 in
theorem arencode_ok {A : Option Addr} {n c : Nat} {cs : List Cho} {w : World} (h : RdC w A n c cs) (hl : cs.length ≤ 8192) (hall : AllCho cs) :
    Calls Try.prog 11 #[.slice A n c] w fun e w' => ∃ A' n' c', e = .returned (.tuple #[.agg #[.slice A' n' c', .int .i64 (acode cs).length], .agg #[.int .i64 0, .int .i64 0]]) ∧ Rd w' A' n' c' (bcells (pack (acode cs))) ∧ Below w.heap.size w w' := by
  have hn := h.len
  have hcap := h.2.1
  have hcm := h.2.2.1
  unfold maxLen at hcm
  obtain rfl := hn
  have k0 : decide ((8192 : Int) < (cs.length : Int)) = false := by simp; omega
  have HA := Lib.hid hall
  have HTL := Lib.hid (fun k => erun_facts (cs.take k) (hall.take k) 0 65535 wid0)
  have HW := h
  have HMK := Lib.hid (fun (W : World) => make_bt (acode cs) (acode_01 hall) (Nat.le_trans (acode_le hall hl) (by decide)) W)
  clear hall
  have X0 := (Two.new w 25 (.slice none 0 0) (.int .i64 0)).alloc (.cells #[.int .i64 0, .int .i64 0] 27)
  have F0 := Two.new1 w (.cells #[.slice none 0 0, .int .i64 0] 25) 27 (.int .i64 0) (.int .i64 0)
  have y0 : Below w.heap.size w ((w.alloc (.cells #[.slice none 0 0, .int .i64 0] 25)).alloc (.cells #[.int .i64 0, .int .i64 0] 27)) := ((Below.refl _ _).alloc (Nat.le_refl _) _).alloc (by simp) _
  have HR := (h.alloc (.cells #[.slice none 0 0, .int .i64 0] 25)).alloc (.cells #[.int .i64 0, .int .i64 0] 27)
  clear h
  go_enter Try.func11, Try.ntmps11
  go_wp2_with fail
  generalize ((w.alloc (.cells #[.slice none 0 0, .int .i64 0] 25)).alloc (.cells #[.int .i64 0, .int .i64 0] 27)) = W at X0 F0 y0 HR ⊢
  go_loopw [4, 5, 18] (fun _ _ i wr => ∃ k : Nat, k ≤ cs.length ∧ i = .int .i64 (k : Nat) ∧ Below W.heap.size W wr) (fun _ _ i _ => cs.length - (intOf i).toNat)
  case atStart => exact ⟨0, Nat.zero_le _, rfl, Below.refl _ _⟩
  case round =>
    obtain ⟨k, hk, rfl, yr⟩ := hrel
    by_cases hlt : k < cs.length
    · have hR := HR.on yr
      obtain ⟨g, off, rfl, hg, q1, q2⟩ := hR.at k hlt
      obtain ⟨x, hx⟩ : ∃ x, x = cs[k] := ⟨_, rfl⟩
      rw [← hx] at q1 q2
      have hok := HA.out _ (List.getElem_mem hlt)
      rw [← hx] at hok
      obtain ⟨xb, xp⟩ := x
      dsimp only at q1 q2
      have i1 : (0 : Int) ≤ (k : Int) := by omega
      have i2 : (k : Int) < (cs.length : Int) := by omega
      have yx := yr.alloc yr.size (.cells #[.int .i64 xb, .int .i64 xp] 48)
      have V0 := Two.new wr 48 (.int .i64 xb) (.int .i64 xp)
      have v0 := V0.c0
      have v1 := V0.c1
      obtain ⟨hbits, hp1, hp2⟩ := cho_split hok
      dsimp only at hbits hp1 hp2
      have HP := Lib.hid (decide_eq_true (⟨hp1, hp2⟩ : 1 ≤ xp ∧ xp ≤ 4095))
      clear hx hok hp1 hp2
      rcases hbits with ⟨e0, -⟩ | ⟨e0, e1⟩
      all_goals
        go_wp2_with fail
        refine (validp_yes _ HP.out _).mono ?_
        rintro e w9 ⟨rfl, rfl⟩
        go_wp2_with fail
        go_roundw
        case rel => exact ⟨k + 1, by omega, by go_num, yx⟩
        case measure => simp [intOf] <;> omega
    · obtain rfl : k = cs.length := by omega
      have X1 := X0.on yr
      have F1 := F0.on yr
      have Y1 := y0.trans (yr.mono y0.size)
      have R1 := HR.on yr
      clear X0 F0 y0 HR yr
      go_wp2_with fail
      refine (start_any _).mono ?_
      rintro e w2 ⟨rfl, y2⟩
      have X2 := (X1.on y2)
      have F2 := (F1.on y2)
      have Y2 := Y1.trans (y2.mono Y1.size)
      have R2 := R1.on y2
      have hW2 := F2.lt
      have E2 : EnW w ((w2.alloc (.cells #[.int .i64 0, .int .i64 65535, .int .i64 0] 50)).alloc (.cells #[.pointer none, .slice none 0 0] 76)) w.heap.size w2.heap.size 0 65535 0 [] :=
        ⟨(X2.alloc _).alloc _, (F2.alloc _).alloc _, (Three.new w2 _ _ _ _).alloc _, by simpa using Bld.new (w2.alloc (.cells #[.int .i64 0, .int .i64 65535, .int .i64 0] 50)), (Y2.alloc Y2.size _).alloc (by have := Y2.size; simp; omega) _, hW2⟩
      have R3 := (R2.alloc (.cells #[.int .i64 0, .int .i64 65535, .int .i64 0] 50)).alloc (.cells #[.pointer none, .slice none 0 0] 76)
      have hsz3 : w2.heap.size + 1 < ((w2.alloc (.cells #[.int .i64 0, .int .i64 65535, .int .i64 0] 50)).alloc (.cells #[.pointer none, .slice none 0 0] 76)).heap.size := by simp
      clear X1 F1 Y1 R1 X2 F2 Y2 R2
      go_wp2_with fail
      generalize ((w2.alloc (.cells #[.int .i64 0, .int .i64 65535, .int .i64 0] 50)).alloc (.cells #[.pointer none, .slice none 0 0] 76)) = W3 at E2 R3 hsz3 ⊢
      obtain ⟨C, hC⟩ : ∃ C, C = w2.heap.size := ⟨_, rfl⟩
      rw [← hC] at E2 hsz3 ⊢
      clear hC R3 hW2 y2 hsz3
      go_loopw [8, 9, 10, 44] (fun _ _ _ i wr => ∃ (k : Nat) (l u : Int) (q : Nat) (S : List Nat), k ≤ cs.length ∧ i = .int .i64 (k : Nat) ∧ l = (erun (cs.take k) 0 65535).1 ∧ u = (erun (cs.take k) 0 65535).2.1 ∧ S = (sentf (erun (cs.take k) 0 65535).2.2 0).1 ∧ q = (sentf (erun (cs.take k) 0 65535).2.2 0).2 ∧ EnW w wr w.heap.size C l u q S) (fun _ _ _ i _ => cs.length - (intOf i).toNat)
      case atStart => exact ⟨0, 0, 65535, 0, [], Nat.zero_le _, rfl, rfl, rfl, rfl, rfl, E2⟩
      case round =>
        obtain ⟨k, l, u, q, S, hk, rfl, hlo, hhi, hS, hq, E3⟩ := hrel
        have HLO := Lib.hid hlo
        have HHI := Lib.hid hhi
        have HS := Lib.hid hS
        have HQ := Lib.hid hq
        have HE := Lib.hid E3
        have hlen : S.length + q ≤ 114688 := by
          have a := sentf_count (erun (cs.take k) 0 65535).2.2 0
          rw [← hS, ← hq] at a
          have b := (HTL.out k).2.1
          rw [List.length_take] at b
          omega
        clear hlo hhi hS hq E2
        by_cases hlt : k < cs.length
        · have hR := HW.on E3.2.2.2.2.1
          obtain ⟨g, off, rfl, hg, q1, q2⟩ := hR.at k hlt
          obtain ⟨x, hx⟩ : ∃ x, x = cs[k] := ⟨_, rfl⟩
          have hok := HA.out _ (List.getElem_mem hlt)
          have hes := erun_take_succ cs k hlt 0 65535
          rw [← hx] at q1 q2 hok hes
          rw [← HLO.out, ← HHI.out] at hes
          obtain ⟨LO, hLO⟩ : ∃ LO, LO = (stp l u x.n x.p).1 := ⟨_, rfl⟩
          obtain ⟨HI, hHI⟩ : ∃ HI, HI = (stp l u x.n x.p).2.1 := ⟨_, rfl⟩
          obtain ⟨R, hRR⟩ : ∃ R, R = (stp l u x.n x.p).2.2 := ⟨_, rfl⟩
          obtain ⟨S2, hS2⟩ : ∃ S2, S2 = (sentf R q).1 := ⟨_, rfl⟩
          obtain ⟨Q2, hQ2⟩ : ∃ Q2, Q2 = (sentf R q).2 := ⟨_, rfl⟩
          rw [← hLO, ← hHI, ← hRR] at hes
          have hw : Wid l u := by have := (HTL.out k).1; rwa [← HLO.out, ← HHI.out] at this
          have hR14 : R.length ≤ 14 := by rw [hRR]; exact (stp_facts x.n hw hok.2.1 hok.2.2).2.1
          have hS14 : S2.length + Q2 = R.length + q := by rw [hS2, hQ2]; exact sentf_count R q
          have HSN := Lib.hid hes
          have HSS := Lib.hid (show (sentf (erun (cs.take (k + 1)) 0 65535).2.2 0) = (S ++ S2, Q2) by rw [hes]; dsimp only; rw [sentf_append, ← HS.out, ← HQ.out, hS2, hQ2])
          have HXX := Lib.hid (show cs[k]? = some x by rw [hx]; exact List.getElem?_eq_getElem hlt)
          have hbe := hok.n_eq
          have HST := Lib.hid (fun (W : World) => encode_any hw hok.2.1 hok.2.2 hok.n_le (q := q) (by omega) LO HI S2 Q2 hLO hHI (by rw [← hRR]; exact hS2) (by rw [← hRR]; exact hQ2) W)
          rw [← hbe] at HST
          obtain ⟨xb, xp⟩ := x
          dsimp only at q1 q2 HST
          have i1 : (0 : Int) ≤ (k : Int) := by omega
          have i2 : (k : Int) < (cs.length : Int) := by omega
          have c0 := E3.2.2.1.c0
          have c1 := E3.2.2.1.c1
          have c2 := E3.2.2.1.c2
          clear hes hw hLO hHI hRR hok hx hbe hS2 hQ2 E3
          go_wp2_with fail
          refine wp_region_noPanic ?_
          refine wp_region_held_drew (S := fun w' => w'.cell? ⟨g, off + k * 2, none⟩ = some (.int .i64 xb) ∧ w'.cell? ⟨g, off + k * 2 + 1, none⟩ = some (.int .i64 xp) ∧ w'.cell? ⟨C, 0, none⟩ = some (.int .i64 l) ∧ w'.cell? ⟨C, 1, none⟩ = some (.int .i64 u) ∧ w'.cell? ⟨C, 2, none⟩ = some (.int .i64 (q : Nat))) (by kernel_rfl) (by first | trivial | (dsimp only; go_keep)) (fun hR1 => ?_)
          refine wpAnyH_take (i := 0) (v := ?_) rfl (by kernel_rfl) (by kernel_rfl) (by kernel_rfl) (fun _ _ _ h => h) (Or.inl ⟨by rfl, ?_⟩) (by assumption) ?_
          rotate_left 1
          focus (intro wS hSw; (try dsimp only at hSw); go_simp; try with_reducible rfl)
          (try simp only [Act.put, List.setIfInBounds_toArray, List.set_cons_zero, List.set_cons_succ])
          refine wpAnyH_take (i := 1) (v := ?_) rfl (by kernel_rfl) (by kernel_rfl) (by kernel_rfl) (fun _ _ _ h => h) (Or.inl ⟨by rfl, ?_⟩) (by assumption) ?_
          rotate_left 1
          focus (intro wS hSw; (try dsimp only at hSw); go_simp; try with_reducible rfl)
          (try simp only [Act.put, List.setIfInBounds_toArray, List.set_cons_zero, List.set_cons_succ])
          refine wpAnyH_take (i := 2) (v := ?_) rfl (by kernel_rfl) (by kernel_rfl) (by kernel_rfl) (fun _ _ _ h => h) (Or.inl ⟨by rfl, ?_⟩) (by assumption) ?_
          rotate_left 1
          focus (intro wS hSw; (try dsimp only at hSw); go_simp; try with_reducible rfl)
          (try simp only [Act.put, List.setIfInBounds_toArray, List.set_cons_zero, List.set_cons_succ])
          refine wpAnyH_take (i := 3) (v := ?_) rfl (by kernel_rfl) (by kernel_rfl) (by kernel_rfl) (fun _ _ _ h => h) (Or.inl ⟨by rfl, ?_⟩) (by assumption) ?_
          rotate_left 1
          focus (intro wS hSw; (try dsimp only at hSw); go_simp; try with_reducible rfl)
          (try simp only [Act.put, List.setIfInBounds_toArray, List.set_cons_zero, List.set_cons_succ])
          refine wpAnyH_take (i := 4) (v := ?_) rfl (by kernel_rfl) (by kernel_rfl) (by kernel_rfl) (fun _ _ _ h => h) (Or.inl ⟨by rfl, ?_⟩) (by assumption) ?_
          rotate_left 1
          focus (intro wS hSw; (try dsimp only at hSw); go_simp; try with_reducible rfl)
          (try simp only [Act.put, List.setIfInBounds_toArray, List.set_cons_zero, List.set_cons_succ])
          refine wpAnyH_take (i := 5) (v := ?_) rfl (by kernel_rfl) (by kernel_rfl) (by kernel_rfl) (fun _ _ _ h => h) (Or.inl ⟨by rfl, ?_⟩) (by assumption) ?_
          rotate_left 1
          focus (intro wS hSw; (try dsimp only at hSw); go_simp; try with_reducible rfl)
          (try simp only [Act.put, List.setIfInBounds_toArray, List.set_cons_zero, List.set_cons_succ])
          refine wpAnyH_take (i := 6) (v := ?_) rfl (by kernel_rfl) (by kernel_rfl) (by kernel_rfl) (fun _ _ _ h => h) (Or.inl ⟨by rfl, ?_⟩) (by assumption) ?_
          rotate_left 1
          focus (intro wS hSw; (try dsimp only at hSw); go_simp; try with_reducible rfl)
          (try simp only [Act.put, List.setIfInBounds_toArray, List.set_cons_zero, List.set_cons_succ])
          refine wpAnyH_take (i := 7) (v := ?_) rfl (by kernel_rfl) (by kernel_rfl) (by kernel_rfl) (fun _ _ _ h => h) (Or.inl ⟨by rfl, ?_⟩) (by assumption) ?_
          rotate_left 1
          focus (intro wS hSw; (try dsimp only at hSw); go_simp; try with_reducible rfl)
          (try simp only [Act.put, List.setIfInBounds_toArray, List.set_cons_zero, List.set_cons_succ])
          refine wpAnyH_take (i := 8) (v := ?_) rfl (by kernel_rfl) (by kernel_rfl) (by kernel_rfl) (fun _ _ _ h => h) (Or.inl ⟨by rfl, ?_⟩) (by assumption) ?_
          rotate_left 1
          focus (intro wS hSw; (try dsimp only at hSw); go_simp; try with_reducible rfl)
          (try simp only [Act.put, List.setIfInBounds_toArray, List.set_cons_zero, List.set_cons_succ])
          refine wpAnyH_take (i := 9) (v := ?_) rfl (by kernel_rfl) (by kernel_rfl) (by kernel_rfl) (fun _ _ _ h => h) (Or.inl ⟨by rfl, ?_⟩) (by assumption) ?_
          rotate_left 1
          focus (intro wS hSw; (try dsimp only at hSw); go_simp; try with_reducible rfl)
          (try simp only [Act.put, List.setIfInBounds_toArray, List.set_cons_zero, List.set_cons_succ])
          refine wpAnyH_take (i := 10) (v := ?_) rfl (by kernel_rfl) (by kernel_rfl) (by kernel_rfl) (fun _ _ _ h => h) (Or.inl ⟨by rfl, ?_⟩) (by assumption) ?_
          rotate_left 1
          focus (intro wS hSw; (try dsimp only at hSw); go_simp; try with_reducible rfl)
          (try simp only [Act.put, List.setIfInBounds_toArray, List.set_cons_zero, List.set_cons_succ])
          refine wpAnyH_ready (rs := [11, 15]) (by kernel_rfl) (by simp) ?_
          refine (AllReadyH.cons rfl (fun K hK => ?_) (AllReadyH.cons rfl (fun K hK => ?_) AllReadyH.nil))
          · go_simp
            refine (HST.out _).mono ?_
            rintro e w5 ⟨rfl, y5⟩
            have E5 := (EnW.on (wr := wr.drew) HE.out.drew y5)
            have hbe1 := EnW.bel E5
            obtain ⟨ha1, hb1⟩ := RdC.held HW hbe1 rfl HXX.out
            clear hbe1
            obtain ⟨hc1, hd1, he1⟩ := EnW.cells E5
            (try go_wp2_with fail)
            refine hK.out _ _ ?_ (fun hR2 => ?_)
            · first | trivial | ((try dsimp only); go_keep)
            clear hK K hR1
            (try simp only [Act.put, List.setIfInBounds_toArray, List.set_cons_zero, List.set_cons_succ])
            refine wpAnyH_take (i := 12) (v := ?_) rfl (by kernel_rfl) (by kernel_rfl) (by kernel_rfl) (fun _ _ _ h => h) (Or.inl ⟨by rfl, ?_⟩) (by assumption) ?_
            rotate_left 1
            focus (intro wS hSw; (try dsimp only at hSw); go_simp; try with_reducible rfl)
            (try simp only [Act.put, List.setIfInBounds_toArray, List.set_cons_zero, List.set_cons_succ])
            refine wpAnyH_take (i := 13) (v := ?_) rfl (by kernel_rfl) (by kernel_rfl) (by kernel_rfl) (fun _ _ _ h => h) (Or.inl ⟨by rfl, ?_⟩) (by assumption) ?_
            rotate_left 1
            focus (intro wS hSw; (try dsimp only at hSw); go_simp; try with_reducible rfl)
            (try simp only [Act.put, List.setIfInBounds_toArray, List.set_cons_zero, List.set_cons_succ])
            refine wpAnyH_take (i := 14) (v := ?_) rfl (by kernel_rfl) (by kernel_rfl) (by kernel_rfl) (fun _ _ _ h => h) (Or.inl ⟨by rfl, ?_⟩) (by assumption) ?_
            rotate_left 1
            focus (intro wS hSw; (try dsimp only at hSw); go_simp; try with_reducible rfl)
            (try simp only [Act.put, List.setIfInBounds_toArray, List.set_cons_zero, List.set_cons_succ])
            refine wpAnyH_ready (rs := [15]) (by kernel_rfl) (by simp) ?_
            refine (AllReadyH.cons rfl (fun K hK => ?_) AllReadyH.nil)
            go_simp
            have E6 := E5.alloc (.cells #[.int .i64 0, .int .i64 0, .int .i64 0] 50)
            have T6 := Three.new w5 50 (.int .i64 0) (.int .i64 0) (.int .i64 0)
            have hbe3 := EnW.bel E6
            obtain ⟨ha3, hb3⟩ := RdC.held HW hbe3 rfl HXX.out
            clear hbe3
            obtain ⟨hc3, hd3, he3⟩ := EnW.cells E6
            refine hK.out _ _ ?_ (fun hR3 => ?_)
            · first | trivial | ((try dsimp only); go_keep)
            clear hK K hR2
            (try simp only [Act.put, List.setIfInBounds_toArray, List.set_cons_zero, List.set_cons_succ])
            refine wpAnyH_ready (rs := [16]) (by kernel_rfl) (by simp) ?_
            refine (AllReadyH.cons rfl (fun K hK => ?_) AllReadyH.nil)
            go_simp
            have E7 := E5.alloc (.cells #[.int .i64 LO, .int .i64 HI, .int .i64 (Q2 : Nat)] 50)
            have T7 := Three.new w5 50 (.int .i64 LO) (.int .i64 HI) (.int .i64 (Q2 : Nat))
            have hgN := E5.lt
            have hbe5 := EnW.bel E7
            obtain ⟨ha5, hb5⟩ := RdC.held HW hbe5 rfl HXX.out
            clear hbe5
            obtain ⟨hc5, hd5, he5⟩ := EnW.cells E7
            refine hK.out _ _ ?_ (fun hR4 => ?_)
            · first | trivial | ((try dsimp only); go_keep)
            clear hK K hR3
            (try simp only [Act.put, List.setIfInBounds_toArray, List.set_cons_zero, List.set_cons_succ])
            refine wpAnyH_take (i := 17) (v := ?_) rfl (by kernel_rfl) (by kernel_rfl) (by kernel_rfl) (fun _ _ _ h => h) (Or.inl ⟨by rfl, ?_⟩) (by assumption) ?_
            rotate_left 1
            focus (intro wS hSw; (try dsimp only at hSw); go_simp; try with_reducible rfl)
            (try simp only [Act.put, List.setIfInBounds_toArray, List.set_cons_zero, List.set_cons_succ])
            refine wpAnyH_done (by kernel_rfl) ?_ _
            refine NoPanic.normal ?_
            clear hR4
            clear ha1 hb1 hc1 hd1 he1 ha3 hb3 hc3 hd3 he3 ha5 hb5 hc5 hd5 he5 E6 T6 y5 E5 q1 q2 c0 c1 c2 hR
            obtain ⟨N, hN⟩ : ∃ N, N = w5.heap.size := ⟨_, rfl⟩
            rw [← hN] at T7 hgN
            rw [← hN]
            clear hN
            generalize w5.alloc (.cells #[.int .i64 LO, .int .i64 HI, .int .i64 (Q2 : Nat)] 50) = W7 at E7 T7 ⊢
            (try simp only [Act.put, List.setIfInBounds_toArray, List.set_cons_zero, List.set_cons_succ])
            go_wp2_with fail
            refine (bld_add E7.2.2.2.1 (by omega)).mono ?_
            rintro e w8 ⟨rfl, b8, y8, o8⟩
            have E8 := E7.wrote b8 y8
            have T8 := o8.three T7 (by omega)
            clear E7 T7 y8 o8 b8
            have n0 := T8.c0
            have n1 := T8.c1
            have n2 := T8.c2
            have d0 := E8.2.2.1.c0
            have d1 := E8.2.2.1.c1
            have d2 := E8.2.2.1.c2
            have d3 := E8.2.2.1.f0
            have d4 := E8.2.2.1.f1
            have d5 := E8.2.2.1.f2
            have ne1 : C ≠ N := by omega
            have ne2 : N ≠ C := by omega
            have E9 := E8.set LO HI Q2
            go_wp2_with fail
            go_roundw
            case rel => exact ⟨k + 1, LO, HI, Q2, S ++ S2, by omega, by go_num, by rw [HSN.out], by rw [HSN.out], by rw [HSS.out], by rw [HSS.out], E9⟩
            case measure => simp [intOf] <;> omega
          · go_simp
            have E4 := HE.out.drew.alloc (.cells #[.int .i64 0, .int .i64 0, .int .i64 0] 50)
            have T4 : Three (wr.drew.alloc (.cells #[.int .i64 0, .int .i64 0, .int .i64 0] 50)) wr.heap.size 50 (.int .i64 0) (.int .i64 0) (.int .i64 0) := Three.new wr.drew 50 (.int .i64 0) (.int .i64 0) (.int .i64 0)
            have R4 := hR.drew.alloc (.cells #[.int .i64 0, .int .i64 0, .int .i64 0] 50)
            obtain ⟨-, ha4, hb4⟩ := RdC.cells R4 HXX.out
            obtain ⟨hc4, hd4, he4⟩ := EnW.cells E4
            refine hK.out _ _ ?_ (fun hR5 => ?_)
            · first | trivial | ((try dsimp only); go_keep)
            clear hK K hR1
            (try simp only [Act.put, List.setIfInBounds_toArray, List.set_cons_zero, List.set_cons_succ])
            refine wpAnyH_ready (rs := [11]) (by kernel_rfl) (by simp) ?_
            refine (AllReadyH.cons rfl (fun K hK => ?_) AllReadyH.nil)
            go_simp
            refine (HST.out _).mono ?_
            rintro e w5 ⟨rfl, y5⟩
            have E5 := (EnW.on (wr := wr.drew.alloc (.cells #[.int .i64 0, .int .i64 0, .int .i64 0] 50)) E4 y5)
            have T5 := (Three.on (w := wr.drew.alloc (.cells #[.int .i64 0, .int .i64 0, .int .i64 0] 50)) T4 y5)
            have n0 := T5.c0
            have n1 := T5.c1
            have n2 := T5.c2
            have m0 := T5.f0
            have m1 := T5.f1
            have m2 := T5.f2
            have R5 := (RdC.on (w := wr.drew.alloc (.cells #[.int .i64 0, .int .i64 0, .int .i64 0] 50)) R4 y5)
            obtain ⟨-, ha2, hb2⟩ := RdC.cells R5 HXX.out
            obtain ⟨hc2, hd2, he2⟩ := EnW.cells E5
            (try go_wp2_with fail)
            refine hK.out _ _ ?_ (fun hR6 => ?_)
            · first | trivial | ((try dsimp only); go_keep)
            clear hK K hR5
            (try simp only [Act.put, List.setIfInBounds_toArray, List.set_cons_zero, List.set_cons_succ])
            refine wpAnyH_take (i := 12) (v := ?_) rfl (by kernel_rfl) (by kernel_rfl) (by kernel_rfl) (fun _ _ _ h => h) (Or.inl ⟨by rfl, ?_⟩) (by assumption) ?_
            rotate_left 1
            focus (intro wS hSw; (try dsimp only at hSw); go_simp; try with_reducible rfl)
            (try simp only [Act.put, List.setIfInBounds_toArray, List.set_cons_zero, List.set_cons_succ])
            refine wpAnyH_take (i := 13) (v := ?_) rfl (by kernel_rfl) (by kernel_rfl) (by kernel_rfl) (fun _ _ _ h => h) (Or.inl ⟨by rfl, ?_⟩) (by assumption) ?_
            rotate_left 1
            focus (intro wS hSw; (try dsimp only at hSw); go_simp; try with_reducible rfl)
            (try simp only [Act.put, List.setIfInBounds_toArray, List.set_cons_zero, List.set_cons_succ])
            refine wpAnyH_take (i := 14) (v := ?_) rfl (by kernel_rfl) (by kernel_rfl) (by kernel_rfl) (fun _ _ _ h => h) (Or.inl ⟨by rfl, ?_⟩) (by assumption) ?_
            rotate_left 1
            focus (intro wS hSw; (try dsimp only at hSw); go_simp; try with_reducible rfl)
            (try simp only [Act.put, List.setIfInBounds_toArray, List.set_cons_zero, List.set_cons_succ])
            refine wpAnyH_ready (rs := [16]) (by kernel_rfl) (by simp) ?_
            refine (AllReadyH.cons rfl (fun K hK => ?_) AllReadyH.nil)
            go_simp
            have hgN := HE.out.lt
            have E7 := E5.farN T5 hgN (.int .i64 LO) (.int .i64 HI) (.int .i64 (Q2 : Nat))
            have T7 := T5.wr (.int .i64 LO) (.int .i64 HI) (.int .i64 (Q2 : Nat))
            have hbe6 := EnW.bel E7
            obtain ⟨ha6, hb6⟩ := RdC.held HW hbe6 rfl HXX.out
            clear hbe6
            obtain ⟨hc6, hd6, he6⟩ := EnW.cells E7
            refine hK.out _ _ ?_ (fun hR7 => ?_)
            · first | trivial | ((try dsimp only); go_keep)
            clear hK K hR6
            (try simp only [Act.put, List.setIfInBounds_toArray, List.set_cons_zero, List.set_cons_succ])
            refine wpAnyH_take (i := 17) (v := ?_) rfl (by kernel_rfl) (by kernel_rfl) (by kernel_rfl) (fun _ _ _ h => h) (Or.inl ⟨by rfl, ?_⟩) (by assumption) ?_
            rotate_left 1
            focus (intro wS hSw; (try dsimp only at hSw); go_simp; try with_reducible rfl)
            (try simp only [Act.put, List.setIfInBounds_toArray, List.set_cons_zero, List.set_cons_succ])
            refine wpAnyH_done (by kernel_rfl) ?_ _
            refine NoPanic.normal ?_
            clear hR7
            clear ha2 hb2 hc2 hd2 he2 ha4 hb4 hc4 hd4 he4 ha6 hb6 hc6 hd6 he6 n0 n1 n2 m0 m1 m2 E4 T4 R4 R5 y5 E5 T5 q1 q2 c0 c1 c2 hR
            obtain ⟨N, hN⟩ : ∃ N, N = wr.heap.size := ⟨_, rfl⟩
            rw [← hN] at T7 E7
            rw [← hN] at hgN
            rw [← hN]
            clear hN
            generalize (((w5.setCell ⟨N, 0, none⟩ (.int .i64 LO)).setCell ⟨N, 1, none⟩ (.int .i64 HI)).setCell ⟨N, 2, none⟩ (.int .i64 (Q2 : Nat))) = W7 at E7 T7 ⊢
            (try simp only [Act.put, List.setIfInBounds_toArray, List.set_cons_zero, List.set_cons_succ])
            go_wp2_with fail
            refine (bld_add E7.2.2.2.1 (by omega)).mono ?_
            rintro e w8 ⟨rfl, b8, y8, o8⟩
            have E8 := E7.wrote b8 y8
            have T8 := o8.three T7 (by omega)
            clear E7 T7 y8 o8 b8
            have n0 := T8.c0
            have n1 := T8.c1
            have n2 := T8.c2
            have d0 := E8.2.2.1.c0
            have d1 := E8.2.2.1.c1
            have d2 := E8.2.2.1.c2
            have d3 := E8.2.2.1.f0
            have d4 := E8.2.2.1.f1
            have d5 := E8.2.2.1.f2
            have ne1 : C ≠ N := by omega
            have ne2 : N ≠ C := by omega
            have E9 := E8.set LO HI Q2
            go_wp2_with fail
            go_roundw
            case rel => exact ⟨k + 1, LO, HI, Q2, S ++ S2, by omega, by go_num, by rw [HSN.out], by rw [HSN.out], by rw [HSS.out], by rw [HSS.out], E9⟩
            case measure => simp [intOf] <;> omega
        · obtain rfl : k = cs.length := by omega
          obtain ⟨b, hb⟩ : ∃ b : Nat, b = if l < 16384 then 0 else 1 := ⟨_, rfl⟩
          have hb1 : b ≤ 1 := by rw [hb]; split <;> omega
          have HCO := Lib.hid (show S ++ crt b (q + 1) = acode cs by
            have e1 := HLO.out
            have e2 := HS.out
            have e3 := HQ.out
            rw [List.take_of_length_le (Nat.le_refl _)] at e1 e2 e3
            unfold acode
            rw [← e1, ← e2, ← e3, hb])
          have HFI := Lib.hid (fun (W : World) => finish_any (lo := l) (hi := u) (q := q) (by omega) b hb W)
          have hcl : (crt b (q + 1)).length = q + 2 := by simp [crt]
          obtain ⟨d0, d1, d2⟩ := HE.out.cells
          clear hb
          go_wp2_with fail
          refine (HFI.out _).mono ?_
          rintro e w5 ⟨rfl, y5⟩
          have E5 := HE.out.on y5
          go_wp2_with fail
          refine (bld_add E5.2.2.2.1 (by omega)).mono ?_
          rintro e w6 ⟨rfl, b6, y6, -⟩
          have E6 := E5.wrote b6 y6
          clear E5 b6 y6 E3
          go_wp2_with fail
          refine (bld_str E6.2.2.2.1).mono ?_
          rintro e w7 ⟨rfl, y7⟩
          obtain ⟨e1, e2, e3, e4, e5, e6⟩ := E6
          have X7 := e1.below y7 (by omega)
          have F7 := e2.below y7 (by omega)
          have Y7 := e5.trans (y7.mono (by omega))
          rw [HCO.out]
          have LT := F7.lt
          clear e1 e2 e3 e4 e5 e6 y7 d0 d1 d2
          go_wp2_with fail
          refine (HMK.out _).mono ?_
          rintro e w8 ⟨A1, n1, c1, rfl, o8, y8⟩
          have X8 := X7.on y8
          have F8 := F7.on y8
          have Y8 := Y7.trans (y8.mono Y7.size)
          have g0 := X8.c0
          have g1 := X8.c1
          have g2 := X8.f0
          have g3 := X8.f1
          have f0 := F8.c0
          have f1 := F8.c1
          have f2 := F8.f0
          have f3 := F8.f1
          obtain ⟨L, hL⟩ : ∃ L, L = (acode cs).length := ⟨_, rfl⟩
          have HL := Lib.hid hL
          rw [← hL]
          clear hL
          go_wp2
          have rX := (((X8.set0 (.slice A1 n1 c1)).set1 (.int .i64 (L : Nat))).far (p := ⟨w.heap.size + 1, 0, none⟩) (by simp) (.int .i64 0)).far (p := ⟨w.heap.size + 1, 1, none⟩) (by simp) (.int .i64 0)
          have rF := (((F8.far (p := ⟨w.heap.size, 0, none⟩) (by simp) (.slice A1 n1 c1)).far (p := ⟨w.heap.size, 1, none⟩) (by simp) (.int .i64 (L : Nat))).set0 (.int .i64 0)).set1 (.int .i64 0)
          have r0 := rX.c0
          have r1 := rX.c1
          have r2 := rF.c0
          have r3 := rF.c1
          have o9 := own_low (own_low (own_low (own_low o8 (p := ⟨w.heap.size, 0, none⟩) (Nat.lt_of_le_of_lt (by simp) LT) (.slice A1 n1 c1)) (p := ⟨w.heap.size, 1, none⟩) (Nat.lt_of_le_of_lt (by simp) LT) (.int .i64 (L : Nat))) (p := ⟨w.heap.size + 1, 0, none⟩) LT (.int .i64 0)) (p := ⟨w.heap.size + 1, 1, none⟩) LT (.int .i64 0)
          exact bodyPost_ret (v := .tuple #[.agg #[.slice A1 n1 c1, .int .i64 (L : Nat)], .agg #[.int .i64 0, .int .i64 0]]) (by simp [results, Try.results11, go_sem, r0, r1, r2, r3]) rfl ⟨A1, n1, c1, by rw [HL.out], Rd.own o9, (((Y8.setCell (p := ⟨w.heap.size, 0, none⟩) (by simp) _).setCell (p := ⟨w.heap.size, 1, none⟩) (by simp) _).setCell (p := ⟨w.heap.size + 1, 0, none⟩) (by simp) _).setCell (p := ⟨w.heap.size + 1, 1, none⟩) (by simp) _⟩
end PB
end Go.Proofs.Ytnnpkajmheglgaa
