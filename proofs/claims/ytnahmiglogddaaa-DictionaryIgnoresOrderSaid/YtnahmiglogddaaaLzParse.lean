/-
  lz.Parse: the cheapest tokens.
-/
import Derived.Test.YtnahmiglogddaaaLzTok3
import Derived.Test.YtnahmiglogddaaaSlices
import Derived.Deep.RegionHeld3
import Derived.Deep.DrawnRows
import Derived.BigRegion
import Derived.Deep.Cut
namespace Go.Proofs.Ytnahmiglogddaaa
open Go.RowKit
attribute [local go_sem ↓] Go.wp_at_zero Go.wp_at_succ
set_option linter.unusedVariables false
set_option linter.unusedSimpArgs false
namespace PB
set_option maxRecDepth 100000 in
set_option maxHeartbeats 1600000 in
theorem lzparse_long {A : Option Addr} {n c : Nat} {d : List Nat} {A2 : Option Addr} {n2 c2 : Nat} {w : World} (h : Rd w A n c (bcells d)) (hn : 1024 < n) :
    Calls Try.prog 20 #[.slice A n c, .slice A2 n2 c2] w fun e w' => e = .returned (.tuple #[.slice none 0 0, .agg #[.int .i64 3, .int .i64 (-1)]]) ∧ Below w.heap.size w w' := by
  have X0 := Two.new w 25 (.int .i64 0) (.int .i64 0)
  have y0 : Below w.heap.size w (w.alloc (.cells #[.int .i64 0, .int .i64 0] 25)) := (Below.refl _ _).alloc (Nat.le_refl _) _
  go_enter Try.func20, Try.ntmps20
  go_wp2_with fail
  refine (lzfault_any _ _ _).mono ?_
  rintro e w1 ⟨rfl, y1⟩
  have X1 := X0.on y1
  have Y1 := y0.trans (y1.mono y0.size)
  obtain ⟨f0, f1, f2, f3, f4⟩ := X1.facts
  have r0 := ((X1.set0 (.int .i64 3)).set1 (.int .i64 (-1))).c0
  have r1 := ((X1.set0 (.int .i64 3)).set1 (.int .i64 (-1))).c1
  have HR0 := Lib.hid r0
  have HR1 := Lib.hid r1
  clear r0 r1
  go_wp2
  have r0 := HR0.out
  have r1 := HR1.out
  exact bodyPost_ret (v := .tuple #[.slice none 0 0, .agg #[.int .i64 3, .int .i64 (-1)]]) (by simp [results, Try.results20, go_sem, r0, r1]) rfl ⟨rfl, (Y1.setCell (Nat.le_refl _) _).setCell (Nat.le_refl _) _⟩
set_option maxRecDepth 100000 in
set_option maxHeartbeats 1600000 in
theorem lzparse_dict {A : Option Addr} {n c : Nat} {A2 : Option Addr} {n2 c2 : Nat} {w : World} (hn : n ≤ 1024) (hn2 : 512 < n2) :
    Calls Try.prog 20 #[.slice A n c, .slice A2 n2 c2] w fun e w' => e = .returned (.tuple #[.slice none 0 0, .agg #[.int .i64 3, .int .i64 (-2)]]) ∧ Below w.heap.size w w' := by
  have X0 := Two.new w 25 (.int .i64 0) (.int .i64 0)
  have y0 : Below w.heap.size w (w.alloc (.cells #[.int .i64 0, .int .i64 0] 25)) := (Below.refl _ _).alloc (Nat.le_refl _) _
  go_enter Try.func20, Try.ntmps20
  go_wp2_with fail
  refine (lzfault_any _ _ _).mono ?_
  rintro e w1 ⟨rfl, y1⟩
  have X1 := X0.on y1
  have Y1 := y0.trans (y1.mono y0.size)
  obtain ⟨f0, f1, f2, f3, f4⟩ := X1.facts
  have HR0 := Lib.hid ((X1.set0 (.int .i64 3)).set1 (.int .i64 (-2))).c0
  have HR1 := Lib.hid ((X1.set0 (.int .i64 3)).set1 (.int .i64 (-2))).c1
  go_wp2
  have r0 := HR0.out
  have r1 := HR1.out
  exact bodyPost_ret (v := .tuple #[.slice none 0 0, .agg #[.int .i64 3, .int .i64 (-2)]]) (by simp [results, Try.results20, go_sem, r0, r1]) rfl ⟨rfl, (Y1.setCell (Nat.le_refl _) _).setCell (Nat.le_refl _) _⟩
/-- What lz.Parse hands back. -/
def ParseOut (all : List Nat) (f : Nat) (w : World) (e : Ending) (w' : World) : Prop :=
  ∃ L nn dd A' m c', e = .returned (.tuple #[.slice A' m c', .agg #[.int .i64 0, .int .i64 0]]) ∧ Tab gsz all f L nn dd ∧ w'.ownsRow w.heap.size 54 3 (.slice A' m c') m (tcells (tokens all nn dd f)) ∧ Below w.heap.size w w'
/-- The rows of lz.Parse: same, least, best, and the result's cell; what lay below them is as it was in w1. -/
structure PRows (w0 w1 w : World) (gs gl gb : Nat) (all : List Nat) (S Ls : List Nat) (Bs : List Tok) : Prop where
  s : w.ownsRow (w0.heap.size + 1) 3 1 (.slice (some ⟨gs, 0, none⟩) (all.length + 1) (all.length + 1)) (all.length + 1) (ncells S)
  l : w.ownsRow (w0.heap.size + 1) 3 1 (.slice (some ⟨gl, 0, none⟩) (all.length + 1) (all.length + 1)) (all.length + 1) (ncells Ls)
  b : w.ownsRow (w0.heap.size + 1) 54 3 (.slice (some ⟨gb, 0, none⟩) all.length all.length) all.length (tcells Bs)
  x : Two w w0.heap.size 25 (.int .i64 0) (.int .i64 0)
  y : Below w0.heap.size w0 w
  z : Below gs w1 w
  o : gs < gl ∧ gl < gb
section
variable {w0 w1 w w' : World} {gs gl gb : Nat} {all S Ls : List Nat} {Bs : List Tok}
theorem PRows.lts (h : PRows w0 w1 w gs gl gb all S Ls Bs) : w0.heap.size + 1 ≤ gs ∧ gs < w.heap.size := h.s.lt _ rfl
theorem PRows.ltl (h : PRows w0 w1 w gs gl gb all S Ls Bs) : w0.heap.size + 1 ≤ gl ∧ gl < w.heap.size := h.l.lt _ rfl
theorem PRows.ltb (h : PRows w0 w1 w gs gl gb all S Ls Bs) : w0.heap.size + 1 ≤ gb ∧ gb < w.heap.size := h.b.lt _ rfl
theorem PRows.on (h : PRows w0 w1 w gs gl gb all S Ls Bs) (hb : Below w.heap.size w w') : PRows w0 w1 w' gs gl gb all S Ls Bs :=
  ⟨own_on h.s hb, own_on h.l hb, own_on h.b hb, h.x.on hb, h.y.trans (hb.mono h.y.size), h.z.trans (hb.mono (by have := h.lts; omega)), h.o⟩
theorem PRows.drew (h : PRows w0 w1 w gs gl gb all S Ls Bs) : PRows w0 w1 w.drew gs gl gb all S Ls Bs := ⟨h.s, h.l, h.b, h.x, belowD h.y, belowD h.z, h.o⟩
theorem PRows.drewN (h : PRows w0 w1 w gs gl gb all S Ls Bs) (q : Nat) : PRows w0 w1 (w.drewN q) gs gl gb all S Ls Bs := ⟨h.s, h.l, h.b, h.x, belowN h.y q, belowN h.z q, h.o⟩
theorem PRows.alloc (h : PRows w0 w1 w gs gl gb all S Ls Bs) (o : Obj) : PRows w0 w1 (w.alloc o) gs gl gb all S Ls Bs := h.on ((Below.refl _ _).alloc (Nat.le_refl _) o)
theorem PRows.sets (h : PRows w0 w1 w gs gl gb all S Ls Bs) (i x : Nat) (xi : Int) (hx : xi = (x : Nat)) : PRows w0 w1 (w.setCell ⟨gs, i, none⟩ (.int .i64 xi)) gs gl gb all (S.set i x) Ls Bs := by
  subst hx
  have hx := h.lts
  have ho := h.o
  have e : ncells (S.set i x) = (ncells S).set i (.int .i64 (x : Nat)) := by simp [ncells, List.map_set]
  exact ⟨by rw [e]; exact (h.s.stored i _).1, own_far h.l (by show gs ≠ gl; omega) _, own_far h.b (by show gs ≠ gb; omega) _, h.x.far (by show w0.heap.size ≠ gs; omega) _, h.y.setCell (by show w0.heap.size ≤ gs; omega) _, h.z.setCell (by show gs ≤ gs; omega) _, h.o⟩
theorem PRows.setl (h : PRows w0 w1 w gs gl gb all S Ls Bs) (i x : Nat) (xi : Int) (hx : xi = (x : Nat)) : PRows w0 w1 (w.setCell ⟨gl, i, none⟩ (.int .i64 xi)) gs gl gb all S (Ls.set i x) Bs := by
  subst hx
  have hx := h.ltl
  have ho := h.o
  have e : ncells (Ls.set i x) = (ncells Ls).set i (.int .i64 (x : Nat)) := by simp [ncells, List.map_set]
  exact ⟨own_far h.s (by show gl ≠ gs; omega) _, by rw [e]; exact (h.l.stored i _).1, own_far h.b (by show gl ≠ gb; omega) _, h.x.far (by show w0.heap.size ≠ gl; omega) _, h.y.setCell (by show w0.heap.size ≤ gl; omega) _, h.z.setCell (by show gs ≤ gl; omega) _, h.o⟩
theorem PRows.setb (h : PRows w0 w1 w gs gl gb all S Ls Bs) (i : Nat) (hi : i < all.length) (d n lit : Int) (t : Tok) (ht : t.d = d ∧ t.n = n ∧ ((t.lit : Nat) : Int) = lit) :
    PRows w0 w1 (((w.setCell ⟨gb, i * 3, none⟩ (.int .i64 d)).setCell ⟨gb, i * 3 + 1, none⟩ (.int .i64 n)).setCell ⟨gb, i * 3 + 2, none⟩ (.int .u8 lit)) gs gl gb all S Ls (Bs.set i t) := by
  obtain ⟨rfl, rfl, rfl⟩ := ht
  have hx := h.ltb
  have ho := h.o
  have hl := h.b.1
  rw [tcells_length] at hl
  have e1 : gb ≠ gs := by omega
  have e2 : gb ≠ gl := by omega
  have e3 : w0.heap.size ≠ gb := by omega
  have e4 : w0.heap.size ≤ gb := by omega
  have e5 : gs ≤ gb := by omega
  refine ⟨own_far (own_far (own_far h.s e1 _) e1 _) e1 _, own_far (own_far (own_far h.l e2 _) e2 _) e2 _, ?_,
    ((h.x.far e3 _).far e3 _).far e3 _, ((h.y.setCell e4 _).setCell e4 _).setCell e4 _, ((h.z.setCell e5 _).setCell e5 _).setCell e5 _, h.o⟩
  rw [← tcells_set Bs i t (by omega)]
  exact (((h.b.stored (i * 3) _).1.stored (i * 3 + 1) _).1.stored (i * 3 + 2) _).1
theorem PRows.grown (h : PRows w0 w1 w gs gl gb all S Ls Bs) {row : Option Nat} (hg : w.grownBy w' row) (hr : ∀ g, row = some g → gb < g) : PRows w0 w1 w' gs gl gb all S Ls Bs := by
  have ho := h.o
  have a1 := h.lts
  have a2 := h.ltl
  have a3 := h.ltb
  have key : ∀ q, q ≤ gb → some q ≠ row := fun q hq e => by have := hr q e.symm; omega
  have kb : ∀ {base e size n c xs g}, w.ownsRow base e size (.slice (some ⟨g, 0, none⟩) n c) n xs → g ≤ gb → w'.ownsRow base e size (.slice (some ⟨g, 0, none⟩) n c) n xs := by
    intro base e size n c xs g hw hq
    rcases hw.2 with ⟨q1, _⟩ | ⟨g', cap, cur, q1, q2, q3, q4⟩
    · cases q1
    · injection q1 with q1 q5 q6
      injection q1 with q1
      injection q1 with q1
      subst q1 q6
      refine ⟨hw.1, .inr ⟨g, c, cur, rfl, q2, ?_, q4⟩⟩
      have hlt : g < w.heap.size := by
        rcases Nat.lt_or_ge g w.heap.size with h | h
        · exact h
        · rw [Array.getElem?_eq_none h] at q3; cases q3
      exact (hg.block g hlt (key g hq)).trans q3
  refine ⟨kb h.s (by omega), kb h.l (by omega), kb h.b (Nat.le_refl _), h.x.grown hg (key _ (by omega)), h.y.grown hg h.y.size (fun g hq => by have := hr g hq; omega), h.z.grown hg (by omega) (fun g hq => by have := hr g hq; omega), h.o⟩
/-- What is read and written at i of same, of least; at i of best. -/
theorem PRows.sat (h : PRows w0 w1 w gs gl gb all S Ls Bs) (i : Nat) (hi : i ≤ all.length) : w.cell? ⟨gs, i, none⟩ = some (.int .i64 (S.getD i 0 : Nat)) ∧ w.frozen? ⟨gs, i, none⟩ = false := by
  have hl := h.s.1
  rw [ncells_length] at hl
  refine ⟨?_, h.s.frozenAt i⟩
  rw [h.s.cellAt i (by omega), ncells_get _ _ (by omega)]
theorem PRows.lat (h : PRows w0 w1 w gs gl gb all S Ls Bs) (i : Nat) (hi : i ≤ all.length) : w.cell? ⟨gl, i, none⟩ = some (.int .i64 (Ls.getD i 0 : Nat)) ∧ w.frozen? ⟨gl, i, none⟩ = false := by
  have hl := h.l.1
  rw [ncells_length] at hl
  refine ⟨?_, h.l.frozenAt i⟩
  rw [h.l.cellAt i (by omega), ncells_get _ _ (by omega)]
theorem PRows.bat (h : PRows w0 w1 w gs gl gb all S Ls Bs) (i : Nat) (hi : i < all.length) : ∃ t, Bs[i]? = some t ∧ w.cell? ⟨gb, i * 3, none⟩ = some (.int .i64 t.d) ∧ w.cell? ⟨gb, i * 3 + 1, none⟩ = some (.int .i64 t.n) ∧ w.cell? ⟨gb, i * 3 + 2, none⟩ = some (.int .u8 (t.lit : Nat)) ∧
    w.frozen? ⟨gb, i * 3, none⟩ = false ∧ w.frozen? ⟨gb, i * 3 + 1, none⟩ = false ∧ w.frozen? ⟨gb, i * 3 + 2, none⟩ = false := by
  have hl := h.b.1
  rw [tcells_length] at hl
  have e : Bs[i]? = some (Bs[i]'(by omega)) := List.getElem?_eq_getElem (by omega)
  obtain ⟨q1, q2, q3⟩ := tcells_get Bs i _ e
  exact ⟨_, e, by rw [h.b.cellAt _ (by omega), q1], by rw [h.b.cellAt _ (by omega), q2], by rw [h.b.cellAt _ (by omega), q3], h.b.frozenAt _, h.b.frozenAt _, h.b.frozenAt _⟩
end
set_option maxRecDepth 100000 in
set_option maxHeartbeats 3200000 in
theorem lzparse_ok {A : Option Addr} {n c : Nat} {data : List Nat} {A2 : Option Addr} {n2 c2 : Nat} {dict : List Nat} {w : World} (h : Rd w A n c (bcells data)) (h2 : Rd w A2 n2 c2 (bcells dict)) (hn : n ≤ 1024) (hn2 : n2 ≤ 512) :
    Calls Try.prog 20 #[.slice A n c, .slice A2 n2 c2] w (ParseOut (dict ++ data) n2 w) := by
  obtain ⟨i0, hi, hz0, hz1, hz2⟩ := info_parts int_info
  obtain ⟨i1, ti, tz0, tz1, tz2⟩ := info_parts tok_info
  have X0 := Two.new w 25 (.int .i64 0) (.int .i64 0)
  have y0 : Below w.heap.size w (w.alloc (.cells #[.int .i64 0, .int .i64 0] 25)) := (Below.refl _ _).alloc (Nat.le_refl _) _
  have hcon := concat_two 23 (h2.alloc (.cells #[.int .i64 0, .int .i64 0] 25)) (h.alloc (.cells #[.int .i64 0, .int .i64 0] 25)) (by omega) (w.heap.size + 1) (by simp)
  obtain ⟨all, hall⟩ : ∃ all, all = dict ++ data := ⟨_, rfl⟩
  have e1 := h.len
  have e2 := h2.len
  rw [bcells_length] at e1 e2
  have hN : n2 + n = all.length := by rw [hall, List.length_append, e1, e2]
  rw [hN, ← hall] at hcon
  rw [← hall]
  have hNle : all.length ≤ 1536 := by omega
  have hfN : n2 ≤ all.length := by omega
  have HCON := Lib.hid hcon
  clear hcon hN e1 e2 hall h h2
  have k1 : decide ((1024 : Int) < (n : Int)) = false := by simp; omega
  have k2 : decide ((512 : Int) < (n2 : Int)) = false := by simp; omega
  go_enter Try.func20, Try.ntmps20
  go_wp2_with fail
  refine HCON.out.mono ?_
  rintro e w1 ⟨Aa, ca, rfl, oa, ya⟩
  clear HCON
  have RA1 := Rd.own oa
  have X1 := X0.on ya
  have Y1 := y0.trans (ya.mono y0.size)
  have s1 := ya.size
  have s1' : w.heap.size + 1 ≤ w1.heap.size := by simpa using s1
  clear oa ya X0 y0 s1
  have hcm := Reads.capMax RA1
  have hcap := Reads.cap RA1
  unfold maxLen at hcm
  go_wp2_with (with_reducible refine wpList_make1 _ rfl _ _ 52 rfl 3 i0 _ 8 Try.underlying52 hi hz0 hz1 hz2 rfl _ _ _ _ (all.length + 1) rfl rfl ?b0 ?b1 ?b2 ?b3 ?_)
  case b0 => omega
  case b1 => omega
  case b2 => omega
  case b3 => unfold maxLen; omega
  intro w2 o2 y2 s2
  have X2 := X1.on y2
  have Y2 := Y1.trans (y2.mono Y1.size)
  have Z2 := y2
  clear X1 Y1
  go_wp2_with (with_reducible refine wpList_make1 _ rfl _ _ 52 rfl 3 i0 _ 8 Try.underlying52 hi hz0 hz1 hz2 rfl _ _ _ _ (all.length + 1) rfl rfl ?d0 ?d1 ?d2 ?d3 ?_)
  case d0 => omega
  case d1 => omega
  case d2 => omega
  case d3 => unfold maxLen; omega
  intro w3 o3 y3 s3
  have X3 := X2.on y3
  have Y3 := Y2.trans (y3.mono Y2.size)
  have Z3 := Z2.trans (y3.mono Z2.size)
  have o23 := own_on o2 y3
  clear X2 Y2 o2 Z2 y2
  go_wp2_with (with_reducible refine wpList_make_full _ rfl _ _ 42 rfl w3.heap.size 54 i1 _ 3 Try.underlying42 ti tz0 tz1 _ _ _ _ all.length rfl rfl rfl rfl ?f2 ?f3 (Nat.le_refl _) ?_)
  case f2 => rw [tz2]; omega
  case f3 => unfold maxLen; omega
  intro w4 o4 g4
  have y4 : Below w3.heap.size w3 w4 := (Below.refl _ _).grown g4 (Nat.le_refl _) (by simp)
  have s4 := (o4.lt _ rfl).2
  (try simp only [Value.cells] at o4)
  rw [madeTok] at o4
  have X4 := X3.on y4
  have Y4 := Y3.trans (y4.mono Y3.size)
  have Z4 := Z3.trans (y4.mono Z3.size)
  have o24 := own_on o23 y4
  have o34 := own_on o3 y4
  have zr : List.replicate (all.length + 1) (Value.int .i64 0) = ncells (List.replicate (all.length + 1) 0) := by simp [ncells]
  rw [zr] at o24 o34
  have hP : PRows w w1 w4 w1.heap.size w2.heap.size w3.heap.size all (List.replicate (all.length + 1) 0) (List.replicate (all.length + 1) 0) (List.replicate all.length ⟨0, 0, 0⟩) :=
    ⟨own_less o24 s1', own_less o34 (by omega), own_less o4 (by omega), X4, Y4, Z4, s2, s3⟩
  have HP := Lib.hid hP
  have HRA := Lib.hid (show Reads w1 w1.heap.size Aa all.length ca (bcells all) from RA1)
  clear hP o4 g4 y4 s4 RA1 X3 Y3 o23 X4 Y4 o24 o34 zr y3 o3 Z3 Z4
  obtain ⟨gs, hgs⟩ : ∃ g, g = w1.heap.size := ⟨_, rfl⟩
  obtain ⟨gl, hgl⟩ : ∃ g, g = w2.heap.size := ⟨_, rfl⟩
  obtain ⟨gb, hgb⟩ : ∃ g, g = w3.heap.size := ⟨_, rfl⟩
  rw [← hgs] at s1' s2 HP HRA ⊢
  rw [← hgl] at s2 s3 HP ⊢
  rw [← hgb] at s3 HP ⊢
  clear hgs hgl hgb hi ti hz0 hz1 hz2 tz0 tz1 tz2
  go_wp2_with fail
  go_loopw [11] (fun i wr => ∃ p : Nat, n2 ≤ p ∧ p ≤ all.length ∧ i = .int .i64 ((p : Int) - 1) ∧ ∃ S Ls Bs nn dd, PRows w w1 wr gs gl gb all S Ls Bs ∧ SameL all p S (p + 1) ∧ TabL gsz all p Ls Bs nn dd) (fun i _ => (intOf i + 1).toNat)
  case atStart => exact ⟨all.length, hfN, Nat.le_refl _, rfl, _, _, _, _, _, HP.out, SameL.start, TabL.start⟩
  case round =>
    obtain ⟨p, hp1, hp2, rfl, S, Ls, Bs, nn, dd, hP, hS, hT⟩ := hrel
    clear HP
    have HS := Lib.hid hS
    have HT := Lib.hid hT
    clear hS hT
    by_cases hlt : n2 < p
    · obtain ⟨i, rfl⟩ : ∃ i, p = i + 1 := ⟨p - 1, by omega⟩
      have hil : i < all.length := by omega
      have hin : n2 ≤ i := by omega
      rw [show (((i + 1 : Nat) : Int) - 1) = (i : Int) by omega]
      obtain ⟨b, off, rfl, hb, hc⟩ := (HRA.out.below hP.z).2.2.2 (by omega)
      have hci := hc i _ (bcells_get all i hil)
      obtain ⟨x, hx⟩ : ∃ x, x = all.getD i 0 := ⟨_, rfl⟩
      rw [← hx] at hci
      have HX := Lib.hid hx
      have i1 : (0 : Int) ≤ (i : Int) := by omega
      have i2 : (i : Int) < (all.length : Int) := by omega
      obtain ⟨t0, _, q0, q1, q2, z0, z1, z2⟩ := hP.bat i hil
      clear hc hx
      go_upto_region 14 with (fail)
      have hP2 := hP.setb i hil 0 0 ((x : Nat) : Int) (tk all i 0 0) ⟨rfl, rfl, by rw [HX.out]; rfl⟩
      generalize (((wr.setCell ⟨gb, i * 3, none⟩ (.int .i64 0)).setCell ⟨gb, i * 3 + 1, none⟩ (.int .i64 0)).setCell ⟨gb, i * 3 + 2, none⟩ (.int .u8 ((x : Nat) : Int))) = wa at hP2 ⊢
      clear hP q0 q1 q2 z0 z1 z2 hci
      have hv1 := HT.out.tab.le (all.length - (i + 1)) (i + 1) (Nat.le_refl _) (by omega)
      obtain ⟨v, hv⟩ : ∃ v, v = Ls.getD (i + 1) 0 := ⟨_, rfl⟩
      have hv2 : v ≤ 13824 := by rw [hv]; (try simp only at hv1); omega
      obtain ⟨l0, _⟩ := hP2.lat (i + 1) (by omega)
      obtain ⟨l1, l2⟩ := hP2.lat i (by omega)
      rw [← hv] at l0
      have HV := Lib.hid hv
      clear hv hv1
      go_upto_region 15 with (fail)
      have hP3 := hP2.setl i (9 + v) (9 + (v : Int)) (by omega)
      generalize (wa.setCell ⟨gl, i, none⟩ (.int .i64 (9 + (v : Int)))) = wb at hP3 ⊢
      clear hP2 l0 l1 l2
      have HP3 := Lib.hid hP3
      clear hP3
      go_wp2_with fail
      go_loopw [12, 13] (fun len d wr => ∃ D ln cc nn0 dd0 : Nat, ∃ S' : List Nat, 1 ≤ D ∧ D ≤ i + 1 ∧ 2 ≤ ln ∧ ln ≤ 1538 ∧ len = .int .i64 ln ∧ d = .int .i64 D ∧ PRows w w1 wr gs gl gb all S' (Ls.set i cc) (Bs.set i (tk all i nn0 dd0)) ∧
          SameL all i S' D ∧ (∀ d', 1 ≤ d' → d' < D → rep all i d' ≤ ln) ∧ Good gsz all (fun j => Ls.getD j 0) i (fun n' _ => n' ≤ ln) cc nn0 dd0) (fun _ d _ => (i + 1 - (intOf d).toNat))
      case atStart =>
        refine ⟨1, 2, _, 0, 0, _, Nat.le_refl _, by omega, Nat.le_refl _, by omega, rfl, rfl, HP3.out, HS.out.next (by omega), fun d' h1 h2 => absurd h2 (by omega), ?_⟩
        rw [HV.out]
        exact Good.start fun n' d' h1 h2 => by have := h1.1; omega
      case round =>
        obtain ⟨D, ln, cc, nn0, dd0, S', hD1, hD2, hl2, hl3, rfl, rfl, hP, hS', hrep, hG⟩ := hrel
        have HS' := Lib.hid hS'
        have HREP := Lib.hid hrep
        have HG := Lib.hid hG
        clear HP3 hS' hrep hG
        by_cases hDi : D ≤ i
        · obtain ⟨_, _, he, hb', hc⟩ := (HRA.out.below hP.z).2.2.2 (by omega)
          obtain ⟨rfl, rfl⟩ : b = _ ∧ off = _ := by injection he with he; injection he with h1 h2; exact ⟨h1, h2⟩
          have hc1 := hc i _ (bcells_get all i hil)
          have hc2 := hc (i - D) _ (bcells_get all (i - D) (by omega))
          rw [← HX.out] at hc1
          obtain ⟨y, hy⟩ : ∃ y, y = all.getD (i - D) 0 := ⟨_, rfl⟩
          rw [← hy] at hc2
          have HY := Lib.hid hy
          have j1 : (0 : Int) ≤ (i : Int) - (D : Int) := by omega
          have j2 : (i : Int) - (D : Int) < (all.length : Int) := by omega
          have j3 : ((i : Int) - (D : Int)).toNat = i - D := by omega
          have j4 : IntKind.i64.wrap ((i : Int) - (D : Int)) = (i : Int) - (D : Int) := IntWalk.i64_in _ (by omega)
          obtain ⟨l1, l2⟩ := hP.sat D (by omega)
          obtain ⟨q, hq⟩ : ∃ q, q = S'.getD D 0 := ⟨_, rfl⟩
          rw [← hq] at l1
          have HQ := Lib.hid hq
          clear hy hq hc he
          by_cases hxy : x = y
          · subst hxy
            have hne : (((x : Nat) : Int) != ((x : Nat) : Int)) = false := by simp
            have hR := Lib.hid (show rep all i D = q + 1 by rw [rep_yes hil (by rw [← HX.out, ← HY.out]), HQ.out, HS'.out.2.2 D (Nat.le_refl _) (by omega)])
            have hRle : q + 1 ≤ all.length - i := by rw [← hR.out]; exact rep_le
            go_wp2_with fail
            go_quiet (fail)
            go_wp2_with fail
            have hP4 := (hP.drewN nq).sets D (q + 1) ((q : Int) + 1) (by omega)
            generalize ((wr.drewN nq).setCell ⟨gs, D, none⟩ (.int .i64 ((q : Int) + 1))) = wc at hP4 ⊢
            have HS4 := Lib.hid (show SameL all i (S'.set D (q + 1)) (D + 1) by rw [HQ.out]; exact HS'.out.yes hD1 hDi hil (by rw [← HX.out, ← HY.out]))
            have HP4 := Lib.hid hP4
            clear hP hP4 l1 l2 hc1 hc2 hne
            go_loopw [12] (fun len wr => ∃ lm cc nn0 dd0 : Nat, 2 ≤ lm ∧ lm ≤ 1538 ∧ ln ≤ lm ∧ (lm = ln ∨ lm ≤ q + 1) ∧ len = .int .i64 lm ∧ PRows w w1 wr gs gl gb all (S'.set D (q + 1)) (Ls.set i cc) (Bs.set i (tk all i nn0 dd0)) ∧
                Good gsz all (fun j => Ls.getD j 0) i (fun n' _ => n' ≤ lm) cc nn0 dd0) (fun len _ => (q + 1 - (intOf len).toNat))
            case atStart => exact ⟨ln, cc, nn0, dd0, hl2, hl3, Nat.le_refl _, .inl rfl, rfl, HP4.out, HG.out⟩
            case round =>
              clear HP4 HG hl2 hl3
              obtain ⟨lm, cc, nn0, dd0, hl2, hl3, hl4, hl5, rfl, hP, hG⟩ := hrel
              have HG := Lib.hid hG
              have HL5 := Lib.hid hl5
              have hcc := hG.lit
              clear hG hl5
              rw [← HV.out] at hcc
              obtain ⟨l1, l2⟩ := hP.sat D (by omega)
              rw [getD_set_eq (by have := HS'.out.1; omega)] at l1
              by_cases hlq : lm < q + 1
              · have hcand := Lib.hid (show Cand all i (lm + 1) D from ⟨by omega, hD1, hDi, by rw [hR.out]; omega⟩)
                have hin1 : i + lm + 1 ≤ all.length := by omega
                obtain ⟨m0, _⟩ := hP.lat (i + lm + 1) (by omega)
                rw [getD_set_ne (by omega)] at m0
                obtain ⟨v2, hv2'⟩ : ∃ v2, v2 = Ls.getD (i + lm + 1) 0 := ⟨_, rfl⟩
                have hv3 := HT.out.tab.le (all.length - (i + lm + 1)) (i + lm + 1) (by omega) (by omega)
                have hv4 : v2 ≤ 13824 := by rw [hv2']; (try simp only at hv3); omega
                rw [← hv2'] at m0
                have HV2 := Lib.hid hv2'
                obtain ⟨c2', hc2'⟩ : ∃ c2', c2' = mcost gsz D (lm + 1) := ⟨_, rfl⟩
                have hcb : c2' ≤ 500 := by
                  rw [hc2']; unfold mcost gsz
                  have a := bitLen_le64 D (by omega)
                  have b := bitLen_le64 (lm + 1 - 2) (by omega)
                  omega
                have HC := Lib.hid hc2'
                clear hv2' hv3 hc2'
                obtain ⟨n0, n1⟩ := hP.lat i (by omega)
                rw [getD_set_eq (by have := HT.out.ll; omega)] at n0
                obtain ⟨t1, _, q0, q1, q2, z0, z1, z2⟩ := hP.bat i hil
                clear n0 n1 q0 q1 q2 z0 z1 z2
                go_upto_region 25 with (fail)
                have hPB := hP.alloc (.cells #[.int .i64 (D : Nat), .int .i64 ((lm : Int) + 1), .int .u8 0] 54)
                have TB := Three.new wr 54 (.int .i64 (D : Nat)) (.int .i64 ((lm : Int) + 1)) (.int .u8 0)
                have g1 := hP.lts.2
                have g2 := hP.ltl.2
                have g3 := hP.ltb.2
                generalize (wr.alloc (.cells #[.int .i64 (D : Nat), .int .i64 ((lm : Int) + 1), .int .u8 0] 54)) = wd at hPB TB ⊢
                clear hP l1 l2 m0
                obtain ⟨gt, hgt⟩ : ∃ gt, gt = wr.heap.size := ⟨_, rfl⟩
                rw [← hgt] at g1 g2 g3 TB ⊢
                clear hgt
                have b0 := TB.c0
                have b1 := TB.c1
                have b2 := TB.c2
                have m0 := (hPB.lat (i + lm + 1) (by omega)).1
                rw [getD_set_ne (by omega), ← HV2.out] at m0
                have u1 : IntKind.i64.wrap ((i : Int) + (lm : Int)) = (i : Int) + (lm : Int) := IntWalk.i64_in _ (by omega)
                have u2 : IntKind.i64.wrap ((i : Int) + (lm : Int) + 1) = (i : Int) + (lm : Int) + 1 := IntWalk.i64_in _ (by omega)
                have u3 : ((i : Int) + (lm : Int) + 1).toNat = i + lm + 1 := by omega
                have u4 : (0 : Int) ≤ (i : Int) + (lm : Int) + 1 := by omega
                have u5 : (i : Int) + (lm : Int) + 1 < (all.length : Int) + 1 := by omega
                have u6 : IntKind.i64.wrap ((c2' : Int) + (v2 : Int)) = (c2' : Int) + (v2 : Int) := IntWalk.i64_in _ (by omega)
                go_region_held3 (fun w' => w'.cell? ⟨gl, i + lm + 1, none⟩ = some (.int .i64 (v2 : Nat)) ∧ w'.cell? ⟨gt, 0, none⟩ = some (.int .i64 (D : Nat)) ∧ w'.cell? ⟨gt, 1, none⟩ = some (.int .i64 ((lm : Int) + 1)) ∧ w'.cell? ⟨gt, 2, none⟩ = some (.int .u8 0)) (go_keep) ((go_at_call 31; refine (lzcost_match D (lm + 1) 0 _ _ (c2' : Nat) rfl (by omega) hD1 (by omega) (by omega) (by omega) (by rw [HC.out]) _).mono ?_; rintro e w5 ⟨rfl, y5⟩; have PB5 := PRows.on (w := wd.drew) hPB.drew y5; have TB5 := Three.on (w := wd.drew) TB y5; have m5 := (PB5.lat (i + lm + 1) (by omega)).1; rw [getD_set_ne (by omega), ← HV2.out] at m5; have b3 := TB5.c0; have b4 := TB5.c1; have b5 := TB5.c2))
                clear u1 u2 u3 u4 u5 u6 b0 b1 b2 m0 m5 y5 hPB TB
                obtain ⟨n0, n1⟩ := PB5.lat i (by omega)
                rw [getD_set_eq (by have := HT.out.ll; omega)] at n0
                have hD13 : ∀ d', 1 ≤ d' → d' < D → rep all i d' ≤ lm := fun d' h1 h2 => by have := HREP.out d' h1 h2; omega
                have HD13 := Lib.hid hD13
                clear hD13
                by_cases hle : c2' + v2 ≤ cc
                · obtain ⟨t1, _, q0, q1, q2, z0, z1, z2⟩ := PB5.bat i hil
                  go_wp2_with fail
                  go_region
                  have PB6 := (PB5.setl i (c2' + v2) ((c2' : Int) + (v2 : Int)) (by omega)).setb i hil (D : Nat) ((lm : Int) + 1) 0 (tk all i (lm + 1) D) (by unfold tk; rw [if_neg (by omega)]; exact ⟨rfl, by show (((lm + 1 : Nat)) : Int) = (lm : Int) + 1; omega, rfl⟩)
                  rw [List.set_set, List.set_set] at PB6
                  have ecost : c2' + v2 = mcost gsz D (lm + 1) + Ls.getD (i + (lm + 1)) 0 := by rw [← HC.out, HV2.out, Nat.add_assoc]
                  have HEC := Lib.hid ecost
                  clear ecost q0 q1 q2 z0 z1 z2 n0 n1 PB5
                  go_wp2_with fail
                  go_roundw
                  case rel =>
                    refine ⟨lm + 1, c2' + v2, lm + 1, D, by omega, by omega, by omega, .inr (by omega), by go_num, PB6.drew, ?_⟩
                    have := HG.out.take (D := D) (fun a b h1 h2 h3 => gsz_mono h1 h2 (by omega)) hcand.out HD13.out (by show mcost gsz D (lm + 1) + Ls.getD (i + (lm + 1)) 0 ≤ cc; rw [← HEC.out]; exact hle)
                    rw [HEC.out]
                    exact this
                  case measure => simp [intOf]; omega
                · go_wp2_with fail
                  go_roundw
                  case rel =>
                    refine ⟨lm + 1, cc, nn0, dd0, by omega, by omega, by omega, .inr (by omega), by go_num, PB5, ?_⟩
                    have ecost : c2' + v2 = mcost gsz D (lm + 1) + Ls.getD (i + (lm + 1)) 0 := by rw [← HC.out, HV2.out, Nat.add_assoc]
                    exact HG.out.pass (D := D) (fun a b h1 h2 h3 => gsz_mono h1 h2 (by omega)) hcand.out HD13.out (by show cc < mcost gsz D (lm + 1) + Ls.getD (i + (lm + 1)) 0; rw [← ecost]; omega)
                  case measure => simp [intOf]; omega
              · go_wp2_with fail
                go_roundw
                case rel =>
                  refine ⟨D + 1, lm, cc, nn0, dd0, _, by omega, by omega, hl2, hl3, rfl, by go_num, hP, HS4.out, fun d' h1 h2 => ?_, HG.out⟩
                  rcases Nat.lt_or_ge d' D with h3 | h3
                  · have := HREP.out d' h1 h3; omega
                  · obtain rfl : d' = D := by omega
                    rw [hR.out]; omega
                case measure => simp [intOf]; omega
          · have hne : (((x : Nat) : Int) != ((y : Nat) : Int)) = true := by rw [bne_iff_ne]; omega
            go_wp2_with fail
            go_quiet (fail)
            go_wp2_with fail
            go_roundw
            case rel => exact ⟨D + 1, ln, cc, nn0, dd0, _, by omega, by omega, hl2, hl3, rfl, by go_num, (hP.drewN nq).sets D 0 0 rfl, HS'.out.no hD1 hDi hil (by rw [← HX.out, ← HY.out]; exact hxy), fun d' h1 h2 => by
              rcases Nat.lt_or_ge d' D with h3 | h3
              · exact HREP.out d' h1 h3
              · obtain rfl : d' = D := by omega
                rw [rep_no (by rw [← HX.out, ← HY.out]; exact hxy)]; omega, HG.out⟩
            case measure => simp [intOf]; omega
        · obtain rfl : D = i + 1 := by omega
          go_wp2_with fail
          go_roundw
          case rel => exact ⟨i, hin, by omega, by go_num, _, _, _, _, _, hP, HS'.out, HT.out.cons hil (HG.out.all_ fun d' h1 h2 => HREP.out d' h1 (by omega))⟩
          case measure => simp [intOf] <;> omega
    · obtain rfl : p = n2 := by omega
      obtain ⟨wx, hwx⟩ : ∃ wx : World, wx = wr := ⟨_, rfl⟩
      rw [← hwx] at hP ⊢
      clear hwx
      have HPX := Lib.hid hP
      clear hP
      obtain ⟨i1, ti, tz0, tz1, tz2⟩ := info_parts tok_info
      go_wp2_with fail
      go_loopw [16, 17] (fun o i wr => ∃ k m : Nat, ∃ A' c' done, p ≤ k ∧ k ≤ all.length ∧ m ≤ k ∧ i = .int .i64 k ∧ o = .slice A' m c' ∧ PRows w w1 wr gs gl gb all S Ls Bs ∧ Below wx.heap.size wx wr ∧ wr.ownsRow wx.heap.size 54 3 (.slice A' m c') m (tcells done) ∧
          done ++ tokens all nn dd k = tokens all nn dd p) (fun _ i _ => all.length - (intOf i).toNat)
      case atStart => exact ⟨p, 0, none, 0, [], Nat.le_refl _, hfN, Nat.zero_le _, rfl, rfl, HPX.out, Below.refl _ _, World.ownsRow_nil _ _ _ _, rfl⟩
      case round =>
        obtain ⟨k, m, A', c', done, hk1, hk2, hmk, rfl, rfl, hP, yx, ho, hd⟩ := hrel
        have HD := Lib.hid hd
        have HO := Lib.hid ho
        have yxs := yx.size
        clear hd ho
        by_cases hkl : k < all.length
        · have htok := HT.out.tok k hk1 hkl
          have hst := tokens_step (nn := nn) (dd := dd) hkl
          have hnn := HT.out.tab.nn0 hk1 hkl
          obtain ⟨t, ht, q0, q1, q2, z0, z1, z2⟩ := hP.bat k hkl
          obtain rfl : tokOf all nn dd k = t := by rw [htok] at ht; injection ht
          have hgb := hP.ltb
          have hxb : gb < wx.heap.size := HPX.out.ltb.2
          obtain ⟨n1, hn1⟩ : ∃ n1, n1 = nn k := ⟨_, rfl⟩
          obtain ⟨d1, hd1⟩ : ∃ d1, d1 = dd k := ⟨_, rfl⟩
          rw [← hn1] at hst hnn
          rw [← hd1] at hnn
          have hcs : n1 = 0 ∨ (3 ≤ n1 ∧ k + n1 ≤ all.length) := by
            rcases hnn with ⟨h0, _⟩ | ⟨h0, _⟩
            · exact .inl h0
            · have a := h0.2.2.2
              have b := rep_le (all := all) (i := k) (d := d1)
              exact .inr ⟨h0.1, by omega⟩
          have HST := Lib.hid hst
          clear htok ht hnn hst z0 z1 z2 s1' s2 s3
          obtain ⟨td, htd⟩ : ∃ td, td = (tokOf all nn dd k).d := ⟨_, rfl⟩
          obtain ⟨tn, htn⟩ : ∃ tn, tn = (tokOf all nn dd k).n := ⟨_, rfl⟩
          obtain ⟨tl, htl⟩ : ∃ tl, tl = (tokOf all nn dd k).lit := ⟨_, rfl⟩
          rw [← htd] at q0
          rw [← htn] at q1
          rw [← htl] at q2
          have HTC := Lib.hid (show tcell (tokOf all nn dd k) = [.int .i64 td, .int .i64 tn, .int .u8 (tl : Nat)] by rw [htd, htn, htl]; rfl)
          have htn2 : tn = (n1 : Nat) := by
            rw [htn, hn1]; unfold tokOf
            split
            · rename_i h0; rw [h0]; rfl
            · rfl
          subst htn2
          clear htd htn htl hn1 hd1
          go_upto_region 31 with (at_builtin; refine wpList_tok1 _ rfl _ _ 42 rfl wx.heap.size 54 i1 _ 24 Try.underlying42 ti tz0 tz1 tz2 rfl _ _ _ rfl HO.out _ _ _ (tcells_one [⟨td, (n1 : Nat), tl⟩]) rfl ?g1 ?g2 yxs ?_)
          case g1 => unfold maxLen; omega
          case g2 => omega
          intro A5 c5 w5 ho5 hg5
          have hrow : ∀ g, (Value.slice A' m c').ownBlock = some g → gb < g := fun g hg => by have := (HO.out.lt g hg).1; omega
          have hP5 := hP.grown hg5 hrow
          have y5 := yx.grown hg5 yxs (fun g hg => (HO.out.lt g hg).1)
          rw [← HTC.out] at ho5
          have HO5 := Lib.hid (show w5.ownsRow wx.heap.size 54 3 (.slice A5 (m + 1) c5) (m + 1) (tcells (done ++ [tokOf all nn dd k])) by rw [tcells_append]; simpa [tcells] using ho5)
          have hq5 : w5.cell? ⟨gb, k * 3 + 1, none⟩ = some (.int .i64 (n1 : Nat)) := (World.cell?_of_block (hg5.block gb (by omega) (fun e => by have := hrow gb e.symm; omega))).trans q1
          clear ho5 hg5 hrow q0 q1 q2 hP ti tz0 tz1 tz2 yx
          rcases hcs with rfl | ⟨hn3, hn4⟩
          · go_wp2_with fail
            go_roundw
            case rel => exact ⟨k + 1, m + 1, A5, c5, _, by omega, by omega, by omega, by go_num, rfl, hP5, y5, HO5.out, by rw [← HD.out, HST.out, List.append_assoc]; rfl⟩
            case measure => simp [intOf] <;> omega
          · have hmx : max ((n1 : Nat) : Int) 1 = (n1 : Nat) := by omega
            go_wp2_with fail
            go_roundw
            case rel => exact ⟨k + n1, m + 1, A5, c5, _, by omega, by omega, by omega, by go_num, rfl, hP5, y5, HO5.out, by rw [← HD.out, HST.out, List.append_assoc, show max n1 1 = n1 by omega]; rfl⟩
            case measure => simp [intOf] <;> omega
        · obtain rfl : k = all.length := by omega
          obtain ⟨f0, f1, f2, f3, f4⟩ := hP.x.facts
          have e : done = tokens all nn dd p := by
            have := HD.out
            rw [tokens_end (Nat.le_refl _), List.append_nil] at this
            exact this
          have HE := Lib.hid e
          clear e
          have r0 := ((hP.x.set0 (.int .i64 0)).set1 (.int .i64 0)).c0
          have r1 := ((hP.x.set0 (.int .i64 0)).set1 (.int .i64 0)).c1
          have HR0 := Lib.hid r0
          have HR1 := Lib.hid r1
          clear r0 r1
          go_wp2
          have r0 := HR0.out
          have r1 := HR1.out
          refine bodyPost_ret (v := .tuple #[.slice A' m c', .agg #[.int .i64 0, .int .i64 0]]) (by simp [results, Try.results20, go_sem, r0, r1]) rfl ⟨_, nn, dd, A', m, c', rfl, HT.out.tab, ?_, (hP.y.setCell (Nat.le_refl _) _).setCell (Nat.le_refl _) _⟩
          rw [← HE.out]
          have hne : (Value.slice A' m c').ownBlock ≠ some w.heap.size := fun e => by
            have := (HO.out.lt _ e).1
            have := hP.y.size
            have := HPX.out.x.lt
            omega
          exact own_less (own_far_any (own_far_any HO.out (p := ⟨w.heap.size, 0, none⟩) hne _) (p := ⟨w.heap.size, 1, none⟩) hne _) HPX.out.y.size
end PB
end Go.Proofs.Ytnahmiglogddaaa
