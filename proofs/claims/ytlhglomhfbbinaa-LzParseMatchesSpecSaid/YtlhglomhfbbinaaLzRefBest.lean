/-
  The reference's Repeats and Cheapest: the cheapest tokens, found in another order.
-/
import Derived.Test.YtlhglomhfbbinaaLzTok3
import Derived.Test.YtlhglomhfbbinaaSlices
import Derived.Test.YtlhglomhfbbinaaBitsRef3
import Derived.Deep.RegionHeld3
import Derived.Deep.DrawnRows
import Derived.BigRegion
import Derived.Deep.Cut
namespace Go.Proofs.Ytlhglomhfbbinaa
open Go.RowKit
attribute [local go_sem ↓] Go.wp_at_zero Go.wp_at_succ
set_option linter.unusedVariables false
set_option linter.unusedSimpArgs false
namespace PB
set_option maxRecDepth 100000 in
set_option maxHeartbeats 1600000 in
theorem repeats_any {A : Option Addr} {N c : Nat} {all : List Nat} {i d : Nat} {w : World} (h : Rd w A N c (bcells all)) (hN : N = all.length) (hd : 1 ≤ d) (hdi : d ≤ i) (hi : i ≤ all.length) (ha : all.length ≤ 1536) :
    Calls Try.prog 37 #[.slice A N c, .int .i64 (i : Nat), .int .i64 (d : Nat)] w fun e w' => e = .returned (.int .i64 (rep all i d : Nat)) ∧ Below w.heap.size w w' := by
  obtain ⟨r, hr⟩ : ∃ r, r = rep all i d := ⟨_, rfl⟩
  rw [← hr]
  have HR := Lib.hid hr
  have hNl : N ≤ 1536 := by omega
  have HN := Lib.hid hN
  have HH := Lib.hid h
  have hcm := Reads.capMax h
  have hcap := Reads.cap h
  have e0 : i ≤ N := by omega
  clear hr hN h
  go_enter Try.func37, Try.ntmps37
  go_wp2_with fail
  go_loopw [7] (fun n wr => ∃ k : Nat, i + k ≤ N ∧ n = .int .i64 k ∧ r = k + rep all (i + k) d ∧ Below w.heap.size w wr) (fun n _ => N - (intOf n).toNat)
  case atStart => exact ⟨0, e0, rfl, by rw [HR.out]; simp, Below.refl _ _⟩
  case round =>
    obtain ⟨k, hk, rfl, he, yr⟩ := hrel
    have HE := Lib.hid he
    clear he
    have v1 : IntKind.i64.wrap ((i : Int) + (k : Int)) = (i : Int) + (k : Int) := IntWalk.i64_in _ (by omega)
    by_cases hlt : i + k < N
    · obtain ⟨b, off, rfl, hb, hc⟩ := (HH.out.on yr).2.2.2 (by omega)
      have hc1 := hc (i + k) _ (bcells_get all (i + k) (by have := HN.out; omega))
      have hc2 := hc (i + k - d) _ (bcells_get all (i + k - d) (by have := HN.out; omega))
      obtain ⟨x, hx⟩ : ∃ x, x = all.getD (i + k) 0 := ⟨_, rfl⟩
      obtain ⟨y, hy⟩ : ∃ y, y = all.getD (i + k - d) 0 := ⟨_, rfl⟩
      rw [← hx] at hc1
      rw [← hy] at hc2
      have HX := Lib.hid hx
      have HY := Lib.hid hy
      clear hc hx hy
      have g0 : decide ((i : Int) + (k : Int) < (N : Int)) = true := by simp; omega
      have v2 : (0 : Int) ≤ (i : Int) + (k : Int) := by omega
      have v3 : (i : Int) + (k : Int) < (N : Int) := by omega
      have v4 : ((i : Int) + (k : Int)).toNat = i + k := by omega
      have z1 : IntKind.i64.wrap ((i : Int) + (k : Int) - (d : Int)) = (i : Int) + (k : Int) - (d : Int) := IntWalk.i64_in _ (by omega)
      have z2 : (0 : Int) ≤ (i : Int) + (k : Int) - (d : Int) := by omega
      have z3 : (i : Int) + (k : Int) - (d : Int) < (N : Int) := by omega
      have z4 : ((i : Int) + (k : Int) - (d : Int)).toNat = i + k - d := by omega
      by_cases hxy : x = y
      · subst hxy
        have hE1 : (((x : Nat) : Int) == ((x : Nat) : Int)) = true := by simp
        go_wp2_with fail
        go_quiet (fail)
        go_wp2_with fail
        go_roundw
        case rel =>
          refine ⟨k + 1, by omega, by go_num, ?_, belowN yr nq⟩
          rw [HE.out, rep_yes (by have := HN.out; omega) (by rw [← HX.out, ← HY.out]), Nat.add_assoc i k 1]
          omega
        case measure => simp [intOf] <;> omega
      · have hE1 : (((x : Nat) : Int) == ((y : Nat) : Int)) = false := by rw [beq_eq_false_iff_ne]; omega
        have HE2 := Lib.hid (show r = k by rw [HE.out, rep_no (by rw [← HX.out, ← HY.out]; exact hxy)]; rfl)
        go_wp2_with fail
        go_quiet (fail)
        go_wp2
        go_ret
        exact ⟨by rw [HE2.out]; rfl, belowN yr nq⟩
    · have g0 : decide ((i : Int) + (k : Int) < (N : Int)) = false := by simp; omega
      have HE2 := Lib.hid (show r = k by rw [HE.out, rep_end (by have := HN.out; omega)]; rfl)
      go_wp2_with fail
      go_quiet (fail)
      go_wp2
      go_ret
      exact ⟨by rw [HE2.out]; rfl, belowN yr nq⟩
theorem drop_set_at {α : Type} (l : List α) (f i : Nat) (x : α) : (l.set (f + i) x).drop f = (l.drop f).set i x := by
  apply List.ext_getElem?
  intro j
  simp only [List.getElem?_drop, List.getElem?_set, List.length_drop]
  by_cases e : i = j
  · subst e
    by_cases h : f + i < l.length
    · rw [if_pos rfl, if_pos rfl, if_pos h, if_pos (by omega)]
    · rw [if_pos rfl, if_pos rfl, if_neg h, if_neg (by omega)]
  · rw [if_neg e, if_neg (by omega)]
theorem getD_drop_at (l : List Nat) (f i : Nat) : (l.drop f).getD i 0 = l.getD (f + i) 0 := by
  simp [List.getD_eq_getElem?_getD, List.getElem?_drop]
/-- The rows of Cheapest: cost and best; what lay below them is as it was in w1. -/
structure CRows (w0 w1 w : World) (gl gb f n : Nat) (Ls : List Nat) (Bs : List Tok) : Prop where
  l : w.ownsRow w0.heap.size 3 1 (.slice (some ⟨gl, 0, none⟩) (n + 1) (n + 1)) (n + 1) (ncells (Ls.drop f))
  b : w.ownsRow w0.heap.size 37 3 (.slice (some ⟨gb, 0, none⟩) n n) n (tcells (Bs.drop f))
  y : Below w0.heap.size w0 w
  z : Below gl w1 w
  o : gl < gb
section
variable {w0 w1 w w' : World} {gl gb f n : Nat} {Ls : List Nat} {Bs : List Tok}
theorem CRows.ltl (h : CRows w0 w1 w gl gb f n Ls Bs) : w0.heap.size ≤ gl ∧ gl < w.heap.size := h.l.lt _ rfl
theorem CRows.ltb (h : CRows w0 w1 w gl gb f n Ls Bs) : w0.heap.size ≤ gb ∧ gb < w.heap.size := h.b.lt _ rfl
theorem CRows.on (h : CRows w0 w1 w gl gb f n Ls Bs) (hb : Below w.heap.size w w') : CRows w0 w1 w' gl gb f n Ls Bs :=
  ⟨own_on h.l hb, own_on h.b hb, h.y.trans (hb.mono h.y.size), h.z.trans (hb.mono (by have := h.ltl; omega)), h.o⟩
theorem CRows.drew (h : CRows w0 w1 w gl gb f n Ls Bs) : CRows w0 w1 w.drew gl gb f n Ls Bs := ⟨h.l, h.b, belowD h.y, belowD h.z, h.o⟩
theorem CRows.alloc (h : CRows w0 w1 w gl gb f n Ls Bs) (o : Obj) : CRows w0 w1 (w.alloc o) gl gb f n Ls Bs := h.on ((Below.refl _ _).alloc (Nat.le_refl _) o)
theorem CRows.setl (h : CRows w0 w1 w gl gb f n Ls Bs) (i x : Nat) (xi : Int) (hx : xi = (x : Nat)) : CRows w0 w1 (w.setCell ⟨gl, i, none⟩ (.int .i64 xi)) gl gb f n (Ls.set (f + i) x) Bs := by
  subst hx
  have hx := h.ltl
  have ho := h.o
  have e : ncells ((Ls.set (f + i) x).drop f) = (ncells (Ls.drop f)).set i (.int .i64 (x : Nat)) := by rw [drop_set_at]; simp [ncells, List.map_set]
  exact ⟨by rw [e]; exact (h.l.stored i _).1, own_far h.b (by show gl ≠ gb; omega) _, h.y.setCell (by show w0.heap.size ≤ gl; omega) _, h.z.setCell (by show gl ≤ gl; omega) _, h.o⟩
theorem CRows.setb (h : CRows w0 w1 w gl gb f n Ls Bs) (i : Nat) (hi : i < n) (d m lit : Int) (t : Tok) (ht : t.d = d ∧ t.n = m ∧ ((t.lit : Nat) : Int) = lit) :
    CRows w0 w1 (((w.setCell ⟨gb, i * 3, none⟩ (.int .i64 d)).setCell ⟨gb, i * 3 + 1, none⟩ (.int .i64 m)).setCell ⟨gb, i * 3 + 2, none⟩ (.int .u8 lit)) gl gb f n Ls (Bs.set (f + i) t) := by
  obtain ⟨rfl, rfl, rfl⟩ := ht
  have hx := h.ltb
  have ho := h.o
  have hl := h.b.1
  rw [tcells_length] at hl
  have e2 : gb ≠ gl := by omega
  have e4 : w0.heap.size ≤ gb := by omega
  have e5 : gl ≤ gb := by omega
  refine ⟨own_far (own_far (own_far h.l e2 _) e2 _) e2 _, ?_, ((h.y.setCell e4 _).setCell e4 _).setCell e4 _, ((h.z.setCell e5 _).setCell e5 _).setCell e5 _, h.o⟩
  rw [drop_set_at, ← tcells_set (Bs.drop f) i t (by omega)]
  exact (((h.b.stored (i * 3) _).1.stored (i * 3 + 1) _).1.stored (i * 3 + 2) _).1
theorem CRows.grown (h : CRows w0 w1 w gl gb f n Ls Bs) {row : Option Nat} (hg : w.grownBy w' row) (hr : ∀ g, row = some g → gb < g) : CRows w0 w1 w' gl gb f n Ls Bs := by
  have ho := h.o
  have a2 := h.ltl
  have a3 := h.ltb
  have key : ∀ q, q ≤ gb → some q ≠ row := fun q hq e => by have := hr q e.symm; omega
  have kb : ∀ {base e size n c xs g}, w.ownsRow base e size (.slice (some ⟨g, 0, none⟩) n c) n xs → g ≤ gb → w'.ownsRow base e size (.slice (some ⟨g, 0, none⟩) n c) n xs := by
    intro base e size n c xs g hw hq
    rcases hw.2 with ⟨q1, _⟩ | ⟨g', cap, cur, q1, q2, q3, q4⟩
    · cases q1
    · injection q1 with q1 q5 q6
      injection q1 with q1
      injection q1 with q1
      subst q1 q6
      refine ⟨hw.1, .inr ⟨g, c, cur, rfl, q2, ?_, q4⟩⟩
      have hlt : g < w.heap.size := by
        rcases Nat.lt_or_ge g w.heap.size with h | h
        · exact h
        · rw [Array.getElem?_eq_none h] at q3; cases q3
      exact (hg.block g hlt (key g hq)).trans q3
  refine ⟨kb h.l (by omega), kb h.b (Nat.le_refl _), h.y.grown hg h.y.size (fun g hq => by have := hr g hq; omega), h.z.grown hg (by omega) (fun g hq => by have := hr g hq; omega), h.o⟩
/-- What is read and written at i of cost; at i of best. -/
theorem CRows.lat (h : CRows w0 w1 w gl gb f n Ls Bs) (i : Nat) (hi : i ≤ n) : w.cell? ⟨gl, i, none⟩ = some (.int .i64 (Ls.getD (f + i) 0 : Nat)) ∧ w.frozen? ⟨gl, i, none⟩ = false := by
  have hl := h.l.1
  rw [ncells_length] at hl
  refine ⟨?_, h.l.frozenAt i⟩
  rw [h.l.cellAt i (by omega), ncells_get _ _ (by omega), getD_drop_at]
theorem CRows.bat (h : CRows w0 w1 w gl gb f n Ls Bs) (i : Nat) (hi : i < n) : ∃ t, Bs[f + i]? = some t ∧ w.cell? ⟨gb, i * 3, none⟩ = some (.int .i64 t.d) ∧ w.cell? ⟨gb, i * 3 + 1, none⟩ = some (.int .i64 t.n) ∧ w.cell? ⟨gb, i * 3 + 2, none⟩ = some (.int .u8 (t.lit : Nat)) ∧
    w.frozen? ⟨gb, i * 3, none⟩ = false ∧ w.frozen? ⟨gb, i * 3 + 1, none⟩ = false ∧ w.frozen? ⟨gb, i * 3 + 2, none⟩ = false := by
  have hl := h.b.1
  rw [tcells_length] at hl
  have e : (Bs.drop f)[i]? = some ((Bs.drop f)[i]'(by omega)) := List.getElem?_eq_getElem (by omega)
  obtain ⟨q1, q2, q3⟩ := tcells_get (Bs.drop f) i _ e
  exact ⟨_, by rw [← List.getElem?_drop]; exact e, by rw [h.b.cellAt _ (by omega), q1], by rw [h.b.cellAt _ (by omega), q2], by rw [h.b.cellAt _ (by omega), q3], h.b.frozenAt _, h.b.frozenAt _, h.b.frozenAt _⟩
end
/-- What Cheapest hands back. -/
def CheapOut (all : List Nat) (f : Nat) (w : World) (e : Ending) (w' : World) : Prop :=
  ∃ L nn dd A' m c', e = .returned (.slice A' m c') ∧ Tab gsz all f L nn dd ∧ w'.ownsRow w.heap.size 37 3 (.slice A' m c') m (tcells (tokens all nn dd f)) ∧ Below w.heap.size w w'
set_option maxRecDepth 100000 in
set_option maxHeartbeats 6400000 in
theorem cheapest_any {A : Option Addr} {n c : Nat} {data : List Nat} {A2 : Option Addr} {n2 c2 : Nat} {dict : List Nat} {w : World} (h : Rd w A n c (bcells data)) (h2 : Rd w A2 n2 c2 (bcells dict)) (hn : n ≤ 1024) (hn2 : n2 ≤ 512) :
    Calls Try.prog 15 #[.slice A n c, .slice A2 n2 c2] w (CheapOut (dict ++ data) n2 w) := by
  obtain ⟨j0, bi, bz0, bz1, bz2⟩ := info_parts byte_info
  obtain ⟨i0, hi, hz0, hz1, hz2⟩ := info_parts int_info
  obtain ⟨i1, ti, tz0, tz1, tz2⟩ := info_parts tok_info
  have hcap := Reads.cap h
  have hcm := Reads.capMax h
  unfold maxLen at hcm
  obtain ⟨all, hall⟩ : ∃ all, all = dict ++ data := ⟨_, rfl⟩
  have e1 := h.len
  have e2 := h2.len
  rw [bcells_length] at e1 e2
  have hN : n2 + n = all.length := by rw [hall, List.length_append, e1, e2]
  rw [← hall]
  have HBC := Lib.hid (show bcells dict ++ bcells data = bcells all by rw [hall]; simp [bcells])
  have HDA := Lib.hid (show ∀ i, data.getD i 0 = all.getD (n2 + i) 0 by
    intro i
    rw [hall, List.getD_eq_getElem?_getD, List.getD_eq_getElem?_getD, List.getElem?_append_right (by omega), e2, Nat.add_sub_cancel_left])
  have HE1 := Lib.hid e1
  have HH := Lib.hid h
  have hNle : all.length ≤ 1536 := by omega
  have hfN : n2 ≤ all.length := by omega
  have HN := Lib.hid hN
  clear e1 e2 hall h hN
  have z0 : 0 + n2 = n2 := Nat.zero_add n2
  go_enter Try.func15, Try.ntmps15
  go_wp2_with (at_builtin; refine wpList_append_any _ rfl _ _ _ rfl w.heap.size 5 j0 _ 1 Try.underlying22 bi bz0 bz1 bz2 rfl _ _ _ rfl (World.ownsRow_nil _ _ _ _) _ _ n2 c2 _ rfl h2 (bcells_one _) ?g1 ?g2 (Nat.le_refl _) ?_)
  case g1 => unfold maxLen; omega
  case g2 => omega
  intro A3 c3 w3 o3 g3 a3
  have Y3 := (Below.refl w.heap.size w).grown g3 (Nat.le_refl _) (fun g hg => by cases hg)
  (try simp only [Nat.zero_add, List.nil_append] at o3)
  have HO3 := Lib.hid o3
  have D3 := HH.out.on Y3
  have Y3s := Y3.size
  clear o3 g3 a3 h2
  go_wp2_with (at_builtin; refine wpList_append_any _ rfl _ _ _ rfl w.heap.size 5 j0 _ 1 Try.underlying22 bi bz0 bz1 bz2 rfl _ _ _ rfl (by have := HO3.out; (try rw [z0] at this); (try rw [z0]); exact this) _ _ n c _ rfl D3 (bcells_one _) ?g1 ?g2 Y3s ?_)
  case g1 => unfold maxLen; omega
  case g2 => omega
  intro Aa ca w1 o4 g4 a4
  have Y4 := below_grown Y3 (by have := HO3.out; (try rw [z0] at this); (try rw [z0]); exact this) g4 (Nat.le_refl _) Y3s
  rw [HBC.out] at o4
  have RA := Rd.own o4
  have hRA : Rd w1 Aa all.length ca (bcells all) := by have := RA; (try rw [z0] at this); rwa [HN.out] at this
  have HRA := Lib.hid (show Reads w1 w1.heap.size Aa all.length ca (bcells all) from hRA)
  have hca := Reads.cap hRA
  have hcam := Reads.capMax hRA
  unfold maxLen at hcam
  clear o4 g4 a4 RA hRA D3 HO3 Y3 Y3s
  (try simp only [Nat.zero_add])
  try rw [HN.out]
  have s1 := Y4.size
  go_wp2_with (with_reducible refine wpList_make1 _ rfl _ _ 48 rfl 3 i0 _ 8 Try.underlying48 hi hz0 hz1 hz2 rfl _ _ _ _ (n + 1) rfl rfl ?b0 ?b1 ?b2 ?b3 ?_)
  case b0 => omega
  case b1 => omega
  case b2 => omega
  case b3 => unfold maxLen; omega
  intro w2 o2 y2 s2
  go_wp2_with (with_reducible refine wpList_make_full _ rfl _ _ 23 rfl w2.heap.size 37 i1 _ 3 Try.underlying23 ti tz0 tz1 _ _ _ _ n rfl rfl rfl rfl ?f2 ?f3 (Nat.le_refl _) ?_)
  case f2 => rw [tz2]; omega
  case f3 => unfold maxLen; omega
  intro w4 o4 g4
  have y4 : Below w2.heap.size w2 w4 := (Below.refl _ _).grown g4 (Nat.le_refl _) (by simp)
  (try simp only [Value.cells] at o4)
  rw [madeTok] at o4
  have o24 := own_on o2 y4
  have zr : List.replicate (n + 1) (Value.int .i64 0) = ncells ((List.replicate (all.length + 1) 0).drop n2) := by
    rw [List.drop_replicate, show all.length + 1 - n2 = n + 1 by have := HN.out; omega]; simp [ncells]
  have zb : (List.replicate n (⟨0, 0, 0⟩ : Tok)) = (List.replicate all.length ⟨0, 0, 0⟩).drop n2 := by
    rw [List.drop_replicate, show all.length - n2 = n by have := HN.out; omega]
  rw [zr] at o24
  rw [zb] at o4
  have HP := Lib.hid (show CRows w w1 w4 w1.heap.size w2.heap.size n2 n (List.replicate (all.length + 1) 0) (List.replicate all.length ⟨0, 0, 0⟩) from
    ⟨own_less o24 s1, own_less o4 (by omega), Y4.trans ((y2.trans (y4.mono y2.size)).mono s1), y2.trans (y4.mono y2.size), s2⟩)
  clear o4 g4 y4 o24 zr zb y2 o2
  obtain ⟨gl, hgl⟩ : ∃ g, g = w1.heap.size := ⟨_, rfl⟩
  obtain ⟨gb, hgb⟩ : ∃ g, g = w2.heap.size := ⟨_, rfl⟩
  rw [← hgl] at s1 s2 HP HRA ⊢
  rw [← hgb] at s2 HP ⊢
  clear hgl hgb hi ti hz0 hz1 hz2 tz0 tz1 tz2 bi bz0 bz1 bz2
  go_wp2_with fail
  go_loopw [8] (fun i wr => ∃ p : Nat, p ≤ n ∧ i = .int .i64 ((p : Int) - 1) ∧ ∃ Ls Bs nn dd, CRows w w1 wr gl gb n2 n Ls Bs ∧ TabL gsz all (n2 + p) Ls Bs nn dd) (fun i _ => (intOf i + 1).toNat)
  case atStart => exact ⟨n, Nat.le_refl _, rfl, _, _, _, _, HP.out, by rw [HN.out]; exact TabL.start⟩
  case round =>
    obtain ⟨p, hp2, rfl, Ls, Bs, nn, dd, hP, hT⟩ := hrel
    clear HP
    have HT := Lib.hid hT
    clear hT
    by_cases hlt : 0 < p
    · obtain ⟨i, rfl⟩ : ∃ i, p = i + 1 := ⟨p - 1, by omega⟩
      have hil : i < n := by omega
      have hil2 : n2 + i < all.length := by have := HN.out; omega
      rw [show (((i + 1 : Nat) : Int) - 1) = (i : Int) by omega]
      obtain ⟨b, off, rfl, hb, hc⟩ := (HH.out.on hP.y).2.2.2 (by omega)
      have hci := hc i _ (bcells_get data i (by have := HE1.out; omega))
      rw [HDA.out] at hci
      obtain ⟨x, hx⟩ : ∃ x, x = all.getD (n2 + i) 0 := ⟨_, rfl⟩
      rw [← hx] at hci
      have HX := Lib.hid hx
      have k1 : (0 : Int) ≤ (i : Int) := by omega
      have k2 : (i : Int) < (n : Int) := by omega
      obtain ⟨t0, -, q0, q1, q2, z0', z1, z2⟩ := hP.bat i hil
      clear hc hx
      go_upto_region 11 with (fail)
      have hP2 := hP.setb i hil 0 0 ((x : Nat) : Int) (tk all (n2 + i) 0 0) ⟨rfl, rfl, by rw [HX.out]; rfl⟩
      generalize (((wr.setCell ⟨gb, i * 3, none⟩ (.int .i64 0)).setCell ⟨gb, i * 3 + 1, none⟩ (.int .i64 0)).setCell ⟨gb, i * 3 + 2, none⟩ (.int .u8 ((x : Nat) : Int))) = wa at hP2 ⊢
      clear hP q0 q1 q2 z0' z1 z2 hci
      have hv1 := HT.out.tab.le (all.length - (n2 + (i + 1))) (n2 + (i + 1)) (Nat.le_refl _) (by omega)
      obtain ⟨v, hv⟩ : ∃ v, v = Ls.getD (n2 + (i + 1)) 0 := ⟨_, rfl⟩
      have hv2 : v ≤ 13824 := by rw [hv]; (try simp only at hv1); omega
      obtain ⟨l0, -⟩ := hP2.lat (i + 1) (by omega)
      obtain ⟨l1, l2⟩ := hP2.lat i (by omega)
      rw [← hv] at l0
      have HV := Lib.hid hv
      clear hv hv1
      go_upto_region 12 with (fail)
      have hP3 := hP2.setl i (9 + v) (9 + (v : Int)) (by omega)
      generalize (wa.setCell ⟨gl, i, none⟩ (.int .i64 (9 + (v : Int)))) = wb at hP3 ⊢
      clear hP2 l0 l1 l2
      have HP3 := Lib.hid hP3
      clear hP3
      go_wp2_with fail
      go_loopw [10] (fun d wr => ∃ D cc nn0 dd0 : Nat, D ≤ n2 + i ∧ d = .int .i64 D ∧ CRows w w1 wr gl gb n2 n (Ls.set (n2 + i) cc) (Bs.set (n2 + i) (tk all (n2 + i) nn0 dd0)) ∧
          Good gsz all (fun j => Ls.getD j 0) (n2 + i) (Seen D 3) cc nn0 dd0) (fun d _ => (intOf d).toNat)
      case atStart =>
        refine ⟨n2 + i, _, 0, 0, Nat.le_refl _, by go_num, HP3.out, ?_⟩
        rw [HV.out]
        exact Good.rstart
      case round =>
        obtain ⟨D, cc, nn0, dd0, hDi, rfl, hP, hG⟩ := hrel
        have HG := Lib.hid hG
        clear HP3 hG
        by_cases hD1 : 1 ≤ D
        · obtain ⟨R, hR⟩ : ∃ R, R = rep all (n2 + i) D := ⟨_, rfl⟩
          have hRle : R ≤ all.length - (n2 + i) := by rw [hR]; exact rep_le
          have HR := Lib.hid hR
          have HREP := Lib.hid (repeats_any (i := n2 + i) (d := D) (w := wr) (((HRA.out.below hP.z).more (by have := hP.ltl; omega))) rfl hD1 hDi (by omega) hNle)
          rw [← hR] at HREP
          clear hR
          go_wp2_with fail
          have cc0 := HREP.out
          rw [show (((n2 + i : Nat)) : Int) = (n2 : Int) + (i : Int) by omega] at cc0
          refine cc0.mono ?_
          clear cc0 HREP
          rintro e w5 ⟨rfl, y5⟩
          have HP5 := Lib.hid (hP.on y5)
          clear hP y5
          go_wp2_with fail
          go_loopw [12] (fun m wr => ∃ m' cc nn0 dd0 : Nat, 3 ≤ m' ∧ (m' = 3 ∨ m' ≤ R + 1) ∧ m = .int .i64 m' ∧ CRows w w1 wr gl gb n2 n (Ls.set (n2 + i) cc) (Bs.set (n2 + i) (tk all (n2 + i) nn0 dd0)) ∧
              Good gsz all (fun j => Ls.getD j 0) (n2 + i) (Seen D m') cc nn0 dd0) (fun m _ => R + 1 - (intOf m).toNat)
          case atStart => exact ⟨3, cc, nn0, dd0, Nat.le_refl _, .inl rfl, rfl, HP5.out, HG.out⟩
          case round =>
            clear HP5 HG
            obtain ⟨m, cc, nn0, dd0, hm3, hmR, rfl, hP, hG⟩ := hrel
            have HG := Lib.hid hG
            have HMR := Lib.hid hmR
            have hcc := hG.lit
            clear hG hmR
            rw [show n2 + i + 1 = n2 + (i + 1) from rfl, ← HV.out] at hcc
            by_cases hmr : m ≤ R
            · have hcand := Lib.hid (show Cand all (n2 + i) m D from ⟨by omega, hD1, hDi, by rw [← HR.out]; omega⟩)
              have him : i + m ≤ n := by have := HN.out; omega
              obtain ⟨m0, -⟩ := hP.lat (i + m) him
              rw [getD_set_ne (by omega)] at m0
              obtain ⟨v2, hv2'⟩ : ∃ v2, v2 = Ls.getD (n2 + (i + m)) 0 := ⟨_, rfl⟩
              have hv3 := HT.out.tab.le (all.length - (n2 + (i + m))) (n2 + (i + m)) (by omega) (by have := HN.out; omega)
              have hv4 : v2 ≤ 13824 := by rw [hv2']; (try simp only at hv3); omega
              rw [← hv2'] at m0
              have HV2 := Lib.hid hv2'
              obtain ⟨G1, hG1⟩ : ∃ G, G = gsz D := ⟨_, rfl⟩
              obtain ⟨G2, hG2⟩ : ∃ G, G = gsz (m - 2) := ⟨_, rfl⟩
              have hg1 : G1 ≤ 22 := by rw [hG1]; unfold gsz; have := Lib.bitLen_le D 11 (by decide) (by omega); omega
              have hg2 : G2 ≤ 22 := by rw [hG2]; unfold gsz; have := Lib.bitLen_le (m - 2) 11 (by decide) (by omega); omega
              have C1 := Lib.hid (fun W => gammaref_any D ((D : Nat) : Int) rfl (by omega) (by omega) W)
              have C2 := Lib.hid (fun W => gammaref_any (m - 2) ((m : Int) - 2) (by omega) (by omega) (by omega) W)
              rw [← hG1] at C1
              rw [← hG2] at C2
              have HC := Lib.hid (show 1 + G1 + G2 = mcost gsz D m by rw [hG1, hG2]; rfl)
              clear hv2' hv3 hG1 hG2
              have u1 : IntKind.i64.wrap ((i : Int) + (m : Int)) = (i : Int) + (m : Int) := IntWalk.i64_in _ (by omega)
              have u3 : ((i : Int) + (m : Int)).toNat = i + m := by omega
              have u4 : (0 : Int) ≤ (i : Int) + (m : Int) := by omega
              have u5 : (i : Int) + (m : Int) < (n : Int) + 1 := by omega
              have u6 : IntKind.i64.wrap ((m : Int) - 2) = (m : Int) - 2 := IntWalk.i64_in _ (by omega)
              have u7 : IntKind.i64.wrap (1 + (G1 : Int)) = 1 + (G1 : Int) := IntWalk.i64_in _ (by omega)
              have u8 : IntKind.i64.wrap (1 + (G1 : Int) + (G2 : Int)) = 1 + (G1 : Int) + (G2 : Int) := IntWalk.i64_in _ (by omega)
              have u9 : IntKind.i64.wrap (1 + (G1 : Int) + (G2 : Int) + (v2 : Int)) = 1 + (G1 : Int) + (G2 : Int) + (v2 : Int) := IntWalk.i64_in _ (by omega)
              go_upto_region 19 with (fail)
              go_region_held3 (fun w' => w'.cell? ⟨gl, i + m, none⟩ = some (.int .i64 (v2 : Nat))) (go_keep) (first
                | (go_at_call 38; have cc1 := C1.out (World.drew wr); (with_reducible refine cc1.mono ?_); clear cc1; rintro e w6 ⟨Ag1, cg1, rfl, og1, y6⟩; have hP6 := CRows.on (w := wr.drew) hP.drew y6; have m6 := (hP6.lat (i + m) him).1; rw [getD_set_ne (by omega), ← HV2.out] at m6)
                | (go_at_call 38; have cc2 := C2.out w6; (with_reducible refine cc2.mono ?_); clear cc2; rintro e w7 ⟨Ag2, cg2, rfl, og2, y7⟩; have hP7 := hP6.on y7; have m7 := (hP7.lat (i + m) him).1; rw [getD_set_ne (by omega), ← HV2.out] at m7))
              clear u1 u3 u4 u5 u6 u7 u8 u9 m0 m6 m7 og1 og2 y6 y7 hP hP6
              obtain ⟨n0, n1⟩ := hP7.lat i (by omega)
              rw [getD_set_eq (by have := HT.out.ll; omega)] at n0
              obtain ⟨t1, ht1, q0, q1, q2, z0', z1, z2⟩ := hP7.bat i hil
              obtain rfl : t1 = tk all (n2 + i) nn0 dd0 := by
                rw [List.getElem?_set_self (by rw [HT.out.bl]; exact hil2)] at ht1
                injection ht1 with ht1
                exact ht1.symm
              clear ht1
              obtain ⟨cv, hcv⟩ : ∃ cv, cv = 1 + G1 + G2 + v2 := ⟨_, rfl⟩
              have hcv1 : cv ≤ 13900 := by omega
              rw [show (1 : Int) + (G1 : Int) + (G2 : Int) + (v2 : Int) = (cv : Int) by omega]
              have HCV := Lib.hid (show cv = mcost gsz D m + Ls.getD (n2 + i + m) 0 by rw [hcv, HC.out, HV2.out, Nat.add_assoc n2 i m])
              clear hcv C1 C2
              have HTAKE : RowKit.Hid (cv < cc ∨ (cv = cc ∧ nn0 ≤ m) → Good gsz all (fun j => Ls.getD j 0) (n2 + i) (Seen D (m + 1)) cv m D) := Lib.hid fun hh => by
                have := HG.out.rtake hcand.out (by show mcost gsz D m + Ls.getD (n2 + i + m) 0 < cc ∨ (mcost gsz D m + Ls.getD (n2 + i + m) 0 = cc ∧ nn0 ≤ m); rw [← HCV.out]; exact hh)
                rw [HCV.out]
                exact this
              have HPASS : RowKit.Hid (cc < cv ∨ (cv = cc ∧ m < nn0) → Good gsz all (fun j => Ls.getD j 0) (n2 + i) (Seen D (m + 1)) cc nn0 dd0) := Lib.hid fun hh =>
                HG.out.rpass (by show cc < mcost gsz D m + Ls.getD (n2 + i + m) 0 ∨ (mcost gsz D m + Ls.getD (n2 + i + m) 0 = cc ∧ m < nn0); rw [← HCV.out]; exact hh)
              by_cases hlc : cv < cc
              · go_upto_region 22 with (fail)
                have PA := hP7.setl i cv (cv : Int) rfl
                generalize (w7.setCell ⟨gl, i, none⟩ (.int .i64 (cv : Int))) = wc at PA ⊢
                clear n0 n1 q0 q1 q2 z0' z1 z2 hP7
                obtain ⟨t2, -, q0, q1, q2, z0', z1, z2⟩ := PA.bat i hil
                go_wp2_with fail
                have PB6 := PA.setb i hil (D : Nat) (m : Nat) 0 (tk all (n2 + i) m D) (by unfold tk; rw [if_neg (by omega)]; exact ⟨rfl, rfl, rfl⟩)
                rw [List.set_set, List.set_set] at PB6
                go_roundw
                case rel => exact ⟨m + 1, cv, m, D, by omega, .inr (by omega), by go_num, PB6, HTAKE.out (.inl hlc)⟩
                case measure => simp [intOf] <;> omega
              · have hl1 : decide ((cv : Int) < (cc : Int)) = false := by simp; omega
                by_cases heq : cv = cc
                · subst heq
                  have hl2 : (((cv : Nat) : Int) == ((cv : Nat) : Int)) = true := by simp
                  obtain ⟨mx, hmx⟩ : ∃ mx, mx = max nn0 1 := ⟨_, rfl⟩
                  have hlen : ((mx : Nat) : Int) = if (tk all (n2 + i) nn0 dd0).d = 0 then 1 else (tk all (n2 + i) nn0 dd0).n := by
                    rw [hmx]
                    unfold tk
                    rcases HG.out.one with ⟨rfl, rfl, -⟩ | ⟨hc, -⟩
                    · rfl
                    · have a1 := hc.1
                      have a2 := hc.2.1
                      rw [if_neg (show ¬ nn0 = 0 by omega)]
                      show ((max nn0 1 : Nat) : Int) = if ((dd0 : Nat) : Int) = 0 then 1 else ((nn0 : Nat) : Int)
                      rw [if_neg (by omega)]
                      omega
                  have HLEN := Lib.hid hlen
                  clear hlen
                  go_wp2_with fail
                  refine (reflen_any _ _ _ ((mx : Nat) : Int) HLEN.out _).mono ?_
                  rintro e w8 ⟨rfl, y8⟩
                  have hP8 := hP7.on y8
                  clear n0 n1 q0 q1 q2 z0' z1 z2 hP7 y8
                  obtain ⟨n0, n1⟩ := hP8.lat i (by omega)
                  obtain ⟨t1, -, q0, q1, q2, z0', z1, z2⟩ := hP8.bat i hil
                  by_cases hnm : nn0 ≤ m
                  · have hl3 : decide (((mx : Nat) : Int) ≤ (m : Int)) = true := by simp; omega
                    go_upto_region 22 with (fail)
                    have PA := hP8.setl i cv (cv : Int) rfl
                    generalize (w8.setCell ⟨gl, i, none⟩ (.int .i64 (cv : Int))) = wc at PA ⊢
                    clear n0 n1 q0 q1 q2 z0' z1 z2 hP8
                    obtain ⟨t2, -, q0, q1, q2, z0', z1, z2⟩ := PA.bat i hil
                    go_wp2_with fail
                    have PB6 := PA.setb i hil (D : Nat) (m : Nat) 0 (tk all (n2 + i) m D) (by unfold tk; rw [if_neg (by omega)]; exact ⟨rfl, rfl, rfl⟩)
                    rw [List.set_set, List.set_set] at PB6
                    go_roundw
                    case rel => exact ⟨m + 1, cv, m, D, by omega, .inr (by omega), by go_num, PB6, HTAKE.out (.inr ⟨by simp, hnm⟩)⟩
                    case measure => simp [intOf] <;> omega
                  · have hl3 : decide (((mx : Nat) : Int) ≤ (m : Int)) = false := by simp; omega
                    go_wp2_with fail
                    go_roundw
                    case rel => exact ⟨m + 1, cv, nn0, dd0, by omega, .inr (by omega), by go_num, hP8, HPASS.out (.inr ⟨by simp, by omega⟩)⟩
                    case measure => simp [intOf] <;> omega
                · have hl2 : (((cv : Nat) : Int) == ((cc : Nat) : Int)) = false := by rw [beq_eq_false_iff_ne]; omega
                  go_wp2_with fail
                  go_roundw
                  case rel => exact ⟨m + 1, cc, nn0, dd0, by omega, .inr (by omega), by go_num, hP7, HPASS.out (.inl (by omega))⟩
                  case measure => simp [intOf] <;> omega
            · obtain ⟨D', rfl⟩ : ∃ D', D = D' + 1 := ⟨D - 1, by omega⟩
              go_wp2_with fail
              go_roundw
              case rel => exact ⟨D', cc, nn0, dd0, by omega, by go_num, hP, HG.out.rdown (by rw [← HR.out]; omega)⟩
              case measure => simp [intOf] <;> omega
        · obtain rfl : D = 0 := by omega
          go_wp2_with fail
          go_roundw
          case rel => exact ⟨i, by omega, by go_num, _, _, _, _, hP, HT.out.cons hil2 HG.out.rall⟩
          case measure => simp [intOf] <;> omega
    · obtain rfl : p = 0 := by omega
      rw [show ((((0 : Nat)) : Int) - 1) = -1 from rfl]
      obtain ⟨wx, hwx⟩ : ∃ wx : World, wx = wr := ⟨_, rfl⟩
      rw [← hwx] at hP ⊢
      clear hwx
      have HPX := Lib.hid hP
      clear hP
      obtain ⟨i1, ti, tz0, tz1, tz2⟩ := info_parts tok_info
      go_wp2_with fail
      go_loopw [14, 15] (fun o i wr => ∃ k m : Nat, ∃ A' c' done, k ≤ n ∧ m ≤ k ∧ i = .int .i64 k ∧ o = .slice A' m c' ∧ CRows w w1 wr gl gb n2 n Ls Bs ∧ Below wx.heap.size wx wr ∧ wr.ownsRow wx.heap.size 37 3 (.slice A' m c') m (tcells done) ∧
          done ++ tokens all nn dd (n2 + k) = tokens all nn dd n2) (fun _ i _ => n - (intOf i).toNat)
      case atStart => exact ⟨0, 0, none, 0, [], Nat.zero_le _, Nat.zero_le _, rfl, rfl, HPX.out, Below.refl _ _, World.ownsRow_nil _ _ _ _, rfl⟩
      case round =>
        obtain ⟨k, m, A', c', done, hk2, hmk, rfl, rfl, hP, yx, ho, hd⟩ := hrel
        have HD := Lib.hid hd
        have HO := Lib.hid ho
        have yxs := yx.size
        clear hd ho
        by_cases hkl : k < n
        · have hkl2 : n2 + k < all.length := by have := HN.out; omega
          have htok := HT.out.tok (n2 + k) (by omega) hkl2
          have hst := tokens_step (nn := nn) (dd := dd) hkl2
          have hnn := HT.out.tab.nn0 (j := n2 + k) (by omega) hkl2
          obtain ⟨t, ht, q0, q1, q2, z0', z1, z2⟩ := hP.bat k hkl
          obtain rfl : tokOf all nn dd (n2 + k) = t := by rw [htok] at ht; injection ht
          have hgb := hP.ltb
          have hxb : gb < wx.heap.size := HPX.out.ltb.2
          obtain ⟨n1, hn1⟩ : ∃ n1, n1 = nn (n2 + k) := ⟨_, rfl⟩
          obtain ⟨d1, hd1⟩ : ∃ d1, d1 = dd (n2 + k) := ⟨_, rfl⟩
          rw [← hn1] at hst hnn
          rw [← hd1] at hnn
          have hcs : n1 ≤ n - k := by
            rcases hnn with ⟨h0, _⟩ | ⟨h0, _⟩
            · omega
            · have a := h0.2.2.2
              have b := rep_le (all := all) (i := n2 + k) (d := d1)
              have := HN.out
              omega
          obtain ⟨mx, hmx⟩ : ∃ mx, mx = max n1 1 := ⟨_, rfl⟩
          rw [← hmx] at hst
          have HST := Lib.hid hst
          obtain ⟨td, htd⟩ : ∃ td, td = (tokOf all nn dd (n2 + k)).d := ⟨_, rfl⟩
          obtain ⟨tn, htn⟩ : ∃ tn, tn = (tokOf all nn dd (n2 + k)).n := ⟨_, rfl⟩
          obtain ⟨tl, htl⟩ : ∃ tl, tl = (tokOf all nn dd (n2 + k)).lit := ⟨_, rfl⟩
          have HLEN := Lib.hid (show ((mx : Nat) : Int) = if td = 0 then 1 else tn by
            rw [hmx, htd, htn]
            unfold tokOf
            rw [← hn1, ← hd1]
            rcases hnn with ⟨rfl, rfl, -⟩ | ⟨hc, -⟩
            · rfl
            · have a1 := hc.1
              have a2 := hc.2.1
              rw [if_neg (show ¬ n1 = 0 by omega)]
              show ((max n1 1 : Nat) : Int) = if ((d1 : Nat) : Int) = 0 then 1 else ((n1 : Nat) : Int)
              rw [if_neg (by omega)]
              omega)
          clear htok ht hnn hst z0' z1 z2 s1 s2
          rw [← htd] at q0
          rw [← htn] at q1
          rw [← htl] at q2
          have HTC := Lib.hid (show tcell (tokOf all nn dd (n2 + k)) = [.int .i64 td, .int .i64 tn, .int .u8 (tl : Nat)] by rw [htd, htn, htl]; rfl)
          have hmx1 : 1 ≤ mx := by omega
          have hmx2 : k + mx ≤ n := by omega
          clear htd htn htl hn1 hd1 hmx
          go_upto_region 26 with (at_builtin; refine wpList_tok1 _ rfl _ _ 23 rfl wx.heap.size 37 i1 _ 24 Try.underlying23 ti tz0 tz1 tz2 rfl _ _ _ rfl HO.out _ _ _ (tcells_one [⟨td, tn, tl⟩]) rfl ?g1 ?g2 yxs ?_)
          case g1 => unfold maxLen; omega
          case g2 => omega
          intro A5 c5 w5 ho5 hg5
          have hrow : ∀ g, (Value.slice A' m c').ownBlock = some g → gb < g := fun g hg => by have := (HO.out.lt g hg).1; omega
          have hP5 := hP.grown hg5 hrow
          have y5 := yx.grown hg5 yxs (fun g hg => (HO.out.lt g hg).1)
          rw [← HTC.out] at ho5
          have HO5 := Lib.hid (show w5.ownsRow wx.heap.size 37 3 (.slice A5 (m + 1) c5) (m + 1) (tcells (done ++ [tokOf all nn dd (n2 + k)])) by rw [tcells_append]; simpa [tcells] using ho5)
          have hq5 : ∀ j v, wr.cell? ⟨gb, j, none⟩ = some v → w5.cell? ⟨gb, j, none⟩ = some v := fun j v hv => (World.cell?_of_block (hg5.block gb (by omega) (fun e => by have := hrow gb e.symm; omega))).trans hv
          have r0 := hq5 _ _ q0
          have r1 := hq5 _ _ q1
          have r2 := hq5 _ _ q2
          clear ho5 hg5 hrow q0 q1 q2 hP ti tz0 tz1 tz2 yx hq5
          have y5s := y5.size
          go_wp2_with fail
          refine (reflen_any _ _ _ ((mx : Nat) : Int) HLEN.out _).mono ?_
          rintro e w8 ⟨rfl, y8⟩
          have hP8 := hP5.on y8
          have y58 := y5.trans (y8.mono y5s)
          have HO8 := Lib.hid (own_on HO5.out y8)
          clear hP5 y5 HO5 r0 r1 r2
          clear HLEN
          go_wp2_with fail
          go_roundw
          case rel => exact ⟨k + mx, m + 1, A5, c5, _, by omega, by omega, by go_num, rfl, hP8, y58, HO8.out, by rw [← HD.out, HST.out, List.append_assoc, Nat.add_assoc]; rfl⟩
          case measure => simp [intOf] <;> omega
        · obtain rfl : k = n := by omega
          have e : done = tokens all nn dd n2 := by
            have := HD.out
            rw [HN.out, tokens_end (Nat.le_refl _), List.append_nil] at this
            exact this
          have HE := Lib.hid e
          clear e
          go_wp2
          go_ret
          refine ⟨_, nn, dd, A', m, c', rfl, HT.out.tab, ?_, hP.y⟩
          rw [← HE.out]
          exact own_less HO.out HPX.out.y.size
end PB
end Go.Proofs.Ytlhglomhfbbinaa
