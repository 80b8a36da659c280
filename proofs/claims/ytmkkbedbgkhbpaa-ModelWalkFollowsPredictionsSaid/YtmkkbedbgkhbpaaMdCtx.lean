/-
  Slices of contexts; the contexts of the next bit.
-/
import Derived.Test.YtmkkbedbgkhbpaaMdMap
import Derived.Deep.Cut
import Derived.BigQuiet
namespace Go.Proofs.Ytmkkbedbgkhbpaa
open Go.RowKit
attribute [local go_sem ↓] Go.wp_at_zero Go.wp_at_succ
set_option linter.unusedVariables false
set_option linter.unusedSimpArgs false
namespace PB
/-- The contexts of the next bit. -/
def ctxs (ord la be bg : Nat) : List Ctx :=
  match ord with
  | 0 => [(0, 0, 0, bg)]
  | 1 => [(0, 0, 0, bg), (1, la, 0, bg)]
  | _ => [(0, 0, 0, bg), (1, la, 0, bg), (2, la, be, bg)]
def xcell (c : Ctx) : List Value := [.int .i64 (c.1 : Nat), .int .i64 (c.2.1 : Nat), .int .i64 (c.2.2.1 : Nat), .int .i64 (c.2.2.2 : Nat)]
def xcells (l : List Ctx) : List Value := l.flatMap xcell
theorem xcells_length (l : List Ctx) : (xcells l).length = l.length * 4 := by
  induction l with
  | nil => rfl
  | cons t l ih => simp only [xcells, List.flatMap_cons, List.length_append, List.length_cons] at ih ⊢; simp only [xcell, List.length_cons, List.length_nil] at ih ⊢; omega
theorem xcells_get (l : List Ctx) (i : Nat) (t : Ctx) (h : l[i]? = some t) : (xcells l)[i * 4]? = some (.int .i64 (t.1 : Nat)) ∧ (xcells l)[i * 4 + 1]? = some (.int .i64 (t.2.1 : Nat)) ∧ (xcells l)[i * 4 + 2]? = some (.int .i64 (t.2.2.1 : Nat)) ∧ (xcells l)[i * 4 + 3]? = some (.int .i64 (t.2.2.2 : Nat)) := by
  induction l generalizing i with
  | nil => simp at h
  | cons x l ih =>
    have e : xcells (x :: l) = xcell x ++ xcells l := by simp [xcells]
    rw [e]
    cases i with
    | zero =>
      obtain rfl : x = t := by simpa using h
      simp [xcell]
    | succ i =>
      have := ih i (by simpa using h)
      have hl : (xcell x).length = 4 := rfl
      rw [List.getElem?_append_right (by omega), List.getElem?_append_right (by omega), List.getElem?_append_right (by omega), List.getElem?_append_right (by omega), hl]
      rw [show (i + 1) * 4 - 4 = i * 4 by omega, show (i + 1) * 4 + 1 - 4 = i * 4 + 1 by omega, show (i + 1) * 4 + 2 - 4 = i * 4 + 2 by omega, show (i + 1) * 4 + 3 - 4 = i * 4 + 3 by omega]
      exact this
/-- A slice of contexts that can be read. -/
def RdX (w : World) (A : Option Addr) (n c : Nat) (xs : List Ctx) : Prop :=
  xs.length = n ∧ n ≤ c ∧ c ≤ maxLen ∧ (0 < n → ∃ b off, A = some ⟨b, off, none⟩ ∧ b < w.heap.size ∧ ∀ i x, xs[i]? = some x →
    w.cell? ⟨b, off + i * 4, none⟩ = some (.int .i64 (x.1 : Nat)) ∧ w.cell? ⟨b, off + i * 4 + 1, none⟩ = some (.int .i64 (x.2.1 : Nat)) ∧ w.cell? ⟨b, off + i * 4 + 2, none⟩ = some (.int .i64 (x.2.2.1 : Nat)) ∧ w.cell? ⟨b, off + i * 4 + 3, none⟩ = some (.int .i64 (x.2.2.2 : Nat)))
section
variable {w w' : World} {A : Option Addr} {n c : Nat} {xs : List Ctx}
theorem RdX.grown {row : Option Nat} (h : RdX w A n c xs) (hg : w.grownBy w' row) (hA : ∀ b off, A = some ⟨b, off, none⟩ → some b ≠ row) : RdX w' A n c xs := by
  obtain ⟨h1, h2, h3, h4⟩ := h
  refine ⟨h1, h2, h3, fun hn => ?_⟩
  obtain ⟨b, off, e, hlt, hc⟩ := h4 hn
  refine ⟨b, off, e, Nat.lt_of_lt_of_le hlt hg.size, fun i x hx => ?_⟩
  obtain ⟨q1, q2, q3, q4⟩ := hc i x hx
  have hb := hg.block b hlt (hA b off e)
  exact ⟨(World.cell?_of_block hb).trans q1, (World.cell?_of_block hb).trans q2, (World.cell?_of_block hb).trans q3, (World.cell?_of_block hb).trans q4⟩
theorem RdX.on (h : RdX w A n c xs) (hb : Below w.heap.size w w') : RdX w' A n c xs := h.grown (only_of_below hb none) (fun _ _ _ => by simp)
theorem RdX.alloc (h : RdX w A n c xs) (o : Obj) : RdX (w.alloc o) A n c xs := h.on ((Below.refl _ _).alloc (Nat.le_refl _) o)
theorem RdX.drew (h : RdX w A n c xs) : RdX w.drew A n c xs := h
theorem RdX.drewN (h : RdX w A n c xs) (q : Nat) : RdX (w.drewN q) A n c xs := h
theorem RdX.len (h : RdX w A n c xs) : xs.length = n := h.1
theorem RdX.at (h : RdX w A n c xs) (k : Nat) (hk : k < xs.length) : ∃ b off, A = some ⟨b, off, none⟩ ∧ b < w.heap.size ∧
    w.cell? ⟨b, off + k * 4, none⟩ = some (.int .i64 (xs[k].1 : Nat)) ∧ w.cell? ⟨b, off + k * 4 + 1, none⟩ = some (.int .i64 (xs[k].2.1 : Nat)) ∧ w.cell? ⟨b, off + k * 4 + 2, none⟩ = some (.int .i64 (xs[k].2.2.1 : Nat)) ∧ w.cell? ⟨b, off + k * 4 + 3, none⟩ = some (.int .i64 (xs[k].2.2.2 : Nat)) := by
  obtain ⟨h1, h2, h3, h4⟩ := h
  obtain ⟨b, off, e, hlt, hc⟩ := h4 (by omega)
  exact ⟨b, off, e, hlt, hc k _ (List.getElem?_eq_getElem hk)⟩
theorem RdX.own {base : Nat} {e : TypeId} (h : w.ownsRow base e 4 (.slice A n c) n (xcells xs)) : RdX w A n c xs := by
  have hl := h.1
  rw [xcells_length] at hl
  have hl2 : xs.length = n := by omega
  rcases h.2 with ⟨h1, h2⟩ | ⟨g, cap, cur, h1, h2, h3, h4, h5, h6, h7⟩
  · injection h1 with e1 e2 e3
    subst e1 e2 e3
    exact ⟨hl2, Nat.le_refl _, Nat.zero_le _, fun h => absurd h (by decide)⟩
  · injection h1 with e1 e2 e3
    subst e1 e3
    refine ⟨hl2, h4, h5, fun hn => ?_⟩
    have hcells := World.ownsRow.cells h (g := g) rfl
    have key : ∀ j u, (xcells xs)[j]? = some u → w.cell? ⟨g, j, none⟩ = some u := by
      intro j u hu
      have := hcells j u hu
      have e : (⟨g, 0, none⟩ : Addr).add j = ⟨g, j, none⟩ := by
        unfold Addr.add
        by_cases hj : j = 0 <;> simp [hj]
      rwa [e] at this
    refine ⟨g, 0, rfl, ?_, fun i x hx => ?_⟩
    · rcases Nat.lt_or_ge g w.heap.size with h | h
      · exact h
      · rw [Array.getElem?_eq_none h] at h3; cases h3
    · obtain ⟨q1, q2, q3, q4⟩ := xcells_get xs i x hx
      rw [show 0 + i * 4 = i * 4 by omega]
      exact ⟨key _ _ q1, key _ _ q2, key _ _ q3, key _ _ q4⟩
end
section
variable {P : Program}
/-- append(l, context{..}) in a region that draws its order. -/
theorem step_append_ctx {w : World} (c : Ctx) (e : TypeId) {o : Oper} {a : Act} {K : Act → World → Prop} {Q : Exit → Act → World → Prop} {E : Prop} {ops : Array Oper} (hw : Region.wanted o (yielded ops a.tmps) = true) (W : World) (hW : w = W.alloc (.cells (xcell c).toArray e)) (s x : Operand) (t : TypeId)
    (ho : o.op = .call { callee := .builtin .append, args := #[s, x], argTypes := #[t, t] })
    (base : Nat) (i : TypeInfo) (z : Value) (bytes : Nat) (ht : P.underlying t = some (.slice e)) (hi : P.info? e = some i) (hz : i.zero = some z)
    (hsize : i.size = 4) (hby : i.bytes = bytes) (hzs : z.cells.size = 4)
    (v : Value) (n : Nat) (l : List Ctx) (hs : a.eval s = v) (hown : W.ownsRow base e 4 v n (xcells l)) (hx : a.eval x = .slice (some ⟨W.heap.size, 0, none⟩) 1 1)
    (h63 : n + 1 ≤ maxLen) (hbytes : (n + 1) * bytes ≤ 140737488355328) (hbase : base ≤ W.heap.size)
    (h : ∀ A' c' w', w'.ownsRow base e 4 (.slice A' (n + 1) c') (n + 1) (xcells (l ++ [c])) → W.grownBy w' v.ownBlock → K (a.put o.dst (.slice A' (n + 1) c')) w') :
    if Region.wanted o (yielded ops a.tmps) = true then Oper.wp P o a w K Q else E := by
  rw [if_pos hw]
  subst hW
  have hB := Blk.new W e (xcell c).toArray
  obtain ⟨v', w', hrun, h2, h3, h4, h5⟩ := run_append_own_at (P := P) (W.alloc (.cells (xcell c).toArray e)) base t o.type e i z 4 bytes ht hi hz hsize hby hzs (by decide) v n (xcells l) (hown.alloc _) ⟨W.heap.size, 0, none⟩ 1 1 (xcell c) rfl
    (fun j u hj => by
      have e : (⟨W.heap.size, 0, none⟩ : Addr).add j = ⟨W.heap.size, j, none⟩ := by
        unfold Addr.add
        by_cases hj : j = 0 <;> simp [hj]
      rw [e, hB.cell j]
      rw [List.getElem?_toArray]; exact hj)
    (by intro u hu; simp only [xcell, List.mem_cons, List.not_mem_nil, or_false] at hu; rcases hu with rfl | rfl | rfl | rfl <;> rfl) h63 hbytes (by simp; omega)
  obtain ⟨A', c', rfl⟩ := own_shape h2
  unfold Oper.wp execOp
  simp only [ho, resolve, invoke, builtin, Sem.run_bind, Sem.run_pure, Result.andThen_ok, List.map_toArray, List.map_cons, List.map_nil, hs, hx, hrun]
  refine h A' c' w' ?_ ?_
  · have e1 : xcells (l ++ [c]) = xcells l ++ xcell c := by simp [xcells]
    rw [e1]; exact h2
  · exact ⟨h3.os, h3.tape, h3.output, Nat.le_trans (by simp) h3.size, fun k hk hne => (h3.block k (by simp; omega) hne).trans (Below.heap_alloc W _ k hk)⟩
end
theorem ctx_info : (Try.prog.info? 57).map (fun i => (i.zero, i.size, i.bytes)) = some (some (.agg #[.int .i64 0, .int .i64 0, .int .i64 0, .int .i64 0]), 4, 32) := by kernel_rfl
/-- A row of the call's own does not lie in a block that was there before. -/
theorem own_low_ne {w : World} {base : Nat} {e : TypeId} {size n g : Nat} {v : Value} {xs : List Value} (h : w.ownsRow base e size v n xs) (hg : g < base) : some g ≠ v.ownBlock := by
  intro he
  have := (h.lt g he.symm).1
  omega
set_option maxRecDepth 100000 in
set_option maxHeartbeats 1600000 in
theorem contexts_0 {w : World} {s b n la be bg : Nat} {f : Ctx → Nat × Nat} (h : Pm w s b n 0 la be bg f) :
    Calls Try.prog 26 #[.pointer (some ⟨s, 0, none⟩)] w fun e w' => ∃ A c, e = .returned (.slice A 1 c) ∧ w'.ownsRow w.heap.size 57 4 (.slice A 1 c) 1 (xcells (ctxs 0 la be bg)) ∧ Below w.heap.size w w' := by
  obtain ⟨i0, hi, hz0, hz1, hz2⟩ := info_parts ctx_info
  have p0 := h.c0
  have p2 := h.c2
  have p3 := h.c3
  have p4 := h.c4
  have hA := h.alloc (.cells #[.int .i64 0, .int .i64 0, .int .i64 0, .int .i64 (bg : Nat)] 57)
  have q0 := hA.c0
  have q2 := hA.c2
  have q3 := hA.c3
  have q4 := hA.c4
  have HO0 : (w.alloc (.cells #[.int .i64 0, .int .i64 0, .int .i64 0, .int .i64 (bg : Nat)] 57)).ownsRow w.heap.size 57 4 (.slice (some ⟨w.heap.size, 0, none⟩) 1 1) 1 (xcells [(0, 0, 0, bg)]) := World.ownsRow_lit w #[.int .i64 0, .int .i64 0, .int .i64 0, .int .i64 (bg : Nat)] 1 (Nat.le_refl _) (by simp [maxLen]) rfl
  have y0 : Below w.heap.size w (w.alloc (.cells #[.int .i64 0, .int .i64 0, .int .i64 0, .int .i64 (bg : Nat)] 57)) := (Below.refl _ _).alloc (Nat.le_refl _) _
  have H := Lib.hid h
  have HA := Lib.hid hA
  have HO := Lib.hid HO0
  have hs1 := h.lt
  have hs2 := h.ltb
  clear h hA HO0
  go_enter Try.func26, Try.ntmps26
  go_wp2
  go_ret
  exact ⟨_, _, rfl, HO.out, y0⟩
set_option maxRecDepth 100000 in
set_option maxHeartbeats 1600000 in
theorem contexts_1 {w : World} {s b n la be bg : Nat} {f : Ctx → Nat × Nat} (h : Pm w s b n 1 la be bg f) :
    Calls Try.prog 26 #[.pointer (some ⟨s, 0, none⟩)] w fun e w' => ∃ A c, e = .returned (.slice A 2 c) ∧ w'.ownsRow w.heap.size 57 4 (.slice A 2 c) 2 (xcells (ctxs 1 la be bg)) ∧ Below w.heap.size w w' := by
  obtain ⟨i0, hi, hz0, hz1, hz2⟩ := info_parts ctx_info
  have p0 := h.c0
  have p2 := h.c2
  have p3 := h.c3
  have p4 := h.c4
  have hA := h.alloc (.cells #[.int .i64 0, .int .i64 0, .int .i64 0, .int .i64 (bg : Nat)] 57)
  have q0 := hA.c0
  have q2 := hA.c2
  have q3 := hA.c3
  have q4 := hA.c4
  have HO0 : (w.alloc (.cells #[.int .i64 0, .int .i64 0, .int .i64 0, .int .i64 (bg : Nat)] 57)).ownsRow w.heap.size 57 4 (.slice (some ⟨w.heap.size, 0, none⟩) 1 1) 1 (xcells [(0, 0, 0, bg)]) := World.ownsRow_lit w #[.int .i64 0, .int .i64 0, .int .i64 0, .int .i64 (bg : Nat)] 1 (Nat.le_refl _) (by simp [maxLen]) rfl
  have y0 : Below w.heap.size w (w.alloc (.cells #[.int .i64 0, .int .i64 0, .int .i64 0, .int .i64 (bg : Nat)] 57)) := (Below.refl _ _).alloc (Nat.le_refl _) _
  have H := Lib.hid h
  have HA := Lib.hid hA
  have HO := Lib.hid HO0
  have hs1 := h.lt
  have hs2 := h.ltb
  clear h hA HO0
  go_enter Try.func26, Try.ntmps26
  go_upto_region 3 with (fail)
  generalize (w.alloc (.cells #[.int .i64 0, .int .i64 0, .int .i64 0, .int .i64 (bg : Nat)] 57)) = w1 at HO HA q0 q2 q3 q4 y0 ⊢
  have ys1 := y0.size
  go_region_held3 (fun w' => w'.cell? ⟨s, 2, none⟩ = some (.int .i64 (la : Nat)) ∧ w'.cell? ⟨s, 4, none⟩ = some (.int .i64 (bg : Nat))) (go_keep) ((refine step_append_ctx (1, la, 0, bg) 57 (by rfl) w1.drew rfl _ _ _ (by rfl) w.heap.size i0 _ 32 Try.underlying54 hi hz0 hz1 hz2 (by rfl) _ 1 [(0, 0, 0, bg)] (by rfl) (own_drew HO.out) (by rfl) (by simp [maxLen]) (by omega) ys1 ?_; intro A1 c1 v1 ho1 hg1; have Y1 := below_grown (belowD y0) (own_drew HO.out) hg1 (Nat.le_refl _) ys1; have HP1 := Lib.hid ((Pm.drew HA.out).grown hg1 (own_low_ne HO.out hs1) (own_low_ne HO.out hs2)); have r10 := HP1.out.c0; have r12 := HP1.out.c2; have r13 := HP1.out.c3; have r14 := HP1.out.c4; have HO1 := Lib.hid ho1; clear ho1 hg1))
  go_wp2
  go_ret
  exact ⟨_, _, rfl, HO1.out, Y1⟩
set_option maxRecDepth 100000 in
set_option maxHeartbeats 1600000 in
theorem contexts_2 {w : World} {s b n la be bg : Nat} {f : Ctx → Nat × Nat} (h : Pm w s b n 2 la be bg f) :
    Calls Try.prog 26 #[.pointer (some ⟨s, 0, none⟩)] w fun e w' => ∃ A c, e = .returned (.slice A 3 c) ∧ w'.ownsRow w.heap.size 57 4 (.slice A 3 c) 3 (xcells (ctxs 2 la be bg)) ∧ Below w.heap.size w w' := by
  obtain ⟨i0, hi, hz0, hz1, hz2⟩ := info_parts ctx_info
  have p0 := h.c0
  have p2 := h.c2
  have p3 := h.c3
  have p4 := h.c4
  have hA := h.alloc (.cells #[.int .i64 0, .int .i64 0, .int .i64 0, .int .i64 (bg : Nat)] 57)
  have q0 := hA.c0
  have q2 := hA.c2
  have q3 := hA.c3
  have q4 := hA.c4
  have HO0 : (w.alloc (.cells #[.int .i64 0, .int .i64 0, .int .i64 0, .int .i64 (bg : Nat)] 57)).ownsRow w.heap.size 57 4 (.slice (some ⟨w.heap.size, 0, none⟩) 1 1) 1 (xcells [(0, 0, 0, bg)]) := World.ownsRow_lit w #[.int .i64 0, .int .i64 0, .int .i64 0, .int .i64 (bg : Nat)] 1 (Nat.le_refl _) (by simp [maxLen]) rfl
  have y0 : Below w.heap.size w (w.alloc (.cells #[.int .i64 0, .int .i64 0, .int .i64 0, .int .i64 (bg : Nat)] 57)) := (Below.refl _ _).alloc (Nat.le_refl _) _
  have H := Lib.hid h
  have HA := Lib.hid hA
  have HO := Lib.hid HO0
  have hs1 := h.lt
  have hs2 := h.ltb
  clear h hA HO0
  go_enter Try.func26, Try.ntmps26
  go_upto_region 3 with (fail)
  generalize (w.alloc (.cells #[.int .i64 0, .int .i64 0, .int .i64 0, .int .i64 (bg : Nat)] 57)) = w1 at HO HA q0 q2 q3 q4 y0 ⊢
  have ys1 := y0.size
  go_region_held3 (fun w' => w'.cell? ⟨s, 2, none⟩ = some (.int .i64 (la : Nat)) ∧ w'.cell? ⟨s, 4, none⟩ = some (.int .i64 (bg : Nat))) (go_keep) ((refine step_append_ctx (1, la, 0, bg) 57 (by rfl) w1.drew rfl _ _ _ (by rfl) w.heap.size i0 _ 32 Try.underlying54 hi hz0 hz1 hz2 (by rfl) _ 1 [(0, 0, 0, bg)] (by rfl) (own_drew HO.out) (by rfl) (by simp [maxLen]) (by omega) ys1 ?_; intro A1 c1 v1 ho1 hg1; have Y1 := below_grown (belowD y0) (own_drew HO.out) hg1 (Nat.le_refl _) ys1; have HP1 := Lib.hid ((Pm.drew HA.out).grown hg1 (own_low_ne HO.out hs1) (own_low_ne HO.out hs2)); have r10 := HP1.out.c0; have r12 := HP1.out.c2; have r13 := HP1.out.c3; have r14 := HP1.out.c4; have HO1 := Lib.hid ho1; clear ho1 hg1))
  go_upto_region 5 with (fail)
  have ys2 := Y1.size
  go_region_held3 (fun w' => w'.cell? ⟨s, 2, none⟩ = some (.int .i64 (la : Nat)) ∧ w'.cell? ⟨s, 3, none⟩ = some (.int .i64 (be : Nat)) ∧ w'.cell? ⟨s, 4, none⟩ = some (.int .i64 (bg : Nat))) (go_keep) ((refine step_append_ctx (2, la, be, bg) 57 (by rfl) v1.drew rfl _ _ _ (by rfl) w.heap.size i0 _ 32 Try.underlying54 hi hz0 hz1 hz2 (by rfl) _ 2 [(0, 0, 0, bg), (1, la, 0, bg)] (by rfl) (own_drew HO1.out) (by rfl) (by simp [maxLen]) (by omega) ys2 ?_; intro A2 c2 v2 ho2 hg2; have Y2 := below_grown (belowD Y1) (own_drew HO1.out) hg2 (Nat.le_refl _) ys2; have HP2 := Lib.hid ((Pm.drew HP1.out).grown hg2 (own_low_ne HO1.out hs1) (own_low_ne HO1.out hs2)); have r20 := HP2.out.c0; have r22 := HP2.out.c2; have r23 := HP2.out.c3; have r24 := HP2.out.c4; have HO2 := Lib.hid ho2; clear ho2 hg2))
  go_wp2
  go_ret
  exact ⟨_, _, rfl, HO2.out, Y2⟩
theorem contexts_any {w : World} {s b n ord la be bg : Nat} {f : Ctx → Nat × Nat} (h : Pm w s b n ord la be bg f) (ho : ord ≤ 2) :
    Calls Try.prog 26 #[.pointer (some ⟨s, 0, none⟩)] w fun e w' => ∃ A c, e = .returned (.slice A (ord + 1) c) ∧ w'.ownsRow w.heap.size 57 4 (.slice A (ord + 1) c) (ord + 1) (xcells (ctxs ord la be bg)) ∧ Below w.heap.size w w' := by
  rcases (by omega : ord = 0 ∨ ord = 1 ∨ ord = 2) with rfl | rfl | rfl
  · exact contexts_0 h
  · exact contexts_1 h
  · exact contexts_2 h
theorem ctxs_length (ord la be bg : Nat) (ho : ord ≤ 2) : (ctxs ord la be bg).length = ord + 1 := by
  rcases (by omega : ord = 0 ∨ ord = 1 ∨ ord = 2) with rfl | rfl | rfl <;> rfl
theorem ctxs_ok {ord la be bg : Nat} (ho : ord ≤ 2) (h1 : la < 256) (h2 : be < 256) (h3 : bg < 256) : ∀ c ∈ ctxs ord la be bg, CtxOk c ∧ c.1 ≤ 2 := by
  unfold CtxOk
  rcases (by omega : ord = 0 ∨ ord = 1 ∨ ord = 2) with rfl | rfl | rfl <;> intro c hc <;> simp only [ctxs, List.mem_cons, List.not_mem_nil, or_false] at hc
  · subst hc; dsimp only; omega
  · rcases hc with rfl | rfl <;> dsimp only <;> omega
  · rcases hc with rfl | rfl | rfl <;> dsimp only <;> omega
end PB
end Go.Proofs.Ytmkkbedbgkhbpaa
