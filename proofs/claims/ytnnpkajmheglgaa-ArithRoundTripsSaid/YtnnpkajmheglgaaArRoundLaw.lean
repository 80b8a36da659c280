/-
  The code of bits is decoded to the bits: the walk of the statement ArithRoundTrips.
-/
import Derived.Test.YtnnpkajmheglgaaRows
import Derived.Test.YtnnpkajmheglgaaArEx
import Derived.Deep.RegionHeld3
import Derived.Deep.DrawnRows
namespace Go.Proofs.Ytnnpkajmheglgaa
open Go.RowKit
attribute [local go_sem ↓] Go.wp_at_zero Go.wp_at_succ
set_option linter.unusedVariables false
set_option linter.unusedSimpArgs false
namespace PB
theorem AllCho.p {cs : List Cho} (h : AllCho cs) : AllP (cs.map Cho.p) := by
  intro p hp
  obtain ⟨c, hc, rfl⟩ := List.mem_map.1 hp
  exact (h c hc).2
theorem ncells_bits {cs : List Cho} (h : AllCho cs) : ncells (cs.map Cho.n) = icells (cs.map Cho.b) := by
  unfold ncells icells
  rw [List.map_map, List.map_map]
  apply List.map_congr_left
  intro c hc
  show Value.int .i64 ((c.n : Nat) : Int) = Value.int .i64 c.b
  rw [(h c hc).n_eq]
theorem icells_snoc (l : List Int) (x : Int) : icells (l ++ [x]) = icells l ++ [.int .i64 x] := by simp [icells]
theorem p_take_succ (cs : List Cho) (k : Nat) (h : k < cs.length) : icells ((cs.take (k + 1)).map Cho.p) = icells ((cs.take k).map Cho.p) ++ [.int .i64 cs[k].p] := by
  rw [List.take_succ_eq_append_getElem h, List.map_append, List.map_singleton, icells_snoc]
theorem b_take_succ (cs : List Cho) (k : Nat) (h : k < cs.length) : icells ((cs.take (k + 1)).map Cho.b) = icells ((cs.take k).map Cho.b) ++ [.int .i64 cs[k].b] := by
  rw [List.take_succ_eq_append_getElem h, List.map_append, List.map_singleton, icells_snoc]
def pcl (cs : List Cho) (j : Nat) : List Value := icells ((cs.take j).map Cho.p)
def bcl (cs : List Cho) (j : Nat) : List Value := icells ((cs.take j).map Cho.b)
theorem own_far_other {w w' : World} {base base2 : Nat} {e e2 : TypeId} {size size2 n n2 : Nat} {v v2 : Value} {xs xs2 : List Value} (h : w.ownsRow base e size v n xs) (h2 : w.ownsRow base2 e2 size2 v2 n2 xs2) (hg : w.grownBy w' v2.ownBlock) (hne : v.ownBlock = none ∨ v.ownBlock ≠ v2.ownBlock) : w'.ownsRow base e size v n xs := by
  obtain ⟨h1, h3⟩ := h
  refine ⟨h1, ?_⟩
  rcases h3 with h3 | ⟨g, cap, cur, rfl, hb, hh, r⟩
  · exact Or.inl h3
  · refine Or.inr ⟨g, cap, cur, rfl, hb, ?_, r⟩
    have hlt : g < w.heap.size := (Array.getElem?_eq_some_iff.1 hh).1
    refine (hg.block g hlt ?_).trans hh
    rcases hne with hne | hne
    · simp [Value.ownBlock] at hne
    · simpa [Value.ownBlock] using hne
theorem apart_symm {u v : Option Nat} (h : u = none ∨ u ≠ v) : v = none ∨ v ≠ u := by
  rcases h with e | e
  · by_cases h0 : v = none
    · exact .inl h0
    · right; rw [e]; exact h0
  · exact .inr e.symm
theorem apart_next {u v v' : Option Nat} {H H2 : Nat} (h : u = none ∨ u ≠ v) (hu : ∀ g, u = some g → g < H) (hat : v' = v ∨ v' = some H2) (hH : H ≤ H2) : u = none ∨ u ≠ v' := by
  rcases h with h | h
  · exact .inl h
  · rcases hat with e | e
    · right; rw [e]; exact h
    · right
      rw [e]
      intro e2
      have := hu _ e2
      omega
/-- append(out, x): one element more, and where the row lies then. -/
theorem wpList_app1_at {P : Program} {ops : Array Oper} {rest : List Oper} {o : Oper} {a : Act} {Q : Exit → Act → World → Prop} (W : World) (hgd : o.guard = none) (s x : Operand) (t : TypeId)
    (ho : o.op = .call { callee := .builtin .append, args := #[s, x], argTypes := #[t, t] })
    (base : Nat) (e : TypeId) (i : TypeInfo) (z : Value) (bytes : Nat) (ht : P.underlying t = some (.slice e)) (hi : P.info? e = some i) (hz : i.zero = some z)
    (hsize : i.size = 1) (hby : i.bytes = bytes) (hzs : z.cells.size = 1)
    (v : Value) (n : Nat) (xs : List Value) (hs : a.eval s = v) (hown : W.ownsRow base e 1 v n xs)
    (u : Value) (h1 : u.oneCell' = true) (hx : a.eval x = .slice (some ⟨W.heap.size, 0, none⟩) 1 1)
    (h63 : n + 1 ≤ maxLen) (hbytes : (n + 1) * bytes ≤ 140737488355328) (hbase : base ≤ W.heap.size)
    (h : ∀ A' c' w', w'.ownsRow base e 1 (.slice A' (n + 1) c') (n + 1) (xs ++ [u]) → W.grownBy w' v.ownBlock → ((Value.slice A' (n + 1) c').ownBlock = v.ownBlock ∨ (Value.slice A' (n + 1) c').ownBlock = some (W.heap.size + 1)) → wpList P ops Q rest (a.put o.dst (.slice A' (n + 1) c')) w') :
    wpList P ops Q (o :: rest) a (W.alloc (.cells #[u] e)) := by
  have hr : Reads (W.alloc (.cells #[u] e)) (W.heap.size + 1) (some ⟨W.heap.size, 0, none⟩) 1 1 [u] := by
    refine ⟨rfl, Nat.le_refl _, by decide, fun _ => ⟨W.heap.size, 0, rfl, by omega, fun j y hj => ?_⟩⟩
    have := one_new W W.heap.size rfl u e j y hj
    have e : (⟨W.heap.size, 0, none⟩ : Addr).add j = ⟨W.heap.size, 0 + j, none⟩ := by
      unfold Addr.add
      by_cases hj : j = 0 <;> simp [hj]
    rw [e] at this
    exact this
  refine wpList_append_any (P := P) (W.alloc (.cells #[u] e)) hgd s x t ho base e i z bytes ht hi hz hsize hby hzs v n xs hs (hown.alloc _) (W.heap.size + 1) _ 1 1 [u] hx hr (by simpa using h1) h63 hbytes (by simp; omega) ?_
  intro A' c' w' h2 h3 h4
  refine h A' c' w' h2 ?_ (by simpa using h4)
  exact ⟨h3.os, h3.tape, h3.output, Nat.le_trans (by simp) h3.size, fun k hk hne => (h3.block k (by simp; omega) hne).trans (Below.heap_alloc W _ k hk)⟩
set_option maxRecDepth 100000 in
set_option maxHeartbeats 1600000 in
theorem ar_bad {A : Option Addr} {n c : Nat} {cs : List Cho} {code idx : Int} (hC : COut cs code idx) (hc : code ≠ 0) (w : World) (h : RdC w A n c cs) :
    Calls Try.prog 5 #[.slice A n c] w fun e w' => e = .returned (.bool true) ∧ Below w.heap.size w w' := by
  have hc2 : (code != 0) = true := by rw [bne_iff_ne]; exact hc
  have HEN := Lib.hid (fun (W : World) (hW : RdC W A n c cs) => arenc_any hW code idx hC [] (by rw [if_neg hc]) 0 rfl)
  clear hC hc
  have C_0 := h
  have Z0 := Below.refl w.heap.size w
  go_enter Try.func5, Try.ntmps5
  go_wp2_with fail
  refine (HEN.out _ C_0).mono ?_
  rintro e w1 ⟨A1, n1, c1, rfl, R1, y1⟩
  have C_1 := ((C_0.on y1).alloc (.cells #[.slice A1 n1 c1, .int .i64 0] 25)).alloc (.cells #[.int .i64 code, .int .i64 idx] 27)
  have R_1 := ((R1).alloc (.cells #[.slice A1 n1 c1, .int .i64 0] 25)).alloc (.cells #[.int .i64 code, .int .i64 idx] 27)
  have B_1 := ((Two.new w1 25 (.slice A1 n1 c1) (.int .i64 0))).alloc (.cells #[.int .i64 code, .int .i64 idx] 27)
  have F_1 := (Two.new1 w1 (.cells #[.slice A1 n1 c1, .int .i64 0] 25) 27 (.int .i64 code) (.int .i64 idx))
  clear C_0
  have z1 := Z0.trans (y1.mono Z0.size)
  have Z1 := ((z1).alloc (by have := z1.size; omega) (.cells #[.slice A1 n1 c1, .int .i64 0] 25)).alloc (by have := z1.size; simp; omega) (.cells #[.int .i64 code, .int .i64 idx] 27)
  have B_1_c0 := B_1.c0
  have B_1_c1 := B_1.c1
  have F_1_c0 := F_1.c0
  have F_1_c1 := F_1.c1
  go_wp2_with fail
  refine (codes_true _).mono ?_
  rintro e w2 ⟨rfl, y2⟩
  have C_2 := C_1.on y2
  have R_2 := R_1.on y2
  have B_2 := B_1.on y2
  have F_2 := F_1.on y2
  clear C_1 R_1 B_1 B_1_c0 B_1_c1 F_1 F_1_c0 F_1_c1
  have z2 := Z1.trans (y2.mono Z1.size)
  have Z2 := z2
  have B_2_c0 := B_2.c0
  have B_2_c1 := B_2.c1
  have F_2_c0 := F_2.c0
  have F_2_c1 := F_2.c1
  go_wp2_with fail
  refine (codes_true _).mono ?_
  rintro e w3 ⟨rfl, y3⟩
  have C_3 := C_2.on y3
  have R_3 := R_2.on y3
  have B_3 := B_2.on y3
  have F_3 := F_2.on y3
  clear C_2 R_2 B_2 B_2_c0 B_2_c1 F_2 F_2_c0 F_2_c1
  have z3 := Z2.trans (y3.mono Z2.size)
  have Z3 := z3
  have B_3_c0 := B_3.c0
  have B_3_c1 := B_3.c1
  have F_3_c0 := F_3.c0
  have F_3_c1 := F_3.c1
  go_wp2_with fail
  refine (api_same (l := []) (l2 := []) R_3 (Rd.none_ _) Is01.nil Is01.nil true (by simp) _ _ rfl rfl).mono ?_
  rintro e w4 ⟨rfl, y4⟩
  have C_4 := C_3.on y4
  have R_4 := R_3.on y4
  have B_4 := B_3.on y4
  have F_4 := F_3.on y4
  clear C_3 R_3 B_3 B_3_c0 B_3_c1 F_3 F_3_c0 F_3_c1
  have z4 := Z3.trans (y4.mono Z3.size)
  have Z4 := z4
  have B_4_c0 := B_4.c0
  have B_4_c1 := B_4.c1
  have F_4_c0 := F_4.c0
  have F_4_c1 := F_4.c1
  go_wp2
  go_ret
  exact ⟨rfl, Z4⟩
set_option maxRecDepth 100000 in
set_option maxHeartbeats 1600000 in
theorem ar_ok {A : Option Addr} {n c : Nat} {cs : List Cho} {idx : Int} (hC : COut cs 0 idx) (w : World) (h : RdC w A n c cs) :
    Calls Try.prog 5 #[.slice A n c] w fun e w' => e = .returned (.bool true) ∧ Below w.heap.size w w' := by
  obtain ⟨hall, hlen, rfl⟩ := cout_ok hC rfl
  have hcap := h.2.1
  have hcm := h.2.2.1
  unfold maxLen at hcm
  have hn := h.len
  obtain rfl := hn
  obtain ⟨i0, hi0, hz0, hz1, hz2⟩ := info_parts int_info
  obtain ⟨k, hk⟩ : ∃ k, k = (acode cs).length := ⟨_, rfl⟩
  have HEN := Lib.hid (fun (W : World) (hW : RdC W A cs.length c cs) => arenc_any hW 0 0 hC (acode cs) (by rw [if_pos rfl]) k hk)
  have hrt := round_trip hall
  have h01 := acode_01 hall
  have hkl := acode_le hall hlen
  have hk2 : 2 ≤ (acode cs).length := by rw [acode_length]; omega
  have HDE := Lib.hid (fun (A1 : Option Addr) (n1 c1 : Nat) (A2 : Option Addr) (c2 : Nat) (W : World) (hW : Rd W A1 n1 c1 (bcells (pack (acode cs)))) (hW2 : Rd W A2 cs.length c2 (icells (cs.map Cho.p))) => ardec_main hW hW2 h01 (Nat.le_trans hkl (by decide)) (by rw [List.length_map]; exact hlen) hall.p hk2 0 0 rfl (cs.map Cho.n) (by rw [hrt.2, if_neg (Nat.lt_irrefl _), if_neg (Nat.lt_irrefl _)]) (by rw [if_pos rfl, hrt.1]))
  rw [← hk] at HDE
  rw [ncells_bits hall] at HDE
  clear hC hall hrt h01 hkl hk2 hk
  have C_0 := h
  have Z0 := Below.refl w.heap.size w
  go_enter Try.func5, Try.ntmps5
  go_wp2_with fail
  refine (HEN.out _ C_0).mono ?_
  rintro e w1 ⟨A1, n1, c1, rfl, R1, y1⟩
  have C_1 := ((C_0.on y1).alloc (.cells #[.slice A1 n1 c1, .int .i64 (k : Nat)] 25)).alloc (.cells #[.int .i64 0, .int .i64 0] 27)
  have R_1 := ((R1).alloc (.cells #[.slice A1 n1 c1, .int .i64 (k : Nat)] 25)).alloc (.cells #[.int .i64 0, .int .i64 0] 27)
  have B_1 := ((Two.new w1 25 (.slice A1 n1 c1) (.int .i64 (k : Nat)))).alloc (.cells #[.int .i64 0, .int .i64 0] 27)
  have F_1 := (Two.new1 w1 (.cells #[.slice A1 n1 c1, .int .i64 (k : Nat)] 25) 27 (.int .i64 0) (.int .i64 0))
  clear C_0
  have z1 := Z0.trans (y1.mono Z0.size)
  have Z1 := ((z1).alloc (by have := z1.size; omega) (.cells #[.slice A1 n1 c1, .int .i64 (k : Nat)] 25)).alloc (by have := z1.size; simp; omega) (.cells #[.int .i64 0, .int .i64 0] 27)
  have B_1_c0 := B_1.c0
  have B_1_c1 := B_1.c1
  have F_1_c0 := F_1.c0
  have F_1_c1 := F_1.c1
  go_wp2_with fail
  refine (codes_true _).mono ?_
  rintro e w2 ⟨rfl, y2⟩
  have C_2 := C_1.on y2
  have R_2 := R_1.on y2
  have B_2 := B_1.on y2
  have F_2 := F_1.on y2
  clear C_1 R_1 B_1 B_1_c0 B_1_c1 F_1 F_1_c0 F_1_c1
  have z2 := Z1.trans (y2.mono Z1.size)
  have Z2 := z2
  have B_2_c0 := B_2.c0
  have B_2_c1 := B_2.c1
  have F_2_c0 := F_2.c0
  have F_2_c1 := F_2.c1
  have Zs := Z2.size
  go_wp2_with fail
  go_loopw [5, 6, 7] (fun pv bv i wr => ∃ (j : Nat) (P2 : Option Addr) (p3 : Nat) (B2 : Option Addr) (b3 : Nat), j ≤ cs.length ∧ i = .int .i64 (j : Nat) ∧ pv = .slice P2 j p3 ∧ bv = .slice B2 j b3 ∧ Below w2.heap.size w2 wr ∧ w2.heap.size ≤ wr.heap.size ∧ wr.ownsRow w2.heap.size 3 1 (.slice P2 j p3) j (pcl cs j) ∧ wr.ownsRow w2.heap.size 3 1 (.slice B2 j b3) j (bcl cs j) ∧ ((Value.slice P2 j p3).ownBlock = none ∨ (Value.slice P2 j p3).ownBlock ≠ (Value.slice B2 j b3).ownBlock)) (fun _ _ i _ => cs.length - (intOf i).toNat)
  case atStart => exact ⟨0, none, 0, none, 0, Nat.zero_le _, rfl, rfl, rfl, Below.refl _ _, Nat.le_refl _, World.ownsRow_nil _ _ _ _, World.ownsRow_nil _ _ _ _, .inl rfl⟩
  case round =>
    obtain ⟨j, P2, p3, B2, b3, hj, rfl, rfl, rfl, yr, hsz, oP, oB, hne⟩ := hrel
    have HP := Lib.hid oP
    have HB := Lib.hid oB
    have HNE := Lib.hid hne
    clear oP oB hne
    by_cases hlt : j < cs.length
    · have hR := (C_2).on yr
      obtain ⟨g, off, rfl, hg, q1, q2⟩ := hR.at j hlt
      obtain ⟨x, hx⟩ : ∃ x, x = cs[j] := ⟨_, rfl⟩
      rw [← hx] at q1 q2
      have HXX := Lib.hid (show cs[j]? = some x by rw [hx]; exact List.getElem?_eq_getElem hlt)
      have HPC := Lib.hid (show pcl cs (j + 1) = pcl cs j ++ [.int .i64 x.p] by rw [pcl, p_take_succ cs j hlt, hx]; rfl)
      have HBC := Lib.hid (show bcl cs (j + 1) = bcl cs j ++ [.int .i64 x.b] by rw [bcl, b_take_succ cs j hlt, hx]; rfl)
      obtain ⟨xb, xp⟩ := x
      dsimp only at q1 q2 HPC HBC
      have i1 : (0 : Int) ≤ (j : Int) := by omega
      have i2 : (j : Int) < (cs.length : Int) := by omega
      clear hx
      go_wp2_with (at_builtin; refine wpList_app1_at _ rfl _ _ _ rfl w2.heap.size 3 i0 _ 8 Try.underlying34 hi0 hz0 hz1 hz2 rfl _ _ _ rfl HP.out (.int .i64 xp) rfl rfl ?g1 ?g2 hsz ?_)
      case g1 => unfold maxLen; omega
      case g2 => omega
      intro A4 c4 w4 o4 g4 a4
      have Y4 := below_grown yr HP.out g4 (Nat.le_refl _) hsz
      have HB4 := Lib.hid (own_far_other HB.out HP.out g4 (apart_symm HNE.out))
      have hne4 : (Value.slice B2 j b3).ownBlock = none ∨ (Value.slice B2 j b3).ownBlock ≠ (Value.slice A4 (j + 1) c4).ownBlock := apart_next (apart_symm HNE.out) (fun g h => (HB.out.lt g h).2) a4 (Nat.le_succ _)
      rw [← HPC.out] at o4
      have HP4 := Lib.hid o4
      have hs4 : w2.heap.size ≤ w4.heap.size := Y4.size
      have HNE4 := Lib.hid hne4
      have HA4 := Lib.hid a4
      clear o4 g4 a4 q1 q2 hR hne4
      obtain ⟨-, q1, q2⟩ := ((C_2).on Y4).cells HXX.out
      go_wp2_with (at_builtin; refine wpList_app1_at _ rfl _ _ _ rfl w2.heap.size 3 i0 _ 8 Try.underlying34 hi0 hz0 hz1 hz2 rfl _ _ _ rfl HB4.out (.int .i64 xb) rfl rfl ?g1 ?g2 hs4 ?_)
      case g1 => unfold maxLen; omega
      case g2 => omega
      intro A5 c5 w5 o5 g5 a5
      have Y5 := below_grown Y4 HB4.out g5 (Nat.le_refl _) hs4
      have HP5 := Lib.hid (own_far_other HP4.out HB4.out g5 (apart_symm HNE4.out))
      have HNE5 := Lib.hid (show (Value.slice A4 (j + 1) c4).ownBlock = none ∨ (Value.slice A4 (j + 1) c4).ownBlock ≠ (Value.slice A5 (j + 1) c5).ownBlock from apart_next (apart_symm HNE4.out) (fun g h => (HP4.out.lt g h).2) a5 (Nat.le_succ _))
      rw [← HBC.out] at o5
      have HB5 := Lib.hid o5
      have hs5 : w2.heap.size ≤ w5.heap.size := Y5.size
      clear o5 g5 a5 q1 q2
      go_wp2_with fail
      go_roundw
      case rel => exact ⟨j + 1, A4, c4, A5, c5, by omega, by go_num, rfl, rfl, Y5, hs5, HP5.out, HB5.out, HNE5.out⟩
      case measure => simp [intOf] <;> omega
    · obtain rfl : j = cs.length := by omega
      have oP := HP.out
      have oB := HB.out
      unfold pcl at oP
      unfold bcl at oB
      rw [List.take_length] at oP oB
      have RP := Rd.own oP
      have HRB := Lib.hid (Rd.own oB)
      have R3 := (R_2).on yr
      have B3 := (B_2).on yr
      have b0 := B3.c0
      have b1 := B3.c1
      have Z3 := Z2.trans (yr.mono Zs)
      clear oP oB
      go_wp2_with fail
      refine (HDE.out _ _ _ _ _ _ R3 RP).mono ?_
      rintro e w6 ⟨A6, n6, c6, rfl, R6, y6⟩
      have Z6 := (Z3.trans (y6.mono Z3.size)).alloc (by have := Z3.size; have := y6.size; omega) (.cells #[.int .i64 0, .int .i64 0] 27)
      have F6 := Two.new w6 27 (.int .i64 0) (.int .i64 0)
      have f0 := F6.c0
      have R7 := R6.alloc (.cells #[.int .i64 0, .int .i64 0] 27)
      have Q7 := (HRB.out.on y6).alloc (.cells #[.int .i64 0, .int .i64 0] 27)
      go_wp2_with fail
      refine (ints_any R7 Q7 true (by simp)).mono ?_
      rintro e w7 ⟨rfl, y7⟩
      have Z7 := Z6.trans (y7.mono Z6.size)
      go_wp2
      go_ret
      exact ⟨rfl, Z7⟩
theorem ar_all {A : Option Addr} {n c : Nat} {cs : List Cho} (w : World) (h : RdC w A n c cs) : Calls Try.prog 5 #[.slice A n c] w fun e w' => e = .returned (.bool true) ∧ Below w.heap.size w w' := by
  obtain ⟨code, idx, hC⟩ := cout_ex cs
  by_cases hc : code = 0
  · subst hc
    exact ar_ok hC w h
  · exact ar_bad hC hc w h
end PB
end Go.Proofs.Ytnnpkajmheglgaa
