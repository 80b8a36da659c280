/-
  More bytes ahead of a dictionary cost no more, where the two together have room: the walk of the statement LzMoreDictionaryCostsNoMore.
-/
import Derived.Test.YtlhglomhfbbinaaRows
import Derived.Test.YtlhglomhfbbinaaLzApi
import Derived.Test.YtlhglomhfbbinaaSlices
import Derived.Deep.RegionHeld3
import Derived.Deep.DrawnRows
import Derived.Lib.SlBytesConst
namespace Go.Proofs.Ytlhglomhfbbinaa
open Go.RowKit
attribute [local go_sem ↓] Go.wp_at_zero Go.wp_at_succ
set_option linter.unusedVariables false
set_option linter.unusedSimpArgs false
namespace PB
set_option maxRecDepth 100000 in
set_option maxHeartbeats 3200000 in
theorem mo_long {A : Option Addr} {n c : Nat} {d : List Nat} {A1 : Option Addr} {n1 c1 : Nat} {d1 : List Nat} {A2 : Option Addr} {n2 c2 : Nat} {d2 : List Nat} (room : n1 + n2 ≤ 1048576) (hn : 1024 < n)  (w : World) (h : Rd w A n c (bcells d)) (h1 : Rd w A1 n1 c1 (bcells d1)) (h2 : Rd w A2 n2 c2 (bcells d2)) :
    Calls Try.prog 7 #[.slice A n c, .slice A1 n1 c1, .slice A2 n2 c2] w fun e w' => e = .returned (.bool true) ∧ Below w.heap.size w w' := by
  obtain ⟨j0, bi, bz0, bz1, bz2⟩ := info_parts byte_info
  obtain ⟨N, hN⟩ : ∃ N, N = n1 + n2 := ⟨_, rfl⟩
  have HNN := Lib.hid hN
  have hN1 : N = n1 + n2 := hN
  have HEN := Lib.hid (show d.length = n by have := h.len; rwa [bcells_length] at this)
  have HEN2 := Lib.hid (show d2.length = n2 by have := h2.len; rwa [bcells_length] at this)
  have HENA := Lib.hid (show (d1 ++ d2).length = N by have a := h1.len; have b := h2.len; rw [bcells_length] at a b; rw [List.length_append, a, b, hN])
  have HBC := Lib.hid (show bcells d1 ++ bcells d2 = bcells (d1 ++ d2) by simp [bcells])
  have z0 : 0 + n1 = n1 := Nat.zero_add n1
  go_enter Try.func7, Try.ntmps7
  go_wp2_with (at_builtin; refine wpList_append_any _ rfl _ _ _ rfl w.heap.size 5 j0 _ 1 Try.underlying22 bi bz0 bz1 bz2 rfl _ _ _ rfl (World.ownsRow_nil _ _ _ _) _ _ n1 c1 _ rfl h1 (bcells_one _) ?g1 ?g2 (Nat.le_refl _) ?_)
  case g1 => unfold maxLen; omega
  case g2 => omega
  intro A3 c3 w3 o3 g3 a3
  have Y3 := (Below.refl w.heap.size w).grown g3 (Nat.le_refl _) (fun g hg => by cases hg)
  (try simp only [Nat.zero_add, List.nil_append] at o3)
  have HO3 := Lib.hid o3
  have D3 := h2.on Y3
  have Y3s := Y3.size
  clear o3 g3 a3
  go_wp2_with (at_builtin; refine wpList_append_any _ rfl _ _ _ rfl w.heap.size 5 j0 _ 1 Try.underlying22 bi bz0 bz1 bz2 rfl _ _ _ rfl (by have := HO3.out; (try rw [z0] at this); (try rw [z0]); exact this) _ _ n2 c2 _ rfl D3 (bcells_one _) ?g1 ?g2 Y3s ?_)
  case g1 => unfold maxLen; omega
  case g2 => omega
  intro A4 c4 w4 o4 g4 a4
  have Z4 := below_grown Y3 (by have := HO3.out; (try rw [z0] at this); (try rw [z0]); exact this) g4 (Nat.le_refl _) Y3s
  rw [HBC.out] at o4
  (try simp only [Nat.zero_add])
  (try simp only [Nat.zero_add] at o4)
  rw [← HNN.out] at o4
  try rw [← HNN.out]
  have R_4 := Rd.on h Z4
  have S_4 := Rd.on h2 Z4
  have L_4 := Rd.own o4
  clear o4 g4 a4 D3 HO3 Y3 Y3s h h1 h2 z0 hN bi bz0 bz1 bz2 hN1
  go_wp2_with fail
  refine (lzparse_long R_4 hn).mono ?_
  rintro e w5 ⟨rfl, y5⟩
  have R_5 := (R_4.on y5).alloc (.cells #[.int .i64 3, .int .i64 (-1)] 25)
  have S_5 := (S_4.on y5).alloc (.cells #[.int .i64 3, .int .i64 (-1)] 25)
  have L_5 := (L_4.on y5).alloc (.cells #[.int .i64 3, .int .i64 (-1)] 25)
  have F_5 := (Two.new w5 25 (.int .i64 3) (.int .i64 (-1)))
  clear R_4 S_4 L_4
  have z5 := Z4.trans (y5.mono Z4.size)
  have Z5 := (z5).alloc (by have := z5.size; omega) (.cells #[.int .i64 3, .int .i64 (-1)] 25)
  have F_5_c0 := F_5.c0
  have F_5_c1 := F_5.c1
  go_wp2_with fail
  refine (lzparse_long R_5 hn).mono ?_
  rintro e w6 ⟨rfl, y6⟩
  have R_6 := (R_5.on y6).alloc (.cells #[.int .i64 3, .int .i64 (-1)] 25)
  have S_6 := (S_5.on y6).alloc (.cells #[.int .i64 3, .int .i64 (-1)] 25)
  have L_6 := (L_5.on y6).alloc (.cells #[.int .i64 3, .int .i64 (-1)] 25)
  have F_6 := (F_5.on y6).alloc (.cells #[.int .i64 3, .int .i64 (-1)] 25)
  have G_6 := (Two.new w6 25 (.int .i64 3) (.int .i64 (-1)))
  clear R_5 S_5 L_5 F_5 F_5_c0 F_5_c1
  have z6 := Z5.trans (y6.mono Z5.size)
  have Z6 := (z6).alloc (by have := z6.size; omega) (.cells #[.int .i64 3, .int .i64 (-1)] 25)
  have F_6_c0 := F_6.c0
  have F_6_c1 := F_6.c1
  have G_6_c0 := G_6.c0
  have G_6_c1 := G_6.c1
  go_wp2_with fail
  refine (matches_true _).mono ?_
  rintro e w7 ⟨rfl, y7⟩
  have R_7 := R_6.on y7
  have S_7 := S_6.on y7
  have L_7 := L_6.on y7
  have F_7 := F_6.on y7
  have G_7 := G_6.on y7
  clear R_6 S_6 L_6 F_6 F_6_c0 F_6_c1 G_6 G_6_c0 G_6_c1
  have z7 := Z6.trans (y7.mono Z6.size)
  have Z7 := z7
  have F_7_c0 := F_7.c0
  have F_7_c1 := F_7.c1
  have G_7_c0 := G_7.c0
  have G_7_c1 := G_7.c1
  go_wp2_with fail
  refine (matches_true _).mono ?_
  rintro e w8 ⟨rfl, y8⟩
  have R_8 := R_7.on y8
  have S_8 := S_7.on y8
  have L_8 := L_7.on y8
  have F_8 := F_7.on y8
  have G_8 := G_7.on y8
  clear R_7 S_7 L_7 F_7 F_7_c0 F_7_c1 G_7 G_7_c0 G_7_c1
  have z8 := Z7.trans (y8.mono Z7.size)
  have Z8 := z8
  have F_8_c0 := F_8.c0
  have F_8_c1 := F_8.c1
  have G_8_c0 := G_8.c0
  have G_8_c1 := G_8.c1
  go_wp2
  go_ret
  exact ⟨rfl, Z8⟩
set_option maxRecDepth 100000 in
set_option maxHeartbeats 3200000 in
theorem mo_dict {A : Option Addr} {n c : Nat} {d : List Nat} {A1 : Option Addr} {n1 c1 : Nat} {d1 : List Nat} {A2 : Option Addr} {n2 c2 : Nat} {d2 : List Nat} (room : n1 + n2 ≤ 1048576) (hn : n ≤ 1024) (hn2 : 512 < n2)  (w : World) (h : Rd w A n c (bcells d)) (h1 : Rd w A1 n1 c1 (bcells d1)) (h2 : Rd w A2 n2 c2 (bcells d2)) :
    Calls Try.prog 7 #[.slice A n c, .slice A1 n1 c1, .slice A2 n2 c2] w fun e w' => e = .returned (.bool true) ∧ Below w.heap.size w w' := by
  obtain ⟨j0, bi, bz0, bz1, bz2⟩ := info_parts byte_info
  obtain ⟨N, hN⟩ : ∃ N, N = n1 + n2 := ⟨_, rfl⟩
  have HNN := Lib.hid hN
  have hN1 : N = n1 + n2 := hN
  have HEN := Lib.hid (show d.length = n by have := h.len; rwa [bcells_length] at this)
  have HEN2 := Lib.hid (show d2.length = n2 by have := h2.len; rwa [bcells_length] at this)
  have HENA := Lib.hid (show (d1 ++ d2).length = N by have a := h1.len; have b := h2.len; rw [bcells_length] at a b; rw [List.length_append, a, b, hN])
  have HBC := Lib.hid (show bcells d1 ++ bcells d2 = bcells (d1 ++ d2) by simp [bcells])
  have z0 : 0 + n1 = n1 := Nat.zero_add n1
  go_enter Try.func7, Try.ntmps7
  go_wp2_with (at_builtin; refine wpList_append_any _ rfl _ _ _ rfl w.heap.size 5 j0 _ 1 Try.underlying22 bi bz0 bz1 bz2 rfl _ _ _ rfl (World.ownsRow_nil _ _ _ _) _ _ n1 c1 _ rfl h1 (bcells_one _) ?g1 ?g2 (Nat.le_refl _) ?_)
  case g1 => unfold maxLen; omega
  case g2 => omega
  intro A3 c3 w3 o3 g3 a3
  have Y3 := (Below.refl w.heap.size w).grown g3 (Nat.le_refl _) (fun g hg => by cases hg)
  (try simp only [Nat.zero_add, List.nil_append] at o3)
  have HO3 := Lib.hid o3
  have D3 := h2.on Y3
  have Y3s := Y3.size
  clear o3 g3 a3
  go_wp2_with (at_builtin; refine wpList_append_any _ rfl _ _ _ rfl w.heap.size 5 j0 _ 1 Try.underlying22 bi bz0 bz1 bz2 rfl _ _ _ rfl (by have := HO3.out; (try rw [z0] at this); (try rw [z0]); exact this) _ _ n2 c2 _ rfl D3 (bcells_one _) ?g1 ?g2 Y3s ?_)
  case g1 => unfold maxLen; omega
  case g2 => omega
  intro A4 c4 w4 o4 g4 a4
  have Z4 := below_grown Y3 (by have := HO3.out; (try rw [z0] at this); (try rw [z0]); exact this) g4 (Nat.le_refl _) Y3s
  rw [HBC.out] at o4
  (try simp only [Nat.zero_add])
  (try simp only [Nat.zero_add] at o4)
  rw [← HNN.out] at o4
  try rw [← HNN.out]
  have R_4 := Rd.on h Z4
  have S_4 := Rd.on h2 Z4
  have L_4 := Rd.own o4
  clear o4 g4 a4 D3 HO3 Y3 Y3s h h1 h2 z0 hN bi bz0 bz1 bz2 hN1
  go_wp2_with fail
  refine (lzparse_dict hn hn2).mono ?_
  rintro e w5 ⟨rfl, y5⟩
  have R_5 := (R_4.on y5).alloc (.cells #[.int .i64 3, .int .i64 (-2)] 25)
  have S_5 := (S_4.on y5).alloc (.cells #[.int .i64 3, .int .i64 (-2)] 25)
  have L_5 := (L_4.on y5).alloc (.cells #[.int .i64 3, .int .i64 (-2)] 25)
  have F_5 := (Two.new w5 25 (.int .i64 3) (.int .i64 (-2)))
  clear R_4 S_4 L_4
  have z5 := Z4.trans (y5.mono Z4.size)
  have Z5 := (z5).alloc (by have := z5.size; omega) (.cells #[.int .i64 3, .int .i64 (-2)] 25)
  have F_5_c0 := F_5.c0
  have F_5_c1 := F_5.c1
  go_wp2_with fail
  refine (lzparse_dict hn (by have := HNN.out; omega)).mono ?_
  rintro e w6 ⟨rfl, y6⟩
  have R_6 := (R_5.on y6).alloc (.cells #[.int .i64 3, .int .i64 (-2)] 25)
  have S_6 := (S_5.on y6).alloc (.cells #[.int .i64 3, .int .i64 (-2)] 25)
  have L_6 := (L_5.on y6).alloc (.cells #[.int .i64 3, .int .i64 (-2)] 25)
  have F_6 := (F_5.on y6).alloc (.cells #[.int .i64 3, .int .i64 (-2)] 25)
  have G_6 := (Two.new w6 25 (.int .i64 3) (.int .i64 (-2)))
  clear R_5 S_5 L_5 F_5 F_5_c0 F_5_c1
  have z6 := Z5.trans (y6.mono Z5.size)
  have Z6 := (z6).alloc (by have := z6.size; omega) (.cells #[.int .i64 3, .int .i64 (-2)] 25)
  have F_6_c0 := F_6.c0
  have F_6_c1 := F_6.c1
  have G_6_c0 := G_6.c0
  have G_6_c1 := G_6.c1
  go_wp2_with fail
  refine (matches_true _).mono ?_
  rintro e w7 ⟨rfl, y7⟩
  have R_7 := R_6.on y7
  have S_7 := S_6.on y7
  have L_7 := L_6.on y7
  have F_7 := F_6.on y7
  have G_7 := G_6.on y7
  clear R_6 S_6 L_6 F_6 F_6_c0 F_6_c1 G_6 G_6_c0 G_6_c1
  have z7 := Z6.trans (y7.mono Z6.size)
  have Z7 := z7
  have F_7_c0 := F_7.c0
  have F_7_c1 := F_7.c1
  have G_7_c0 := G_7.c0
  have G_7_c1 := G_7.c1
  go_wp2_with fail
  refine (matches_true _).mono ?_
  rintro e w8 ⟨rfl, y8⟩
  have R_8 := R_7.on y8
  have S_8 := S_7.on y8
  have L_8 := L_7.on y8
  have F_8 := F_7.on y8
  have G_8 := G_7.on y8
  clear R_7 S_7 L_7 F_7 F_7_c0 F_7_c1 G_7 G_7_c0 G_7_c1
  have z8 := Z7.trans (y8.mono Z7.size)
  have Z8 := z8
  have F_8_c0 := F_8.c0
  have F_8_c1 := F_8.c1
  have G_8_c0 := G_8.c0
  have G_8_c1 := G_8.c1
  go_wp2
  go_ret
  exact ⟨rfl, Z8⟩
set_option maxRecDepth 100000 in
set_option maxHeartbeats 3200000 in
theorem mo_all {A : Option Addr} {n c : Nat} {d : List Nat} {A1 : Option Addr} {n1 c1 : Nat} {d1 : List Nat} {A2 : Option Addr} {n2 c2 : Nat} {d2 : List Nat} (room : n1 + n2 ≤ 1048576) (hn : n ≤ 1024) (hn2 : n2 ≤ 512) (hb : 512 < n1 + n2)  (w : World) (h : Rd w A n c (bcells d)) (h1 : Rd w A1 n1 c1 (bcells d1)) (h2 : Rd w A2 n2 c2 (bcells d2)) :
    Calls Try.prog 7 #[.slice A n c, .slice A1 n1 c1, .slice A2 n2 c2] w fun e w' => e = .returned (.bool true) ∧ Below w.heap.size w w' := by
  obtain ⟨j0, bi, bz0, bz1, bz2⟩ := info_parts byte_info
  obtain ⟨N, hN⟩ : ∃ N, N = n1 + n2 := ⟨_, rfl⟩
  have HNN := Lib.hid hN
  have hN1 : N = n1 + n2 := hN
  have HEN := Lib.hid (show d.length = n by have := h.len; rwa [bcells_length] at this)
  have HEN2 := Lib.hid (show d2.length = n2 by have := h2.len; rwa [bcells_length] at this)
  have HENA := Lib.hid (show (d1 ++ d2).length = N by have a := h1.len; have b := h2.len; rw [bcells_length] at a b; rw [List.length_append, a, b, hN])
  have HBC := Lib.hid (show bcells d1 ++ bcells d2 = bcells (d1 ++ d2) by simp [bcells])
  have z0 : 0 + n1 = n1 := Nat.zero_add n1
  go_enter Try.func7, Try.ntmps7
  go_wp2_with (at_builtin; refine wpList_append_any _ rfl _ _ _ rfl w.heap.size 5 j0 _ 1 Try.underlying22 bi bz0 bz1 bz2 rfl _ _ _ rfl (World.ownsRow_nil _ _ _ _) _ _ n1 c1 _ rfl h1 (bcells_one _) ?g1 ?g2 (Nat.le_refl _) ?_)
  case g1 => unfold maxLen; omega
  case g2 => omega
  intro A3 c3 w3 o3 g3 a3
  have Y3 := (Below.refl w.heap.size w).grown g3 (Nat.le_refl _) (fun g hg => by cases hg)
  (try simp only [Nat.zero_add, List.nil_append] at o3)
  have HO3 := Lib.hid o3
  have D3 := h2.on Y3
  have Y3s := Y3.size
  clear o3 g3 a3
  go_wp2_with (at_builtin; refine wpList_append_any _ rfl _ _ _ rfl w.heap.size 5 j0 _ 1 Try.underlying22 bi bz0 bz1 bz2 rfl _ _ _ rfl (by have := HO3.out; (try rw [z0] at this); (try rw [z0]); exact this) _ _ n2 c2 _ rfl D3 (bcells_one _) ?g1 ?g2 Y3s ?_)
  case g1 => unfold maxLen; omega
  case g2 => omega
  intro A4 c4 w4 o4 g4 a4
  have Z4 := below_grown Y3 (by have := HO3.out; (try rw [z0] at this); (try rw [z0]); exact this) g4 (Nat.le_refl _) Y3s
  rw [HBC.out] at o4
  (try simp only [Nat.zero_add])
  (try simp only [Nat.zero_add] at o4)
  rw [← HNN.out] at o4
  try rw [← HNN.out]
  have R_4 := Rd.on h Z4
  have S_4 := Rd.on h2 Z4
  have L_4 := Rd.own o4
  clear o4 g4 a4 D3 HO3 Y3 Y3s h h1 h2 z0 hN bi bz0 bz1 bz2 hN1
  go_wp2_with fail
  refine (parse_api R_4 S_4 hn hn2).mono ?_
  rintro e w5 ⟨B1, m1, k1, ts, rfl, ⟨P1, PT⟩, y5⟩
  have R_5 := (R_4.on y5).alloc (.cells #[.int .i64 0, .int .i64 0] 25)
  have S_5 := (S_4.on y5).alloc (.cells #[.int .i64 0, .int .i64 0] 25)
  have L_5 := (L_4.on y5).alloc (.cells #[.int .i64 0, .int .i64 0] 25)
  have P_5 := (P1).alloc (.cells #[.int .i64 0, .int .i64 0] 25)
  have F_5 := (Two.new w5 25 (.int .i64 0) (.int .i64 0))
  clear R_4 S_4 L_4
  have z5 := Z4.trans (y5.mono Z4.size)
  have Z5 := (z5).alloc (by have := z5.size; omega) (.cells #[.int .i64 0, .int .i64 0] 25)
  have F_5_c0 := F_5.c0
  have F_5_c1 := F_5.c1
  go_wp2_with fail
  refine (lzparse_dict hn (show 512 < N by have := HNN.out; omega)).mono ?_
  rintro e w6 ⟨rfl, y6⟩
  have R_6 := (R_5.on y6).alloc (.cells #[.int .i64 3, .int .i64 (-2)] 25)
  have S_6 := (S_5.on y6).alloc (.cells #[.int .i64 3, .int .i64 (-2)] 25)
  have L_6 := (L_5.on y6).alloc (.cells #[.int .i64 3, .int .i64 (-2)] 25)
  have P_6 := (P_5.on y6).alloc (.cells #[.int .i64 3, .int .i64 (-2)] 25)
  have F_6 := (F_5.on y6).alloc (.cells #[.int .i64 3, .int .i64 (-2)] 25)
  have G_6 := (Two.new w6 25 (.int .i64 3) (.int .i64 (-2)))
  clear R_5 S_5 L_5 P_5 F_5 F_5_c0 F_5_c1
  have z6 := Z5.trans (y6.mono Z5.size)
  have Z6 := (z6).alloc (by have := z6.size; omega) (.cells #[.int .i64 3, .int .i64 (-2)] 25)
  have F_6_c0 := F_6.c0
  have F_6_c1 := F_6.c1
  have G_6_c0 := G_6.c0
  have G_6_c1 := G_6.c1
  go_wp2_with fail
  refine (matches_true _).mono ?_
  rintro e w7 ⟨rfl, y7⟩
  have R_7 := R_6.on y7
  have S_7 := S_6.on y7
  have L_7 := L_6.on y7
  have P_7 := P_6.on y7
  have F_7 := F_6.on y7
  have G_7 := G_6.on y7
  clear R_6 S_6 L_6 P_6 F_6 F_6_c0 F_6_c1 G_6 G_6_c0 G_6_c1
  have z7 := Z6.trans (y7.mono Z6.size)
  have Z7 := z7
  have F_7_c0 := F_7.c0
  have F_7_c1 := F_7.c1
  have G_7_c0 := G_7.c0
  have G_7_c1 := G_7.c1
  go_wp2_with fail
  refine (matches_true _).mono ?_
  rintro e w8 ⟨rfl, y8⟩
  have R_8 := R_7.on y8
  have S_8 := S_7.on y8
  have L_8 := L_7.on y8
  have P_8 := P_7.on y8
  have F_8 := F_7.on y8
  have G_8 := G_7.on y8
  clear R_7 S_7 L_7 P_7 F_7 F_7_c0 F_7_c1 G_7 G_7_c0 G_7_c1
  have z8 := Z7.trans (y8.mono Z7.size)
  have Z8 := z8
  have F_8_c0 := F_8.c0
  have F_8_c1 := F_8.c1
  have G_8_c0 := G_8.c0
  have G_8_c1 := G_8.c1
  go_wp2
  go_ret
  exact ⟨rfl, Z8⟩
set_option maxRecDepth 100000 in
set_option maxHeartbeats 3200000 in
theorem mo_ok {A : Option Addr} {n c : Nat} {d : List Nat} {A1 : Option Addr} {n1 c1 : Nat} {d1 : List Nat} {A2 : Option Addr} {n2 c2 : Nat} {d2 : List Nat} (room : n1 + n2 ≤ 1048576) (hn : n ≤ 1024) (hn2 : n2 ≤ 512) (hb : n1 + n2 ≤ 512)  (w : World) (h : Rd w A n c (bcells d)) (h1 : Rd w A1 n1 c1 (bcells d1)) (h2 : Rd w A2 n2 c2 (bcells d2)) :
    Calls Try.prog 7 #[.slice A n c, .slice A1 n1 c1, .slice A2 n2 c2] w fun e w' => e = .returned (.bool true) ∧ Below w.heap.size w w' := by
  obtain ⟨j0, bi, bz0, bz1, bz2⟩ := info_parts byte_info
  obtain ⟨N, hN⟩ : ∃ N, N = n1 + n2 := ⟨_, rfl⟩
  have HNN := Lib.hid hN
  have hN1 : N = n1 + n2 := hN
  have HEN := Lib.hid (show d.length = n by have := h.len; rwa [bcells_length] at this)
  have HEN2 := Lib.hid (show d2.length = n2 by have := h2.len; rwa [bcells_length] at this)
  have HENA := Lib.hid (show (d1 ++ d2).length = N by have a := h1.len; have b := h2.len; rw [bcells_length] at a b; rw [List.length_append, a, b, hN])
  have HBC := Lib.hid (show bcells d1 ++ bcells d2 = bcells (d1 ++ d2) by simp [bcells])
  have z0 : 0 + n1 = n1 := Nat.zero_add n1
  go_enter Try.func7, Try.ntmps7
  go_wp2_with (at_builtin; refine wpList_append_any _ rfl _ _ _ rfl w.heap.size 5 j0 _ 1 Try.underlying22 bi bz0 bz1 bz2 rfl _ _ _ rfl (World.ownsRow_nil _ _ _ _) _ _ n1 c1 _ rfl h1 (bcells_one _) ?g1 ?g2 (Nat.le_refl _) ?_)
  case g1 => unfold maxLen; omega
  case g2 => omega
  intro A3 c3 w3 o3 g3 a3
  have Y3 := (Below.refl w.heap.size w).grown g3 (Nat.le_refl _) (fun g hg => by cases hg)
  (try simp only [Nat.zero_add, List.nil_append] at o3)
  have HO3 := Lib.hid o3
  have D3 := h2.on Y3
  have Y3s := Y3.size
  clear o3 g3 a3
  go_wp2_with (at_builtin; refine wpList_append_any _ rfl _ _ _ rfl w.heap.size 5 j0 _ 1 Try.underlying22 bi bz0 bz1 bz2 rfl _ _ _ rfl (by have := HO3.out; (try rw [z0] at this); (try rw [z0]); exact this) _ _ n2 c2 _ rfl D3 (bcells_one _) ?g1 ?g2 Y3s ?_)
  case g1 => unfold maxLen; omega
  case g2 => omega
  intro A4 c4 w4 o4 g4 a4
  have Z4 := below_grown Y3 (by have := HO3.out; (try rw [z0] at this); (try rw [z0]); exact this) g4 (Nat.le_refl _) Y3s
  rw [HBC.out] at o4
  (try simp only [Nat.zero_add])
  (try simp only [Nat.zero_add] at o4)
  rw [← HNN.out] at o4
  try rw [← HNN.out]
  have R_4 := Rd.on h Z4
  have S_4 := Rd.on h2 Z4
  have L_4 := Rd.own o4
  clear o4 g4 a4 D3 HO3 Y3 Y3s h h1 h2 z0 hN bi bz0 bz1 bz2 hN1
  go_wp2_with fail
  refine (parse_api R_4 S_4 hn hn2).mono ?_
  rintro e w5 ⟨B1, m1, k1, ts, rfl, ⟨P1, PT⟩, y5⟩
  have R_5 := (R_4.on y5).alloc (.cells #[.int .i64 0, .int .i64 0] 25)
  have S_5 := (S_4.on y5).alloc (.cells #[.int .i64 0, .int .i64 0] 25)
  have L_5 := (L_4.on y5).alloc (.cells #[.int .i64 0, .int .i64 0] 25)
  have P_5 := (P1).alloc (.cells #[.int .i64 0, .int .i64 0] 25)
  have F_5 := (Two.new w5 25 (.int .i64 0) (.int .i64 0))
  clear R_4 S_4 L_4
  have z5 := Z4.trans (y5.mono Z4.size)
  have Z5 := (z5).alloc (by have := z5.size; omega) (.cells #[.int .i64 0, .int .i64 0] 25)
  have F_5_c0 := F_5.c0
  have F_5_c1 := F_5.c1
  go_wp2_with fail
  refine (parse_api R_5 L_5 hn (show N ≤ 512 by have := HNN.out; omega)).mono ?_
  rintro e w6 ⟨B2, m2, k2, us, rfl, ⟨Q1, PU⟩, y6⟩
  have R_6 := (R_5.on y6).alloc (.cells #[.int .i64 0, .int .i64 0] 25)
  have S_6 := (S_5.on y6).alloc (.cells #[.int .i64 0, .int .i64 0] 25)
  have L_6 := (L_5.on y6).alloc (.cells #[.int .i64 0, .int .i64 0] 25)
  have P_6 := (P_5.on y6).alloc (.cells #[.int .i64 0, .int .i64 0] 25)
  have F_6 := (F_5.on y6).alloc (.cells #[.int .i64 0, .int .i64 0] 25)
  have Q_6 := (Q1).alloc (.cells #[.int .i64 0, .int .i64 0] 25)
  have G_6 := (Two.new w6 25 (.int .i64 0) (.int .i64 0))
  clear R_5 S_5 L_5 P_5 F_5 F_5_c0 F_5_c1
  have z6 := Z5.trans (y6.mono Z5.size)
  have Z6 := (z6).alloc (by have := z6.size; omega) (.cells #[.int .i64 0, .int .i64 0] 25)
  have F_6_c0 := F_6.c0
  have F_6_c1 := F_6.c1
  have G_6_c0 := G_6.c0
  have G_6_c1 := G_6.c1
  go_wp2_with fail
  refine (matches_true _).mono ?_
  rintro e w7 ⟨rfl, y7⟩
  have R_7 := R_6.on y7
  have S_7 := S_6.on y7
  have L_7 := L_6.on y7
  have P_7 := P_6.on y7
  have F_7 := F_6.on y7
  have Q_7 := Q_6.on y7
  have G_7 := G_6.on y7
  clear R_6 S_6 L_6 P_6 F_6 F_6_c0 F_6_c1 Q_6 G_6 G_6_c0 G_6_c1
  have z7 := Z6.trans (y7.mono Z6.size)
  have Z7 := z7
  have F_7_c0 := F_7.c0
  have F_7_c1 := F_7.c1
  have G_7_c0 := G_7.c0
  have G_7_c1 := G_7.c1
  obtain ⟨ct, hct⟩ : ∃ ct, ct = costs ts := ⟨_, rfl⟩
  obtain ⟨cu, hcu⟩ : ∃ cu, cu = costs us := ⟨_, rfl⟩
  have hle : cu ≤ ct := by rw [hct, hcu]; exact PT.more PU (by rw [HEN.out]; exact hn) (by rw [HENA.out]; have := HNN.out; omega)
  have kle : decide (((cu : Nat) : Int) ≤ ((ct : Nat) : Int)) = true := by simp; exact hle
  have HCT := Lib.hid hct
  have HCU := Lib.hid hcu
  clear hct hcu
  go_wp2_with fail
  refine (cost_api P_7 PT (by rw [HEN.out]; exact hn) (by rw [HEN2.out]; exact hn2) ct HCT.out).mono ?_
  rintro e w8 ⟨rfl, y8⟩
  have R_8 := (R_7.on y8).alloc (.cells #[.int .i64 0, .int .i64 0] 25)
  have S_8 := (S_7.on y8).alloc (.cells #[.int .i64 0, .int .i64 0] 25)
  have L_8 := (L_7.on y8).alloc (.cells #[.int .i64 0, .int .i64 0] 25)
  have P_8 := (P_7.on y8).alloc (.cells #[.int .i64 0, .int .i64 0] 25)
  have F_8 := (F_7.on y8).alloc (.cells #[.int .i64 0, .int .i64 0] 25)
  have Q_8 := (Q_7.on y8).alloc (.cells #[.int .i64 0, .int .i64 0] 25)
  have G_8 := (G_7.on y8).alloc (.cells #[.int .i64 0, .int .i64 0] 25)
  have H_8 := (Two.new w8 25 (.int .i64 0) (.int .i64 0))
  clear R_7 S_7 L_7 P_7 F_7 F_7_c0 F_7_c1 Q_7 G_7 G_7_c0 G_7_c1
  have z8 := Z7.trans (y8.mono Z7.size)
  have Z8 := (z8).alloc (by have := z8.size; omega) (.cells #[.int .i64 0, .int .i64 0] 25)
  have F_8_c0 := F_8.c0
  have F_8_c1 := F_8.c1
  have G_8_c0 := G_8.c0
  have G_8_c1 := G_8.c1
  have H_8_c0 := H_8.c0
  have H_8_c1 := H_8.c1
  go_wp2_with fail
  refine (cost_api Q_8 PU (by rw [HEN.out]; exact hn) (by rw [HENA.out]; have := HNN.out; omega) cu HCU.out).mono ?_
  rintro e w9 ⟨rfl, y9⟩
  have R_9 := (R_8.on y9).alloc (.cells #[.int .i64 0, .int .i64 0] 25)
  have S_9 := (S_8.on y9).alloc (.cells #[.int .i64 0, .int .i64 0] 25)
  have L_9 := (L_8.on y9).alloc (.cells #[.int .i64 0, .int .i64 0] 25)
  have P_9 := (P_8.on y9).alloc (.cells #[.int .i64 0, .int .i64 0] 25)
  have F_9 := (F_8.on y9).alloc (.cells #[.int .i64 0, .int .i64 0] 25)
  have Q_9 := (Q_8.on y9).alloc (.cells #[.int .i64 0, .int .i64 0] 25)
  have G_9 := (G_8.on y9).alloc (.cells #[.int .i64 0, .int .i64 0] 25)
  have H_9 := (H_8.on y9).alloc (.cells #[.int .i64 0, .int .i64 0] 25)
  have I_9 := (Two.new w9 25 (.int .i64 0) (.int .i64 0))
  clear R_8 S_8 L_8 P_8 F_8 F_8_c0 F_8_c1 Q_8 G_8 G_8_c0 G_8_c1 H_8 H_8_c0 H_8_c1
  have z9 := Z8.trans (y9.mono Z8.size)
  have Z9 := (z9).alloc (by have := z9.size; omega) (.cells #[.int .i64 0, .int .i64 0] 25)
  have F_9_c0 := F_9.c0
  have F_9_c1 := F_9.c1
  have G_9_c0 := G_9.c0
  have G_9_c1 := G_9.c1
  have H_9_c0 := H_9.c0
  have H_9_c1 := H_9.c1
  have I_9_c0 := I_9.c0
  have I_9_c1 := I_9.c1
  go_wp2
  go_ret
  exact ⟨rfl, Z9⟩
theorem mo_every {A : Option Addr} {n c : Nat} {d : List Nat} {A1 : Option Addr} {n1 c1 : Nat} {d1 : List Nat} {A2 : Option Addr} {n2 c2 : Nat} {d2 : List Nat} (room : n1 + n2 ≤ 1048576) (w : World) (h : Rd w A n c (bcells d)) (h1 : Rd w A1 n1 c1 (bcells d1)) (h2 : Rd w A2 n2 c2 (bcells d2)) :
    Calls Try.prog 7 #[.slice A n c, .slice A1 n1 c1, .slice A2 n2 c2] w fun e w' => e = .returned (.bool true) ∧ Below w.heap.size w w' := by
  by_cases g1 : 1024 < n
  · exact mo_long room g1 w h h1 h2
  by_cases g2 : 512 < n2
  · exact mo_dict room (by omega) g2 w h h1 h2
  by_cases g3 : 512 < n1 + n2
  · exact mo_all room (by omega) (by omega) g3 w h h1 h2
  · exact mo_ok room (by omega) (by omega) (by omega) w h h1 h2
end PB
end Go.Proofs.Ytlhglomhfbbinaa
