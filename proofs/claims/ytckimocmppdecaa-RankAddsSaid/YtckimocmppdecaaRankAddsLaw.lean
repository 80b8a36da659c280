/-
  Ranks in joined bit strings are sums of ranks: the walk of the statement RankAdds.
-/
import Derived.Test.YtckimocmppdecaaRows
import Derived.Test.YtckimocmppdecaaRankEx
import Derived.Test.YtckimocmppdecaaBitsApi2
import Derived.Deep.RegionHeld3
import Derived.Deep.DrawnRows
namespace Go.Proofs.Ytckimocmppdecaa
open Go.RowKit
attribute [local go_sem ↓] Go.wp_at_zero Go.wp_at_succ
set_option linter.unusedVariables false
set_option linter.unusedSimpArgs false
namespace PB
theorem join2_err {x y : BItem} {code idx : Int} {w : World} (hx : Rd w x.A x.n x.c (bcells x.d)) (hy : Rd w y.A y.n y.c (bcells y.d)) (wx : x.wf) (wy : y.wf) (hJ : JOut [x, y] code idx) (hc : code ≠ 0) (xA : Option Addr) (xn xc : Nat) (xi : Int) (yA : Option Addr) (yn yc : Nat) (yi : Int) (e1 : x.A = xA) (e2 : x.n = xn) (e3 : x.c = xc) (e4 : x.cnt = xi) (e5 : y.A = yA) (e6 : y.n = yn) (e7 : y.c = yc) (e8 : y.cnt = yi) (g : Nat) (hg : g = w.heap.size) :
    Calls Try.prog 27 #[.slice (some ⟨g, 0, none⟩) 2 2] (w.alloc (.cells #[.slice xA xn xc, .int .i64 xi, .slice yA yn yc, .int .i64 yi] 24)) fun e w' =>
      ∃ A' n' c', e = .returned (.tuple #[.agg #[.slice A' n' c', .int .i64 0], .agg #[.int .i64 code, .int .i64 idx]]) ∧ Rd w' A' n' c' (bcells []) ∧ Below w.heap.size w w' := by
  subst e1 e2 e3 e4 e5 e6 e7 e8 hg
  have hwf : ∀ z ∈ [x, y], z.wf := by
    intro z hz
    simp at hz
    rcases hz with rfl | rfl
    · exact wx
    · exact wy
  refine (join_any (RdB.two hx hy) hwf hJ).mono ?_
  rintro e w' ⟨A', n', c', rfl, ho, hb⟩
  have er : JRes [x, y] code idx = [] := by unfold JRes; rw [if_neg hc]
  rw [er] at ho ⊢
  exact ⟨A', n', c', rfl, Rd.own ho, ((Below.refl _ _).alloc (Nat.le_refl _) _).trans (hb.mono (by simp))⟩
theorem join2_ok {Ax Ay : Option Addr} {nx cx ny cy : Nat} {L R J : List Nat} {w : World} (hx : Rd w Ax nx cx (bcells (pack L))) (hy : Rd w Ay ny cy (bcells (pack R))) (gL : Is01 L) (gR : Is01 R) (hs : L.length + R.length ≤ 131072) (hJ : J = L ++ R) (cj : Int) (hcj : cj = (J.length : Nat)) (g : Nat) (hg : g = w.heap.size) :
    Calls Try.prog 27 #[.slice (some ⟨g, 0, none⟩) 2 2] (w.alloc (.cells #[.slice Ax nx cx, .int .i64 (L.length : Nat), .slice Ay ny cy, .int .i64 (R.length : Nat)] 24)) fun e w' =>
      ∃ A' n' c', e = .returned (.tuple #[.agg #[.slice A' n' c', .int .i64 cj], .agg #[.int .i64 0, .int .i64 0]]) ∧ Rd w' A' n' c' (bcells (pack J)) ∧ Below w.heap.size w w' := by
  subst hcj
  exact api_join2 hx hy gL gR hs hJ _ _ rfl rfl g hg
theorem open_ok2 {A : Option Addr} {n c : Nat} {l : List Nat} {ci : Int} {w : World} (hci : ci = (l.length : Nat)) (h : Rd w A n c (bcells (pack l))) (h01 : Is01 l) (hl : l.length ≤ 131072) :
    Calls Try.prog 23 #[.agg #[.slice A n c, .int .i64 ci]] w fun e w' => ∃ A1 c1 A2 n2 c2, e = .returned (.tuple #[.agg #[.slice A1 n c1, .int .i64 ci, .slice A2 n2 c2], .agg #[.int .i64 0, .int .i64 0]]) ∧
      Rd w' A1 n c1 (bcells (pack l)) ∧ Rd w' A2 n2 c2 (ncells (sumsL l)) ∧ Below w.heap.size w w' := by
  subst hci
  exact open_ok h h01 hl
theorem samebits_nil2 (A : Option Addr) (n c : Nat) {w : World} (h : Rd w A n c (bcells [])) :
    Calls Try.prog 28 #[.agg #[.slice A n c, .int .i64 0], .agg #[.slice none 0 0, .int .i64 0]] w fun e w' => e = .returned (.bool true) ∧ Below w.heap.size w w' :=
  samebits_any A n c [] 0 none 0 0 [] 0 w h (Rd.none_ w) (by simp) (by simp) true (by simp)
set_option maxRecDepth 100000 in
set_option maxHeartbeats 3200000 in
theorem ra_e {Ax : Option Addr} {nx cx : Nat} {Ay : Option Addr} {ny cy : Nat} {ii : Int} (hilo : -9223372036854775808 ≤ ii) (hihi : ii ≤ 9223372036854775807) {dx : List Nat} {cntx : Int} {dy : List Nat} {cnty : Int} (wx : (⟨Ax, nx, cx, dx, cntx⟩ : BItem).wf) (wy : (⟨Ay, ny, cy, dy, cnty⟩ : BItem).wf) {code idx : Int} (hJ : JOut [⟨Ax, nx, cx, dx, cntx⟩, ⟨Ay, ny, cy, dy, cnty⟩] code idx) (hc : code ≠ 0)  (w : World) (hx : Rd w Ax nx cx (bcells dx)) (hy : Rd w Ay ny cy (bcells dy)) :
    Calls Try.prog 7 #[.agg #[.slice Ax nx cx, .int .i64 cntx], .agg #[.slice Ay ny cy, .int .i64 cnty], .int .i64 ii] w fun e w' => e = .returned (.bool true) ∧ Below w.heap.size w w' := by
  have k1 : (code != 0) = true := by rw [bne_iff_ne]; exact hc
  have k2 : (code == 0) = false := by rw [beq_eq_false_iff_ne]; exact hc
  have HJN := Lib.hid (fun W (h1 : Rd W Ax nx cx (bcells dx)) (h2 : Rd W Ay ny cy (bcells dy)) => join2_err (w := W) h1 h2 wx wy hJ hc Ax nx cx cntx Ay ny cy cnty rfl rfl rfl rfl rfl rfl rfl rfl)
  clear hJ hc wx wy
  have R_0 := ((hx).alloc (.cells #[.slice Ax nx cx, .int .i64 cntx] 24)).alloc (.cells #[.slice Ay ny cy, .int .i64 cnty] 24)
  have Q_0 := ((hy).alloc (.cells #[.slice Ax nx cx, .int .i64 cntx] 24)).alloc (.cells #[.slice Ay ny cy, .int .i64 cnty] 24)
  have A_0 := ((Two.new w 24 (.slice Ax nx cx) (.int .i64 cntx))).alloc (.cells #[.slice Ay ny cy, .int .i64 cnty] 24)
  have B_0 := (Two.new1 w (.cells #[.slice Ax nx cx, .int .i64 cntx] 24) 24 (.slice Ay ny cy) (.int .i64 cnty))
  have Z0 := ((Below.refl w.heap.size w).alloc (by simp) (.cells #[.slice Ax nx cx, .int .i64 cntx] 24)).alloc (by simp) (.cells #[.slice Ay ny cy, .int .i64 cnty] 24)
  have A_0_c0 := A_0.c0
  have A_0_c1 := A_0.c1
  have B_0_c0 := B_0.c0
  have B_0_c1 := B_0.c1
  go_enter Try.func7, Try.ntmps7
  go_wp2_with fail
  refine (HJN.out _ R_0 Q_0 _ (by simp)).mono ?_
  rintro e w1 ⟨Az, nz, cz, rfl, RZ, y1⟩
  have R_1 := ((R_0.on y1).alloc (.cells #[.slice Az nz cz, .int .i64 0] 24)).alloc (.cells #[.int .i64 code, .int .i64 idx] 29)
  have Q_1 := ((Q_0.on y1).alloc (.cells #[.slice Az nz cz, .int .i64 0] 24)).alloc (.cells #[.int .i64 code, .int .i64 idx] 29)
  have A_1 := ((A_0.on y1).alloc (.cells #[.slice Az nz cz, .int .i64 0] 24)).alloc (.cells #[.int .i64 code, .int .i64 idx] 29)
  have B_1 := ((B_0.on y1).alloc (.cells #[.slice Az nz cz, .int .i64 0] 24)).alloc (.cells #[.int .i64 code, .int .i64 idx] 29)
  have Z0_1 := ((RZ).alloc (.cells #[.slice Az nz cz, .int .i64 0] 24)).alloc (.cells #[.int .i64 code, .int .i64 idx] 29)
  have Z_1 := ((Two.new w1 24 (.slice Az nz cz) (.int .i64 0))).alloc (.cells #[.int .i64 code, .int .i64 idx] 29)
  have F_1 := (Two.new1 w1 (.cells #[.slice Az nz cz, .int .i64 0] 24) 29 (.int .i64 code) (.int .i64 idx))
  clear R_0 Q_0 A_0 A_0_c0 A_0_c1 B_0 B_0_c0 B_0_c1
  have z1 := Z0.trans (y1.mono Z0.size)
  have Z1 := ((z1).alloc (by have := z1.size; omega) (.cells #[.slice Az nz cz, .int .i64 0] 24)).alloc (by have := z1.size; simp; omega) (.cells #[.int .i64 code, .int .i64 idx] 29)
  have A_1_c0 := A_1.c0
  have A_1_c1 := A_1.c1
  have B_1_c0 := B_1.c0
  have B_1_c1 := B_1.c1
  have Z_1_c0 := Z_1.c0
  have Z_1_c1 := Z_1.c1
  have F_1_c0 := F_1.c0
  have F_1_c1 := F_1.c1
  go_wp2_with fail
  refine (ranks_true _).mono ?_
  rintro e w2 ⟨rfl, y2⟩
  have R_2 := R_1.on y2
  have Q_2 := Q_1.on y2
  have A_2 := A_1.on y2
  have B_2 := B_1.on y2
  have Z0_2 := Z0_1.on y2
  have Z_2 := Z_1.on y2
  have F_2 := F_1.on y2
  clear R_1 Q_1 A_1 A_1_c0 A_1_c1 B_1 B_1_c0 B_1_c1 Z0_1 Z_1 Z_1_c0 Z_1_c1 F_1 F_1_c0 F_1_c1
  have z2 := Z1.trans (y2.mono Z1.size)
  have Z2 := z2
  have A_2_c0 := A_2.c0
  have A_2_c1 := A_2.c1
  have B_2_c0 := B_2.c0
  have B_2_c1 := B_2.c1
  have Z_2_c0 := Z_2.c0
  have Z_2_c1 := Z_2.c1
  have F_2_c0 := F_2.c0
  have F_2_c1 := F_2.c1
  go_wp2_with fail
  refine (ranks_true _).mono ?_
  rintro e w3 ⟨rfl, y3⟩
  have R_3 := R_2.on y3
  have Q_3 := Q_2.on y3
  have A_3 := A_2.on y3
  have B_3 := B_2.on y3
  have Z0_3 := Z0_2.on y3
  have Z_3 := Z_2.on y3
  have F_3 := F_2.on y3
  clear R_2 Q_2 A_2 A_2_c0 A_2_c1 B_2 B_2_c0 B_2_c1 Z0_2 Z_2 Z_2_c0 Z_2_c1 F_2 F_2_c0 F_2_c1
  have z3 := Z2.trans (y3.mono Z2.size)
  have Z3 := z3
  have A_3_c0 := A_3.c0
  have A_3_c1 := A_3.c1
  have B_3_c0 := B_3.c0
  have B_3_c1 := B_3.c1
  have Z_3_c0 := Z_3.c0
  have Z_3_c1 := Z_3.c1
  have F_3_c0 := F_3.c0
  have F_3_c1 := F_3.c1
  go_wp2_with fail
  refine (samebits_nil2 _ _ _ Z0_3).mono ?_
  rintro e w4 ⟨rfl, y4⟩
  have R_4 := R_3.on y4
  have Q_4 := Q_3.on y4
  have A_4 := A_3.on y4
  have B_4 := B_3.on y4
  have Z0_4 := Z0_3.on y4
  have Z_4 := Z_3.on y4
  have F_4 := F_3.on y4
  clear R_3 Q_3 A_3 A_3_c0 A_3_c1 B_3 B_3_c0 B_3_c1 Z0_3 Z_3 Z_3_c0 Z_3_c1 F_3 F_3_c0 F_3_c1
  have z4 := Z3.trans (y4.mono Z3.size)
  have Z4 := z4
  have A_4_c0 := A_4.c0
  have A_4_c1 := A_4.c1
  have B_4_c0 := B_4.c0
  have B_4_c1 := B_4.c1
  have Z_4_c0 := Z_4.c0
  have Z_4_c1 := Z_4.c1
  have F_4_c0 := F_4.c0
  have F_4_c1 := F_4.c1
  go_wp2
  go_ret
  exact ⟨rfl, Z4⟩
set_option maxRecDepth 100000 in
set_option maxHeartbeats 3200000 in
theorem ra_out {Ax : Option Addr} {nx cx : Nat} {Ay : Option Addr} {ny cy : Nat} {ii : Int} (hilo : -9223372036854775808 ≤ ii) (hihi : ii ≤ 9223372036854775807) {L : List Nat} (l01 : Is01 L) {R : List Nat} (r01 : Is01 R) (hs : L.length + R.length ≤ 131072) (hio : ii < 0 ∨ ((R.length : Nat) : Int) < ii)  (w : World) (hx : Rd w Ax nx cx (bcells (pack L))) (hy : Rd w Ay ny cy (bcells (pack R))) :
    Calls Try.prog 7 #[.agg #[.slice Ax nx cx, .int .i64 (L.length : Nat)], .agg #[.slice Ay ny cy, .int .i64 (R.length : Nat)], .int .i64 ii] w fun e w' => e = .returned (.bool true) ∧ Below w.heap.size w w' := by
  have L01 := Lib.hid l01
  have R01 := Lib.hid r01
  obtain ⟨J, hJ⟩ : ∃ J, J = L ++ R := ⟨_, rfl⟩
  have HJ := Lib.hid hJ
  obtain ⟨cj, hcj⟩ : ∃ cj, cj = ((J.length : Nat) : Int) := ⟨_, rfl⟩
  have u1 : IntKind.i64.wrap (((L.length : Nat) : Int) + ((R.length : Nat) : Int)) = cj := by rw [hcj, hJ, List.length_append, Int.natCast_add]; exact IntWalk.i64_in _ (by omega)
  have HJL := Lib.hid hcj
  clear hcj
  have J01 := Lib.hid (show Is01 J by rw [hJ]; exact Is01.append l01 r01)
  have hjl := Lib.hid (show J.length ≤ 131072 by rw [hJ, List.length_append]; omega)
  clear hJ l01 r01
  have R_0 := ((hx).alloc (.cells #[.slice Ax nx cx, .int .i64 (L.length : Nat)] 24)).alloc (.cells #[.slice Ay ny cy, .int .i64 (R.length : Nat)] 24)
  have Q_0 := ((hy).alloc (.cells #[.slice Ax nx cx, .int .i64 (L.length : Nat)] 24)).alloc (.cells #[.slice Ay ny cy, .int .i64 (R.length : Nat)] 24)
  have A_0 := ((Two.new w 24 (.slice Ax nx cx) (.int .i64 (L.length : Nat)))).alloc (.cells #[.slice Ay ny cy, .int .i64 (R.length : Nat)] 24)
  have B_0 := (Two.new1 w (.cells #[.slice Ax nx cx, .int .i64 (L.length : Nat)] 24) 24 (.slice Ay ny cy) (.int .i64 (R.length : Nat)))
  have Z0 := ((Below.refl w.heap.size w).alloc (by simp) (.cells #[.slice Ax nx cx, .int .i64 (L.length : Nat)] 24)).alloc (by simp) (.cells #[.slice Ay ny cy, .int .i64 (R.length : Nat)] 24)
  have A_0_c0 := A_0.c0
  have A_0_c1 := A_0.c1
  have B_0_c0 := B_0.c0
  have B_0_c1 := B_0.c1
  go_enter Try.func7, Try.ntmps7
  go_wp2_with fail
  refine (join2_ok R_0 Q_0 L01.out R01.out hs HJ.out (cj) HJL.out _ (by simp)).mono ?_
  rintro e w1 ⟨Az, nz, cz, rfl, RZ, y1⟩
  have R_1 := ((R_0.on y1).alloc (.cells #[.slice Az nz cz, .int .i64 (cj)] 24)).alloc (.cells #[.int .i64 0, .int .i64 0] 29)
  have Q_1 := ((Q_0.on y1).alloc (.cells #[.slice Az nz cz, .int .i64 (cj)] 24)).alloc (.cells #[.int .i64 0, .int .i64 0] 29)
  have A_1 := ((A_0.on y1).alloc (.cells #[.slice Az nz cz, .int .i64 (cj)] 24)).alloc (.cells #[.int .i64 0, .int .i64 0] 29)
  have B_1 := ((B_0.on y1).alloc (.cells #[.slice Az nz cz, .int .i64 (cj)] 24)).alloc (.cells #[.int .i64 0, .int .i64 0] 29)
  have Z0_1 := ((RZ).alloc (.cells #[.slice Az nz cz, .int .i64 (cj)] 24)).alloc (.cells #[.int .i64 0, .int .i64 0] 29)
  have Z_1 := ((Two.new w1 24 (.slice Az nz cz) (.int .i64 (cj)))).alloc (.cells #[.int .i64 0, .int .i64 0] 29)
  have F_1 := (Two.new1 w1 (.cells #[.slice Az nz cz, .int .i64 (cj)] 24) 29 (.int .i64 0) (.int .i64 0))
  clear R_0 Q_0 A_0 A_0_c0 A_0_c1 B_0 B_0_c0 B_0_c1
  have z1 := Z0.trans (y1.mono Z0.size)
  have Z1 := ((z1).alloc (by have := z1.size; omega) (.cells #[.slice Az nz cz, .int .i64 (cj)] 24)).alloc (by have := z1.size; simp; omega) (.cells #[.int .i64 0, .int .i64 0] 29)
  have A_1_c0 := A_1.c0
  have A_1_c1 := A_1.c1
  have B_1_c0 := B_1.c0
  have B_1_c1 := B_1.c1
  have Z_1_c0 := Z_1.c0
  have Z_1_c1 := Z_1.c1
  have F_1_c0 := F_1.c0
  have F_1_c1 := F_1.c1
  go_wp2_with fail
  refine (ranks_true _).mono ?_
  rintro e w2 ⟨rfl, y2⟩
  have R_2 := R_1.on y2
  have Q_2 := Q_1.on y2
  have A_2 := A_1.on y2
  have B_2 := B_1.on y2
  have Z0_2 := Z0_1.on y2
  have Z_2 := Z_1.on y2
  have F_2 := F_1.on y2
  clear R_1 Q_1 A_1 A_1_c0 A_1_c1 B_1 B_1_c0 B_1_c1 Z0_1 Z_1 Z_1_c0 Z_1_c1 F_1 F_1_c0 F_1_c1
  have z2 := Z1.trans (y2.mono Z1.size)
  have Z2 := z2
  have A_2_c0 := A_2.c0
  have A_2_c1 := A_2.c1
  have B_2_c0 := B_2.c0
  have B_2_c1 := B_2.c1
  have Z_2_c0 := Z_2.c0
  have Z_2_c1 := Z_2.c1
  have F_2_c0 := F_2.c0
  have F_2_c1 := F_2.c1
  go_wp2_with fail
  refine (in_no _ _ _ _ hio).mono ?_
  rintro e w9_1 ⟨rfl, rfl⟩
  go_wp2_with fail
  refine (ranks_true _).mono ?_
  rintro e w3 ⟨rfl, y3⟩
  have R_3 := R_2.on y3
  have Q_3 := Q_2.on y3
  have A_3 := A_2.on y3
  have B_3 := B_2.on y3
  have Z0_3 := Z0_2.on y3
  have Z_3 := Z_2.on y3
  have F_3 := F_2.on y3
  clear R_2 Q_2 A_2 A_2_c0 A_2_c1 B_2 B_2_c0 B_2_c1 Z0_2 Z_2 Z_2_c0 Z_2_c1 F_2 F_2_c0 F_2_c1
  have z3 := Z2.trans (y3.mono Z2.size)
  have Z3 := z3
  have A_3_c0 := A_3.c0
  have A_3_c1 := A_3.c1
  have B_3_c0 := B_3.c0
  have B_3_c1 := B_3.c1
  have Z_3_c0 := Z_3.c0
  have Z_3_c1 := Z_3.c1
  have F_3_c0 := F_3.c0
  have F_3_c1 := F_3.c1
  go_wp2
  go_ret
  exact ⟨rfl, Z3⟩
set_option maxRecDepth 100000 in
set_option maxHeartbeats 3200000 in
theorem ra_in {Ax : Option Addr} {nx cx : Nat} {Ay : Option Addr} {ny cy : Nat} {ii : Int} (hilo : -9223372036854775808 ≤ ii) (hihi : ii ≤ 9223372036854775807) {L : List Nat} (l01 : Is01 L) {R : List Nat} (r01 : Is01 R) (hs : L.length + R.length ≤ 131072) (hi0 : 0 ≤ ii) (hi1 : ii ≤ ((R.length : Nat) : Int))  (w : World) (hx : Rd w Ax nx cx (bcells (pack L))) (hy : Rd w Ay ny cy (bcells (pack R))) :
    Calls Try.prog 7 #[.agg #[.slice Ax nx cx, .int .i64 (L.length : Nat)], .agg #[.slice Ay ny cy, .int .i64 (R.length : Nat)], .int .i64 ii] w fun e w' => e = .returned (.bool true) ∧ Below w.heap.size w w' := by
  have L01 := Lib.hid l01
  have R01 := Lib.hid r01
  obtain ⟨J, hJ⟩ : ∃ J, J = L ++ R := ⟨_, rfl⟩
  have HJ := Lib.hid hJ
  obtain ⟨cj, hcj⟩ : ∃ cj, cj = ((J.length : Nat) : Int) := ⟨_, rfl⟩
  have u1 : IntKind.i64.wrap (((L.length : Nat) : Int) + ((R.length : Nat) : Int)) = cj := by rw [hcj, hJ, List.length_append, Int.natCast_add]; exact IntWalk.i64_in _ (by omega)
  have HJL := Lib.hid hcj
  clear hcj
  have J01 := Lib.hid (show Is01 J by rw [hJ]; exact Is01.append l01 r01)
  have hjl := Lib.hid (show J.length ≤ 131072 by rw [hJ, List.length_append]; omega)
  obtain ⟨rx, hrx⟩ : ∃ rx, rx = ones (L.take ((L.length : Nat) : Int).toNat) := ⟨_, rfl⟩
  obtain ⟨ry, hry⟩ : ∃ ry, ry = ones (R.take ii.toNat) := ⟨_, rfl⟩
  have hrxb : rx ≤ 131072 := by
    rw [hrx]
    exact Nat.le_trans (ones_take_le2 l01 _) (by omega)
  have hryb : ry ≤ 131072 := by
    rw [hry]
    exact Nat.le_trans (ones_take_le2 r01 _) (by omega)
  have HX := Lib.hid hrx
  have HY := Lib.hid hry
  have HZ := Lib.hid (show rx + ry = ones (J.take (((L.length : Nat) : Int) + ii).toNat) by
    rw [hJ, show (((L.length : Nat) : Int) + ii).toNat = L.length + ii.toNat by omega, List.take_length_add_append, ones_append, hrx, hry, Int.toNat_natCast, List.take_length])
  clear hJ hrx hry l01 r01
  obtain ⟨tz, htz⟩ : ∃ tz, tz = ((L.length : Nat) : Int) + ii := ⟨_, rfl⟩
  obtain ⟨rz, hrz⟩ : ∃ rz, rz = (rx : Int) + (ry : Int) := ⟨_, rfl⟩
  have htz0 : -9223372036854775808 ≤ tz := by omega
  have htz1 : tz ≤ 9223372036854775807 := by omega
  have u2 : IntKind.i64.wrap (((L.length : Nat) : Int) + ii) = tz := by rw [htz]; exact IntWalk.i64_in _ (by omega)
  have u3 : IntKind.i64.wrap ((rx : Int) + (ry : Int)) = rz := by rw [hrz]; exact IntWalk.i64_in _ (by omega)
  have HRZ := Lib.hid (show rz = ((rx + ry : Nat) : Int) by omega)
  rw [← htz] at HZ
  clear htz hrz
  have R_0 := ((hx).alloc (.cells #[.slice Ax nx cx, .int .i64 (L.length : Nat)] 24)).alloc (.cells #[.slice Ay ny cy, .int .i64 (R.length : Nat)] 24)
  have Q_0 := ((hy).alloc (.cells #[.slice Ax nx cx, .int .i64 (L.length : Nat)] 24)).alloc (.cells #[.slice Ay ny cy, .int .i64 (R.length : Nat)] 24)
  have A_0 := ((Two.new w 24 (.slice Ax nx cx) (.int .i64 (L.length : Nat)))).alloc (.cells #[.slice Ay ny cy, .int .i64 (R.length : Nat)] 24)
  have B_0 := (Two.new1 w (.cells #[.slice Ax nx cx, .int .i64 (L.length : Nat)] 24) 24 (.slice Ay ny cy) (.int .i64 (R.length : Nat)))
  have Z0 := ((Below.refl w.heap.size w).alloc (by simp) (.cells #[.slice Ax nx cx, .int .i64 (L.length : Nat)] 24)).alloc (by simp) (.cells #[.slice Ay ny cy, .int .i64 (R.length : Nat)] 24)
  have A_0_c0 := A_0.c0
  have A_0_c1 := A_0.c1
  have B_0_c0 := B_0.c0
  have B_0_c1 := B_0.c1
  go_enter Try.func7, Try.ntmps7
  go_wp2_with fail
  refine (join2_ok R_0 Q_0 L01.out R01.out hs HJ.out (cj) HJL.out _ (by simp)).mono ?_
  rintro e w1 ⟨Az, nz, cz, rfl, RZ, y1⟩
  have R_1 := ((R_0.on y1).alloc (.cells #[.slice Az nz cz, .int .i64 (cj)] 24)).alloc (.cells #[.int .i64 0, .int .i64 0] 29)
  have Q_1 := ((Q_0.on y1).alloc (.cells #[.slice Az nz cz, .int .i64 (cj)] 24)).alloc (.cells #[.int .i64 0, .int .i64 0] 29)
  have A_1 := ((A_0.on y1).alloc (.cells #[.slice Az nz cz, .int .i64 (cj)] 24)).alloc (.cells #[.int .i64 0, .int .i64 0] 29)
  have B_1 := ((B_0.on y1).alloc (.cells #[.slice Az nz cz, .int .i64 (cj)] 24)).alloc (.cells #[.int .i64 0, .int .i64 0] 29)
  have Z0_1 := ((RZ).alloc (.cells #[.slice Az nz cz, .int .i64 (cj)] 24)).alloc (.cells #[.int .i64 0, .int .i64 0] 29)
  have Z_1 := ((Two.new w1 24 (.slice Az nz cz) (.int .i64 (cj)))).alloc (.cells #[.int .i64 0, .int .i64 0] 29)
  have F_1 := (Two.new1 w1 (.cells #[.slice Az nz cz, .int .i64 (cj)] 24) 29 (.int .i64 0) (.int .i64 0))
  clear R_0 Q_0 A_0 A_0_c0 A_0_c1 B_0 B_0_c0 B_0_c1
  have z1 := Z0.trans (y1.mono Z0.size)
  have Z1 := ((z1).alloc (by have := z1.size; omega) (.cells #[.slice Az nz cz, .int .i64 (cj)] 24)).alloc (by have := z1.size; simp; omega) (.cells #[.int .i64 0, .int .i64 0] 29)
  have A_1_c0 := A_1.c0
  have A_1_c1 := A_1.c1
  have B_1_c0 := B_1.c0
  have B_1_c1 := B_1.c1
  have Z_1_c0 := Z_1.c0
  have Z_1_c1 := Z_1.c1
  have F_1_c0 := F_1.c0
  have F_1_c1 := F_1.c1
  go_wp2_with fail
  refine (ranks_true _).mono ?_
  rintro e w2 ⟨rfl, y2⟩
  have R_2 := R_1.on y2
  have Q_2 := Q_1.on y2
  have A_2 := A_1.on y2
  have B_2 := B_1.on y2
  have Z0_2 := Z0_1.on y2
  have Z_2 := Z_1.on y2
  have F_2 := F_1.on y2
  clear R_1 Q_1 A_1 A_1_c0 A_1_c1 B_1 B_1_c0 B_1_c1 Z0_1 Z_1 Z_1_c0 Z_1_c1 F_1 F_1_c0 F_1_c1
  have z2 := Z1.trans (y2.mono Z1.size)
  have Z2 := z2
  have A_2_c0 := A_2.c0
  have A_2_c1 := A_2.c1
  have B_2_c0 := B_2.c0
  have B_2_c1 := B_2.c1
  have Z_2_c0 := Z_2.c0
  have Z_2_c1 := Z_2.c1
  have F_2_c0 := F_2.c0
  have F_2_c1 := F_2.c1
  go_wp2_with fail
  refine (in_yes _ _ _ _ hi0 hi1).mono ?_
  rintro e w9_1 ⟨rfl, rfl⟩
  go_wp2_with fail
  refine (open_ok2 rfl R_2 L01.out (by omega)).mono ?_
  rintro e w3 ⟨A1, c1, A2, n2, c2, rfl, RX, SX, y3⟩
  have R_3 := ((R_2.on y3).alloc (.cells #[.slice A1 nx c1, .int .i64 (L.length : Nat), .slice A2 n2 c2] 48)).alloc (.cells #[.int .i64 0, .int .i64 0] 29)
  have Q_3 := ((Q_2.on y3).alloc (.cells #[.slice A1 nx c1, .int .i64 (L.length : Nat), .slice A2 n2 c2] 48)).alloc (.cells #[.int .i64 0, .int .i64 0] 29)
  have A_3 := ((A_2.on y3).alloc (.cells #[.slice A1 nx c1, .int .i64 (L.length : Nat), .slice A2 n2 c2] 48)).alloc (.cells #[.int .i64 0, .int .i64 0] 29)
  have B_3 := ((B_2.on y3).alloc (.cells #[.slice A1 nx c1, .int .i64 (L.length : Nat), .slice A2 n2 c2] 48)).alloc (.cells #[.int .i64 0, .int .i64 0] 29)
  have Z0_3 := ((Z0_2.on y3).alloc (.cells #[.slice A1 nx c1, .int .i64 (L.length : Nat), .slice A2 n2 c2] 48)).alloc (.cells #[.int .i64 0, .int .i64 0] 29)
  have Z_3 := ((Z_2.on y3).alloc (.cells #[.slice A1 nx c1, .int .i64 (L.length : Nat), .slice A2 n2 c2] 48)).alloc (.cells #[.int .i64 0, .int .i64 0] 29)
  have F_3 := ((F_2.on y3).alloc (.cells #[.slice A1 nx c1, .int .i64 (L.length : Nat), .slice A2 n2 c2] 48)).alloc (.cells #[.int .i64 0, .int .i64 0] 29)
  have RX_3 := ((RX).alloc (.cells #[.slice A1 nx c1, .int .i64 (L.length : Nat), .slice A2 n2 c2] 48)).alloc (.cells #[.int .i64 0, .int .i64 0] 29)
  have SX_3 := ((SX).alloc (.cells #[.slice A1 nx c1, .int .i64 (L.length : Nat), .slice A2 n2 c2] 48)).alloc (.cells #[.int .i64 0, .int .i64 0] 29)
  have X_3 := ((Three.new w3 48 (.slice A1 nx c1) (.int .i64 (L.length : Nat)) (.slice A2 n2 c2))).alloc (.cells #[.int .i64 0, .int .i64 0] 29)
  have G_3 := (Two.new1 w3 (.cells #[.slice A1 nx c1, .int .i64 (L.length : Nat), .slice A2 n2 c2] 48) 29 (.int .i64 0) (.int .i64 0))
  clear R_2 Q_2 A_2 A_2_c0 A_2_c1 B_2 B_2_c0 B_2_c1 Z0_2 Z_2 Z_2_c0 Z_2_c1 F_2 F_2_c0 F_2_c1
  have z3 := Z2.trans (y3.mono Z2.size)
  have Z3 := ((z3).alloc (by have := z3.size; omega) (.cells #[.slice A1 nx c1, .int .i64 (L.length : Nat), .slice A2 n2 c2] 48)).alloc (by have := z3.size; simp; omega) (.cells #[.int .i64 0, .int .i64 0] 29)
  have A_3_c0 := A_3.c0
  have A_3_c1 := A_3.c1
  have B_3_c0 := B_3.c0
  have B_3_c1 := B_3.c1
  have Z_3_c0 := Z_3.c0
  have Z_3_c1 := Z_3.c1
  have F_3_c0 := F_3.c0
  have F_3_c1 := F_3.c1
  have X_3_c0 := X_3.c0
  have X_3_c1 := X_3.c1
  have X_3_c2 := X_3.c2
  have G_3_c0 := G_3.c0
  have G_3_c1 := G_3.c1
  go_wp2_with fail
  refine (open_ok2 rfl Q_3 R01.out (by omega)).mono ?_
  rintro e w4 ⟨A3, c3, A4, n4, c4, rfl, RY, SY, y4⟩
  have R_4 := ((R_3.on y4).alloc (.cells #[.slice A3 ny c3, .int .i64 (R.length : Nat), .slice A4 n4 c4] 48)).alloc (.cells #[.int .i64 0, .int .i64 0] 29)
  have Q_4 := ((Q_3.on y4).alloc (.cells #[.slice A3 ny c3, .int .i64 (R.length : Nat), .slice A4 n4 c4] 48)).alloc (.cells #[.int .i64 0, .int .i64 0] 29)
  have A_4 := ((A_3.on y4).alloc (.cells #[.slice A3 ny c3, .int .i64 (R.length : Nat), .slice A4 n4 c4] 48)).alloc (.cells #[.int .i64 0, .int .i64 0] 29)
  have B_4 := ((B_3.on y4).alloc (.cells #[.slice A3 ny c3, .int .i64 (R.length : Nat), .slice A4 n4 c4] 48)).alloc (.cells #[.int .i64 0, .int .i64 0] 29)
  have Z0_4 := ((Z0_3.on y4).alloc (.cells #[.slice A3 ny c3, .int .i64 (R.length : Nat), .slice A4 n4 c4] 48)).alloc (.cells #[.int .i64 0, .int .i64 0] 29)
  have Z_4 := ((Z_3.on y4).alloc (.cells #[.slice A3 ny c3, .int .i64 (R.length : Nat), .slice A4 n4 c4] 48)).alloc (.cells #[.int .i64 0, .int .i64 0] 29)
  have F_4 := ((F_3.on y4).alloc (.cells #[.slice A3 ny c3, .int .i64 (R.length : Nat), .slice A4 n4 c4] 48)).alloc (.cells #[.int .i64 0, .int .i64 0] 29)
  have RX_4 := ((RX_3.on y4).alloc (.cells #[.slice A3 ny c3, .int .i64 (R.length : Nat), .slice A4 n4 c4] 48)).alloc (.cells #[.int .i64 0, .int .i64 0] 29)
  have SX_4 := ((SX_3.on y4).alloc (.cells #[.slice A3 ny c3, .int .i64 (R.length : Nat), .slice A4 n4 c4] 48)).alloc (.cells #[.int .i64 0, .int .i64 0] 29)
  have X_4 := ((X_3.on y4).alloc (.cells #[.slice A3 ny c3, .int .i64 (R.length : Nat), .slice A4 n4 c4] 48)).alloc (.cells #[.int .i64 0, .int .i64 0] 29)
  have G_4 := ((G_3.on y4).alloc (.cells #[.slice A3 ny c3, .int .i64 (R.length : Nat), .slice A4 n4 c4] 48)).alloc (.cells #[.int .i64 0, .int .i64 0] 29)
  have RY_4 := ((RY).alloc (.cells #[.slice A3 ny c3, .int .i64 (R.length : Nat), .slice A4 n4 c4] 48)).alloc (.cells #[.int .i64 0, .int .i64 0] 29)
  have SY_4 := ((SY).alloc (.cells #[.slice A3 ny c3, .int .i64 (R.length : Nat), .slice A4 n4 c4] 48)).alloc (.cells #[.int .i64 0, .int .i64 0] 29)
  have Y_4 := ((Three.new w4 48 (.slice A3 ny c3) (.int .i64 (R.length : Nat)) (.slice A4 n4 c4))).alloc (.cells #[.int .i64 0, .int .i64 0] 29)
  have E_4 := (Two.new1 w4 (.cells #[.slice A3 ny c3, .int .i64 (R.length : Nat), .slice A4 n4 c4] 48) 29 (.int .i64 0) (.int .i64 0))
  clear R_3 Q_3 A_3 A_3_c0 A_3_c1 B_3 B_3_c0 B_3_c1 Z0_3 Z_3 Z_3_c0 Z_3_c1 F_3 F_3_c0 F_3_c1 RX_3 SX_3 X_3 X_3_c0 X_3_c1 X_3_c2 G_3 G_3_c0 G_3_c1
  have z4 := Z3.trans (y4.mono Z3.size)
  have Z4 := ((z4).alloc (by have := z4.size; omega) (.cells #[.slice A3 ny c3, .int .i64 (R.length : Nat), .slice A4 n4 c4] 48)).alloc (by have := z4.size; simp; omega) (.cells #[.int .i64 0, .int .i64 0] 29)
  have A_4_c0 := A_4.c0
  have A_4_c1 := A_4.c1
  have B_4_c0 := B_4.c0
  have B_4_c1 := B_4.c1
  have Z_4_c0 := Z_4.c0
  have Z_4_c1 := Z_4.c1
  have F_4_c0 := F_4.c0
  have F_4_c1 := F_4.c1
  have X_4_c0 := X_4.c0
  have X_4_c1 := X_4.c1
  have X_4_c2 := X_4.c2
  have G_4_c0 := G_4.c0
  have G_4_c1 := G_4.c1
  have Y_4_c0 := Y_4.c0
  have Y_4_c1 := Y_4.c1
  have Y_4_c2 := Y_4.c2
  have E_4_c0 := E_4.c0
  have E_4_c1 := E_4.c1
  go_wp2_with fail
  refine (open_ok2 HJL.out Z0_4 J01.out hjl.out).mono ?_
  rintro e w5 ⟨A5, c5, A6, n6, c6, rfl, RW, SW, y5⟩
  have R_5 := ((R_4.on y5).alloc (.cells #[.slice A5 nz c5, .int .i64 (cj), .slice A6 n6 c6] 48)).alloc (.cells #[.int .i64 0, .int .i64 0] 29)
  have Q_5 := ((Q_4.on y5).alloc (.cells #[.slice A5 nz c5, .int .i64 (cj), .slice A6 n6 c6] 48)).alloc (.cells #[.int .i64 0, .int .i64 0] 29)
  have A_5 := ((A_4.on y5).alloc (.cells #[.slice A5 nz c5, .int .i64 (cj), .slice A6 n6 c6] 48)).alloc (.cells #[.int .i64 0, .int .i64 0] 29)
  have B_5 := ((B_4.on y5).alloc (.cells #[.slice A5 nz c5, .int .i64 (cj), .slice A6 n6 c6] 48)).alloc (.cells #[.int .i64 0, .int .i64 0] 29)
  have Z0_5 := ((Z0_4.on y5).alloc (.cells #[.slice A5 nz c5, .int .i64 (cj), .slice A6 n6 c6] 48)).alloc (.cells #[.int .i64 0, .int .i64 0] 29)
  have Z_5 := ((Z_4.on y5).alloc (.cells #[.slice A5 nz c5, .int .i64 (cj), .slice A6 n6 c6] 48)).alloc (.cells #[.int .i64 0, .int .i64 0] 29)
  have F_5 := ((F_4.on y5).alloc (.cells #[.slice A5 nz c5, .int .i64 (cj), .slice A6 n6 c6] 48)).alloc (.cells #[.int .i64 0, .int .i64 0] 29)
  have RX_5 := ((RX_4.on y5).alloc (.cells #[.slice A5 nz c5, .int .i64 (cj), .slice A6 n6 c6] 48)).alloc (.cells #[.int .i64 0, .int .i64 0] 29)
  have SX_5 := ((SX_4.on y5).alloc (.cells #[.slice A5 nz c5, .int .i64 (cj), .slice A6 n6 c6] 48)).alloc (.cells #[.int .i64 0, .int .i64 0] 29)
  have X_5 := ((X_4.on y5).alloc (.cells #[.slice A5 nz c5, .int .i64 (cj), .slice A6 n6 c6] 48)).alloc (.cells #[.int .i64 0, .int .i64 0] 29)
  have G_5 := ((G_4.on y5).alloc (.cells #[.slice A5 nz c5, .int .i64 (cj), .slice A6 n6 c6] 48)).alloc (.cells #[.int .i64 0, .int .i64 0] 29)
  have RY_5 := ((RY_4.on y5).alloc (.cells #[.slice A5 nz c5, .int .i64 (cj), .slice A6 n6 c6] 48)).alloc (.cells #[.int .i64 0, .int .i64 0] 29)
  have SY_5 := ((SY_4.on y5).alloc (.cells #[.slice A5 nz c5, .int .i64 (cj), .slice A6 n6 c6] 48)).alloc (.cells #[.int .i64 0, .int .i64 0] 29)
  have Y_5 := ((Y_4.on y5).alloc (.cells #[.slice A5 nz c5, .int .i64 (cj), .slice A6 n6 c6] 48)).alloc (.cells #[.int .i64 0, .int .i64 0] 29)
  have E_5 := ((E_4.on y5).alloc (.cells #[.slice A5 nz c5, .int .i64 (cj), .slice A6 n6 c6] 48)).alloc (.cells #[.int .i64 0, .int .i64 0] 29)
  have RW_5 := ((RW).alloc (.cells #[.slice A5 nz c5, .int .i64 (cj), .slice A6 n6 c6] 48)).alloc (.cells #[.int .i64 0, .int .i64 0] 29)
  have SW_5 := ((SW).alloc (.cells #[.slice A5 nz c5, .int .i64 (cj), .slice A6 n6 c6] 48)).alloc (.cells #[.int .i64 0, .int .i64 0] 29)
  have W_5 := ((Three.new w5 48 (.slice A5 nz c5) (.int .i64 (cj)) (.slice A6 n6 c6))).alloc (.cells #[.int .i64 0, .int .i64 0] 29)
  have H_5 := (Two.new1 w5 (.cells #[.slice A5 nz c5, .int .i64 (cj), .slice A6 n6 c6] 48) 29 (.int .i64 0) (.int .i64 0))
  clear R_4 Q_4 A_4 A_4_c0 A_4_c1 B_4 B_4_c0 B_4_c1 Z0_4 Z_4 Z_4_c0 Z_4_c1 F_4 F_4_c0 F_4_c1 RX_4 SX_4 X_4 X_4_c0 X_4_c1 X_4_c2 G_4 G_4_c0 G_4_c1 RY_4 SY_4 Y_4 Y_4_c0 Y_4_c1 Y_4_c2 E_4 E_4_c0 E_4_c1
  have z5 := Z4.trans (y5.mono Z4.size)
  have Z5 := ((z5).alloc (by have := z5.size; omega) (.cells #[.slice A5 nz c5, .int .i64 (cj), .slice A6 n6 c6] 48)).alloc (by have := z5.size; simp; omega) (.cells #[.int .i64 0, .int .i64 0] 29)
  have A_5_c0 := A_5.c0
  have A_5_c1 := A_5.c1
  have B_5_c0 := B_5.c0
  have B_5_c1 := B_5.c1
  have Z_5_c0 := Z_5.c0
  have Z_5_c1 := Z_5.c1
  have F_5_c0 := F_5.c0
  have F_5_c1 := F_5.c1
  have X_5_c0 := X_5.c0
  have X_5_c1 := X_5.c1
  have X_5_c2 := X_5.c2
  have G_5_c0 := G_5.c0
  have G_5_c1 := G_5.c1
  have Y_5_c0 := Y_5.c0
  have Y_5_c1 := Y_5.c1
  have Y_5_c2 := Y_5.c2
  have E_5_c0 := E_5.c0
  have E_5_c1 := E_5.c1
  have W_5_c0 := W_5.c0
  have W_5_c1 := W_5.c1
  have W_5_c2 := W_5.c2
  have H_5_c0 := H_5.c0
  have H_5_c1 := H_5.c1
  go_wp2_with fail
  go_region_held3 (fun w' => w'.cell? ⟨w3.heap.size + 1, 0, none⟩ = some (.int .i64 0) ∧ w'.cell? ⟨w3.heap.size + 1, 1, none⟩ = some (.int .i64 0) ∧ w'.cell? ⟨w4.heap.size + 1, 0, none⟩ = some (.int .i64 0) ∧ w'.cell? ⟨w4.heap.size + 1, 1, none⟩ = some (.int .i64 0) ∧ w'.cell? ⟨w5.heap.size + 1, 0, none⟩ = some (.int .i64 0) ∧ w'.cell? ⟨w5.heap.size + 1, 1, none⟩ = some (.int .i64 0) ∧ w'.cell? ⟨w5.heap.size, 0, none⟩ = some (.slice A5 nz c5) ∧ w'.cell? ⟨w5.heap.size, 1, none⟩ = some (.int .i64 (cj)) ∧ w'.cell? ⟨w5.heap.size, 2, none⟩ = some (.slice A6 n6 c6) ∧ w'.cell? ⟨w.heap.size, 0, none⟩ = some (.slice Ax nx cx) ∧ w'.cell? ⟨w.heap.size, 1, none⟩ = some (.int .i64 (L.length : Nat)) ∧ w'.cell? ⟨w.heap.size + 1, 0, none⟩ = some (.slice Ay ny cy) ∧ w'.cell? ⟨w.heap.size + 1, 1, none⟩ = some (.int .i64 (R.length : Nat)) ∧ w'.cell? ⟨w3.heap.size, 0, none⟩ = some (.slice A1 nx c1) ∧ w'.cell? ⟨w3.heap.size, 1, none⟩ = some (.int .i64 (L.length : Nat)) ∧ w'.cell? ⟨w3.heap.size, 2, none⟩ = some (.slice A2 n2 c2) ∧ w'.cell? ⟨w4.heap.size, 0, none⟩ = some (.slice A3 ny c3) ∧ w'.cell? ⟨w4.heap.size, 1, none⟩ = some (.int .i64 (R.length : Nat)) ∧ w'.cell? ⟨w4.heap.size, 2, none⟩ = some (.slice A4 n4 c4)) (go_keep) (first | (go_at_call 26; refine (rlen_any _).mono ?_; rintro e w6 ⟨rfl, y6⟩; have Y6 : Below (((w5).alloc (.cells #[.slice A5 nz c5, .int .i64 (cj), .slice A6 n6 c6] 48)).alloc (.cells #[.int .i64 0, .int .i64 0] 29)).heap.size (((w5).alloc (.cells #[.slice A5 nz c5, .int .i64 (cj), .slice A6 n6 c6] 48)).alloc (.cells #[.int .i64 0, .int .i64 0] 29)).drew w6 := y6; have G_6_c0 := ((Two.on (w := (((w5).alloc (.cells #[.slice A5 nz c5, .int .i64 (cj), .slice A6 n6 c6] 48)).alloc (.cells #[.int .i64 0, .int .i64 0] 29)).drew) G_5 Y6)).c0; have G_6_c1 := ((Two.on (w := (((w5).alloc (.cells #[.slice A5 nz c5, .int .i64 (cj), .slice A6 n6 c6] 48)).alloc (.cells #[.int .i64 0, .int .i64 0] 29)).drew) G_5 Y6)).c1; have E_6_c0 := ((Two.on (w := (((w5).alloc (.cells #[.slice A5 nz c5, .int .i64 (cj), .slice A6 n6 c6] 48)).alloc (.cells #[.int .i64 0, .int .i64 0] 29)).drew) E_5 Y6)).c0; have E_6_c1 := ((Two.on (w := (((w5).alloc (.cells #[.slice A5 nz c5, .int .i64 (cj), .slice A6 n6 c6] 48)).alloc (.cells #[.int .i64 0, .int .i64 0] 29)).drew) E_5 Y6)).c1; have H_6_c0 := ((Two.on (w := (((w5).alloc (.cells #[.slice A5 nz c5, .int .i64 (cj), .slice A6 n6 c6] 48)).alloc (.cells #[.int .i64 0, .int .i64 0] 29)).drew) H_5 Y6)).c0; have H_6_c1 := ((Two.on (w := (((w5).alloc (.cells #[.slice A5 nz c5, .int .i64 (cj), .slice A6 n6 c6] 48)).alloc (.cells #[.int .i64 0, .int .i64 0] 29)).drew) H_5 Y6)).c1; have W_6_c0 := ((Three.on (w := (((w5).alloc (.cells #[.slice A5 nz c5, .int .i64 (cj), .slice A6 n6 c6] 48)).alloc (.cells #[.int .i64 0, .int .i64 0] 29)).drew) W_5 Y6)).c0; have W_6_c1 := ((Three.on (w := (((w5).alloc (.cells #[.slice A5 nz c5, .int .i64 (cj), .slice A6 n6 c6] 48)).alloc (.cells #[.int .i64 0, .int .i64 0] 29)).drew) W_5 Y6)).c1; have W_6_c2 := ((Three.on (w := (((w5).alloc (.cells #[.slice A5 nz c5, .int .i64 (cj), .slice A6 n6 c6] 48)).alloc (.cells #[.int .i64 0, .int .i64 0] 29)).drew) W_5 Y6)).c2; have A_6_c0 := ((Two.on (w := (((w5).alloc (.cells #[.slice A5 nz c5, .int .i64 (cj), .slice A6 n6 c6] 48)).alloc (.cells #[.int .i64 0, .int .i64 0] 29)).drew) A_5 Y6)).c0; have A_6_c1 := ((Two.on (w := (((w5).alloc (.cells #[.slice A5 nz c5, .int .i64 (cj), .slice A6 n6 c6] 48)).alloc (.cells #[.int .i64 0, .int .i64 0] 29)).drew) A_5 Y6)).c1; have B_6_c0 := ((Two.on (w := (((w5).alloc (.cells #[.slice A5 nz c5, .int .i64 (cj), .slice A6 n6 c6] 48)).alloc (.cells #[.int .i64 0, .int .i64 0] 29)).drew) B_5 Y6)).c0; have B_6_c1 := ((Two.on (w := (((w5).alloc (.cells #[.slice A5 nz c5, .int .i64 (cj), .slice A6 n6 c6] 48)).alloc (.cells #[.int .i64 0, .int .i64 0] 29)).drew) B_5 Y6)).c1; have X_6_c0 := ((Three.on (w := (((w5).alloc (.cells #[.slice A5 nz c5, .int .i64 (cj), .slice A6 n6 c6] 48)).alloc (.cells #[.int .i64 0, .int .i64 0] 29)).drew) X_5 Y6)).c0; have X_6_c1 := ((Three.on (w := (((w5).alloc (.cells #[.slice A5 nz c5, .int .i64 (cj), .slice A6 n6 c6] 48)).alloc (.cells #[.int .i64 0, .int .i64 0] 29)).drew) X_5 Y6)).c1; have X_6_c2 := ((Three.on (w := (((w5).alloc (.cells #[.slice A5 nz c5, .int .i64 (cj), .slice A6 n6 c6] 48)).alloc (.cells #[.int .i64 0, .int .i64 0] 29)).drew) X_5 Y6)).c2; have Y_6_c0 := ((Three.on (w := (((w5).alloc (.cells #[.slice A5 nz c5, .int .i64 (cj), .slice A6 n6 c6] 48)).alloc (.cells #[.int .i64 0, .int .i64 0] 29)).drew) Y_5 Y6)).c0; have Y_6_c1 := ((Three.on (w := (((w5).alloc (.cells #[.slice A5 nz c5, .int .i64 (cj), .slice A6 n6 c6] 48)).alloc (.cells #[.int .i64 0, .int .i64 0] 29)).drew) Y_5 Y6)).c1; have Y_6_c2 := ((Three.on (w := (((w5).alloc (.cells #[.slice A5 nz c5, .int .i64 (cj), .slice A6 n6 c6] 48)).alloc (.cells #[.int .i64 0, .int .i64 0] 29)).drew) Y_5 Y6)).c2) | (go_at_call 25; have cc := rrank_ok2 (ii := tz) (ri := rz) (r := rx + ry) HRZ.out HJL.out (Rd.on (w := (((w5).alloc (.cells #[.slice A5 nz c5, .int .i64 (cj), .slice A6 n6 c6] 48)).alloc (.cells #[.int .i64 0, .int .i64 0] 29)).drew) RW_5 Y6) (Rd.on (w := (((w5).alloc (.cells #[.slice A5 nz c5, .int .i64 (cj), .slice A6 n6 c6] 48)).alloc (.cells #[.int .i64 0, .int .i64 0] 29)).drew) SW_5 Y6) J01.out hjl.out htz0 htz1 HZ.out; (with_reducible refine cc.mono ?_); clear cc; rintro e w7 ⟨rfl, y7⟩; have Y7 := Y6.trans (y7.mono Y6.size); have G_7_c0 := ((Two.on (w := (((w5).alloc (.cells #[.slice A5 nz c5, .int .i64 (cj), .slice A6 n6 c6] 48)).alloc (.cells #[.int .i64 0, .int .i64 0] 29)).drew) G_5 Y7)).c0; have G_7_c1 := ((Two.on (w := (((w5).alloc (.cells #[.slice A5 nz c5, .int .i64 (cj), .slice A6 n6 c6] 48)).alloc (.cells #[.int .i64 0, .int .i64 0] 29)).drew) G_5 Y7)).c1; have E_7_c0 := ((Two.on (w := (((w5).alloc (.cells #[.slice A5 nz c5, .int .i64 (cj), .slice A6 n6 c6] 48)).alloc (.cells #[.int .i64 0, .int .i64 0] 29)).drew) E_5 Y7)).c0; have E_7_c1 := ((Two.on (w := (((w5).alloc (.cells #[.slice A5 nz c5, .int .i64 (cj), .slice A6 n6 c6] 48)).alloc (.cells #[.int .i64 0, .int .i64 0] 29)).drew) E_5 Y7)).c1; have H_7_c0 := ((Two.on (w := (((w5).alloc (.cells #[.slice A5 nz c5, .int .i64 (cj), .slice A6 n6 c6] 48)).alloc (.cells #[.int .i64 0, .int .i64 0] 29)).drew) H_5 Y7)).c0; have H_7_c1 := ((Two.on (w := (((w5).alloc (.cells #[.slice A5 nz c5, .int .i64 (cj), .slice A6 n6 c6] 48)).alloc (.cells #[.int .i64 0, .int .i64 0] 29)).drew) H_5 Y7)).c1; have W_7_c0 := ((Three.on (w := (((w5).alloc (.cells #[.slice A5 nz c5, .int .i64 (cj), .slice A6 n6 c6] 48)).alloc (.cells #[.int .i64 0, .int .i64 0] 29)).drew) W_5 Y7)).c0; have W_7_c1 := ((Three.on (w := (((w5).alloc (.cells #[.slice A5 nz c5, .int .i64 (cj), .slice A6 n6 c6] 48)).alloc (.cells #[.int .i64 0, .int .i64 0] 29)).drew) W_5 Y7)).c1; have W_7_c2 := ((Three.on (w := (((w5).alloc (.cells #[.slice A5 nz c5, .int .i64 (cj), .slice A6 n6 c6] 48)).alloc (.cells #[.int .i64 0, .int .i64 0] 29)).drew) W_5 Y7)).c2; have A_7_c0 := ((Two.on (w := (((w5).alloc (.cells #[.slice A5 nz c5, .int .i64 (cj), .slice A6 n6 c6] 48)).alloc (.cells #[.int .i64 0, .int .i64 0] 29)).drew) A_5 Y7)).c0; have A_7_c1 := ((Two.on (w := (((w5).alloc (.cells #[.slice A5 nz c5, .int .i64 (cj), .slice A6 n6 c6] 48)).alloc (.cells #[.int .i64 0, .int .i64 0] 29)).drew) A_5 Y7)).c1; have B_7_c0 := ((Two.on (w := (((w5).alloc (.cells #[.slice A5 nz c5, .int .i64 (cj), .slice A6 n6 c6] 48)).alloc (.cells #[.int .i64 0, .int .i64 0] 29)).drew) B_5 Y7)).c0; have B_7_c1 := ((Two.on (w := (((w5).alloc (.cells #[.slice A5 nz c5, .int .i64 (cj), .slice A6 n6 c6] 48)).alloc (.cells #[.int .i64 0, .int .i64 0] 29)).drew) B_5 Y7)).c1; have X_7_c0 := ((Three.on (w := (((w5).alloc (.cells #[.slice A5 nz c5, .int .i64 (cj), .slice A6 n6 c6] 48)).alloc (.cells #[.int .i64 0, .int .i64 0] 29)).drew) X_5 Y7)).c0; have X_7_c1 := ((Three.on (w := (((w5).alloc (.cells #[.slice A5 nz c5, .int .i64 (cj), .slice A6 n6 c6] 48)).alloc (.cells #[.int .i64 0, .int .i64 0] 29)).drew) X_5 Y7)).c1; have X_7_c2 := ((Three.on (w := (((w5).alloc (.cells #[.slice A5 nz c5, .int .i64 (cj), .slice A6 n6 c6] 48)).alloc (.cells #[.int .i64 0, .int .i64 0] 29)).drew) X_5 Y7)).c2; have Y_7_c0 := ((Three.on (w := (((w5).alloc (.cells #[.slice A5 nz c5, .int .i64 (cj), .slice A6 n6 c6] 48)).alloc (.cells #[.int .i64 0, .int .i64 0] 29)).drew) Y_5 Y7)).c0; have Y_7_c1 := ((Three.on (w := (((w5).alloc (.cells #[.slice A5 nz c5, .int .i64 (cj), .slice A6 n6 c6] 48)).alloc (.cells #[.int .i64 0, .int .i64 0] 29)).drew) Y_5 Y7)).c1; have Y_7_c2 := ((Three.on (w := (((w5).alloc (.cells #[.slice A5 nz c5, .int .i64 (cj), .slice A6 n6 c6] 48)).alloc (.cells #[.int .i64 0, .int .i64 0] 29)).drew) Y_5 Y7)).c2) | (go_at_call 25; have cc := rrank_ok2 (ri := (rx : Int)) rfl rfl (Rd.on (w := (((w5).alloc (.cells #[.slice A5 nz c5, .int .i64 (cj), .slice A6 n6 c6] 48)).alloc (.cells #[.int .i64 0, .int .i64 0] 29)).drew) RX_5 Y7) (Rd.on (w := (((w5).alloc (.cells #[.slice A5 nz c5, .int .i64 (cj), .slice A6 n6 c6] 48)).alloc (.cells #[.int .i64 0, .int .i64 0] 29)).drew) SX_5 Y7) L01.out (by omega) (by omega) (by omega) HX.out; (with_reducible refine cc.mono ?_); clear cc; rintro e w8 ⟨rfl, y8⟩; have Y8 := Y7.trans (y8.mono Y7.size); have G_8_c0 := ((Two.on (w := (((w5).alloc (.cells #[.slice A5 nz c5, .int .i64 (cj), .slice A6 n6 c6] 48)).alloc (.cells #[.int .i64 0, .int .i64 0] 29)).drew) G_5 Y8)).c0; have G_8_c1 := ((Two.on (w := (((w5).alloc (.cells #[.slice A5 nz c5, .int .i64 (cj), .slice A6 n6 c6] 48)).alloc (.cells #[.int .i64 0, .int .i64 0] 29)).drew) G_5 Y8)).c1; have E_8_c0 := ((Two.on (w := (((w5).alloc (.cells #[.slice A5 nz c5, .int .i64 (cj), .slice A6 n6 c6] 48)).alloc (.cells #[.int .i64 0, .int .i64 0] 29)).drew) E_5 Y8)).c0; have E_8_c1 := ((Two.on (w := (((w5).alloc (.cells #[.slice A5 nz c5, .int .i64 (cj), .slice A6 n6 c6] 48)).alloc (.cells #[.int .i64 0, .int .i64 0] 29)).drew) E_5 Y8)).c1; have H_8_c0 := ((Two.on (w := (((w5).alloc (.cells #[.slice A5 nz c5, .int .i64 (cj), .slice A6 n6 c6] 48)).alloc (.cells #[.int .i64 0, .int .i64 0] 29)).drew) H_5 Y8)).c0; have H_8_c1 := ((Two.on (w := (((w5).alloc (.cells #[.slice A5 nz c5, .int .i64 (cj), .slice A6 n6 c6] 48)).alloc (.cells #[.int .i64 0, .int .i64 0] 29)).drew) H_5 Y8)).c1; have W_8_c0 := ((Three.on (w := (((w5).alloc (.cells #[.slice A5 nz c5, .int .i64 (cj), .slice A6 n6 c6] 48)).alloc (.cells #[.int .i64 0, .int .i64 0] 29)).drew) W_5 Y8)).c0; have W_8_c1 := ((Three.on (w := (((w5).alloc (.cells #[.slice A5 nz c5, .int .i64 (cj), .slice A6 n6 c6] 48)).alloc (.cells #[.int .i64 0, .int .i64 0] 29)).drew) W_5 Y8)).c1; have W_8_c2 := ((Three.on (w := (((w5).alloc (.cells #[.slice A5 nz c5, .int .i64 (cj), .slice A6 n6 c6] 48)).alloc (.cells #[.int .i64 0, .int .i64 0] 29)).drew) W_5 Y8)).c2; have A_8_c0 := ((Two.on (w := (((w5).alloc (.cells #[.slice A5 nz c5, .int .i64 (cj), .slice A6 n6 c6] 48)).alloc (.cells #[.int .i64 0, .int .i64 0] 29)).drew) A_5 Y8)).c0; have A_8_c1 := ((Two.on (w := (((w5).alloc (.cells #[.slice A5 nz c5, .int .i64 (cj), .slice A6 n6 c6] 48)).alloc (.cells #[.int .i64 0, .int .i64 0] 29)).drew) A_5 Y8)).c1; have B_8_c0 := ((Two.on (w := (((w5).alloc (.cells #[.slice A5 nz c5, .int .i64 (cj), .slice A6 n6 c6] 48)).alloc (.cells #[.int .i64 0, .int .i64 0] 29)).drew) B_5 Y8)).c0; have B_8_c1 := ((Two.on (w := (((w5).alloc (.cells #[.slice A5 nz c5, .int .i64 (cj), .slice A6 n6 c6] 48)).alloc (.cells #[.int .i64 0, .int .i64 0] 29)).drew) B_5 Y8)).c1; have X_8_c0 := ((Three.on (w := (((w5).alloc (.cells #[.slice A5 nz c5, .int .i64 (cj), .slice A6 n6 c6] 48)).alloc (.cells #[.int .i64 0, .int .i64 0] 29)).drew) X_5 Y8)).c0; have X_8_c1 := ((Three.on (w := (((w5).alloc (.cells #[.slice A5 nz c5, .int .i64 (cj), .slice A6 n6 c6] 48)).alloc (.cells #[.int .i64 0, .int .i64 0] 29)).drew) X_5 Y8)).c1; have X_8_c2 := ((Three.on (w := (((w5).alloc (.cells #[.slice A5 nz c5, .int .i64 (cj), .slice A6 n6 c6] 48)).alloc (.cells #[.int .i64 0, .int .i64 0] 29)).drew) X_5 Y8)).c2; have Y_8_c0 := ((Three.on (w := (((w5).alloc (.cells #[.slice A5 nz c5, .int .i64 (cj), .slice A6 n6 c6] 48)).alloc (.cells #[.int .i64 0, .int .i64 0] 29)).drew) Y_5 Y8)).c0; have Y_8_c1 := ((Three.on (w := (((w5).alloc (.cells #[.slice A5 nz c5, .int .i64 (cj), .slice A6 n6 c6] 48)).alloc (.cells #[.int .i64 0, .int .i64 0] 29)).drew) Y_5 Y8)).c1; have Y_8_c2 := ((Three.on (w := (((w5).alloc (.cells #[.slice A5 nz c5, .int .i64 (cj), .slice A6 n6 c6] 48)).alloc (.cells #[.int .i64 0, .int .i64 0] 29)).drew) Y_5 Y8)).c2) | (go_at_call 25; have cc := rrank_ok2 (ri := (ry : Int)) rfl rfl (Rd.on (w := (((w5).alloc (.cells #[.slice A5 nz c5, .int .i64 (cj), .slice A6 n6 c6] 48)).alloc (.cells #[.int .i64 0, .int .i64 0] 29)).drew) RY_5 Y8) (Rd.on (w := (((w5).alloc (.cells #[.slice A5 nz c5, .int .i64 (cj), .slice A6 n6 c6] 48)).alloc (.cells #[.int .i64 0, .int .i64 0] 29)).drew) SY_5 Y8) R01.out (by omega) (by omega) (by omega) HY.out; (with_reducible refine cc.mono ?_); clear cc; rintro e w9 ⟨rfl, y9⟩; have Y9 := Y8.trans (y9.mono Y8.size); have G_9_c0 := ((Two.on (w := (((w5).alloc (.cells #[.slice A5 nz c5, .int .i64 (cj), .slice A6 n6 c6] 48)).alloc (.cells #[.int .i64 0, .int .i64 0] 29)).drew) G_5 Y9)).c0; have G_9_c1 := ((Two.on (w := (((w5).alloc (.cells #[.slice A5 nz c5, .int .i64 (cj), .slice A6 n6 c6] 48)).alloc (.cells #[.int .i64 0, .int .i64 0] 29)).drew) G_5 Y9)).c1; have E_9_c0 := ((Two.on (w := (((w5).alloc (.cells #[.slice A5 nz c5, .int .i64 (cj), .slice A6 n6 c6] 48)).alloc (.cells #[.int .i64 0, .int .i64 0] 29)).drew) E_5 Y9)).c0; have E_9_c1 := ((Two.on (w := (((w5).alloc (.cells #[.slice A5 nz c5, .int .i64 (cj), .slice A6 n6 c6] 48)).alloc (.cells #[.int .i64 0, .int .i64 0] 29)).drew) E_5 Y9)).c1; have H_9_c0 := ((Two.on (w := (((w5).alloc (.cells #[.slice A5 nz c5, .int .i64 (cj), .slice A6 n6 c6] 48)).alloc (.cells #[.int .i64 0, .int .i64 0] 29)).drew) H_5 Y9)).c0; have H_9_c1 := ((Two.on (w := (((w5).alloc (.cells #[.slice A5 nz c5, .int .i64 (cj), .slice A6 n6 c6] 48)).alloc (.cells #[.int .i64 0, .int .i64 0] 29)).drew) H_5 Y9)).c1; have W_9_c0 := ((Three.on (w := (((w5).alloc (.cells #[.slice A5 nz c5, .int .i64 (cj), .slice A6 n6 c6] 48)).alloc (.cells #[.int .i64 0, .int .i64 0] 29)).drew) W_5 Y9)).c0; have W_9_c1 := ((Three.on (w := (((w5).alloc (.cells #[.slice A5 nz c5, .int .i64 (cj), .slice A6 n6 c6] 48)).alloc (.cells #[.int .i64 0, .int .i64 0] 29)).drew) W_5 Y9)).c1; have W_9_c2 := ((Three.on (w := (((w5).alloc (.cells #[.slice A5 nz c5, .int .i64 (cj), .slice A6 n6 c6] 48)).alloc (.cells #[.int .i64 0, .int .i64 0] 29)).drew) W_5 Y9)).c2; have A_9_c0 := ((Two.on (w := (((w5).alloc (.cells #[.slice A5 nz c5, .int .i64 (cj), .slice A6 n6 c6] 48)).alloc (.cells #[.int .i64 0, .int .i64 0] 29)).drew) A_5 Y9)).c0; have A_9_c1 := ((Two.on (w := (((w5).alloc (.cells #[.slice A5 nz c5, .int .i64 (cj), .slice A6 n6 c6] 48)).alloc (.cells #[.int .i64 0, .int .i64 0] 29)).drew) A_5 Y9)).c1; have B_9_c0 := ((Two.on (w := (((w5).alloc (.cells #[.slice A5 nz c5, .int .i64 (cj), .slice A6 n6 c6] 48)).alloc (.cells #[.int .i64 0, .int .i64 0] 29)).drew) B_5 Y9)).c0; have B_9_c1 := ((Two.on (w := (((w5).alloc (.cells #[.slice A5 nz c5, .int .i64 (cj), .slice A6 n6 c6] 48)).alloc (.cells #[.int .i64 0, .int .i64 0] 29)).drew) B_5 Y9)).c1; have X_9_c0 := ((Three.on (w := (((w5).alloc (.cells #[.slice A5 nz c5, .int .i64 (cj), .slice A6 n6 c6] 48)).alloc (.cells #[.int .i64 0, .int .i64 0] 29)).drew) X_5 Y9)).c0; have X_9_c1 := ((Three.on (w := (((w5).alloc (.cells #[.slice A5 nz c5, .int .i64 (cj), .slice A6 n6 c6] 48)).alloc (.cells #[.int .i64 0, .int .i64 0] 29)).drew) X_5 Y9)).c1; have X_9_c2 := ((Three.on (w := (((w5).alloc (.cells #[.slice A5 nz c5, .int .i64 (cj), .slice A6 n6 c6] 48)).alloc (.cells #[.int .i64 0, .int .i64 0] 29)).drew) X_5 Y9)).c2; have Y_9_c0 := ((Three.on (w := (((w5).alloc (.cells #[.slice A5 nz c5, .int .i64 (cj), .slice A6 n6 c6] 48)).alloc (.cells #[.int .i64 0, .int .i64 0] 29)).drew) Y_5 Y9)).c0; have Y_9_c1 := ((Three.on (w := (((w5).alloc (.cells #[.slice A5 nz c5, .int .i64 (cj), .slice A6 n6 c6] 48)).alloc (.cells #[.int .i64 0, .int .i64 0] 29)).drew) Y_5 Y9)).c1; have Y_9_c2 := ((Three.on (w := (((w5).alloc (.cells #[.slice A5 nz c5, .int .i64 (cj), .slice A6 n6 c6] 48)).alloc (.cells #[.int .i64 0, .int .i64 0] 29)).drew) Y_5 Y9)).c2))
  have R_9 := (Rd.on (w := (((w5).alloc (.cells #[.slice A5 nz c5, .int .i64 (cj), .slice A6 n6 c6] 48)).alloc (.cells #[.int .i64 0, .int .i64 0] 29)).drew) R_5 Y9)
  have Q_9 := (Rd.on (w := (((w5).alloc (.cells #[.slice A5 nz c5, .int .i64 (cj), .slice A6 n6 c6] 48)).alloc (.cells #[.int .i64 0, .int .i64 0] 29)).drew) Q_5 Y9)
  have A_9 := (Two.on (w := (((w5).alloc (.cells #[.slice A5 nz c5, .int .i64 (cj), .slice A6 n6 c6] 48)).alloc (.cells #[.int .i64 0, .int .i64 0] 29)).drew) A_5 Y9)
  have B_9 := (Two.on (w := (((w5).alloc (.cells #[.slice A5 nz c5, .int .i64 (cj), .slice A6 n6 c6] 48)).alloc (.cells #[.int .i64 0, .int .i64 0] 29)).drew) B_5 Y9)
  have Z0_9 := (Rd.on (w := (((w5).alloc (.cells #[.slice A5 nz c5, .int .i64 (cj), .slice A6 n6 c6] 48)).alloc (.cells #[.int .i64 0, .int .i64 0] 29)).drew) Z0_5 Y9)
  have Z_9 := (Two.on (w := (((w5).alloc (.cells #[.slice A5 nz c5, .int .i64 (cj), .slice A6 n6 c6] 48)).alloc (.cells #[.int .i64 0, .int .i64 0] 29)).drew) Z_5 Y9)
  have F_9 := (Two.on (w := (((w5).alloc (.cells #[.slice A5 nz c5, .int .i64 (cj), .slice A6 n6 c6] 48)).alloc (.cells #[.int .i64 0, .int .i64 0] 29)).drew) F_5 Y9)
  have RX_9 := (Rd.on (w := (((w5).alloc (.cells #[.slice A5 nz c5, .int .i64 (cj), .slice A6 n6 c6] 48)).alloc (.cells #[.int .i64 0, .int .i64 0] 29)).drew) RX_5 Y9)
  have SX_9 := (Rd.on (w := (((w5).alloc (.cells #[.slice A5 nz c5, .int .i64 (cj), .slice A6 n6 c6] 48)).alloc (.cells #[.int .i64 0, .int .i64 0] 29)).drew) SX_5 Y9)
  have X_9 := (Three.on (w := (((w5).alloc (.cells #[.slice A5 nz c5, .int .i64 (cj), .slice A6 n6 c6] 48)).alloc (.cells #[.int .i64 0, .int .i64 0] 29)).drew) X_5 Y9)
  have G_9 := (Two.on (w := (((w5).alloc (.cells #[.slice A5 nz c5, .int .i64 (cj), .slice A6 n6 c6] 48)).alloc (.cells #[.int .i64 0, .int .i64 0] 29)).drew) G_5 Y9)
  have RY_9 := (Rd.on (w := (((w5).alloc (.cells #[.slice A5 nz c5, .int .i64 (cj), .slice A6 n6 c6] 48)).alloc (.cells #[.int .i64 0, .int .i64 0] 29)).drew) RY_5 Y9)
  have SY_9 := (Rd.on (w := (((w5).alloc (.cells #[.slice A5 nz c5, .int .i64 (cj), .slice A6 n6 c6] 48)).alloc (.cells #[.int .i64 0, .int .i64 0] 29)).drew) SY_5 Y9)
  have Y_9 := (Three.on (w := (((w5).alloc (.cells #[.slice A5 nz c5, .int .i64 (cj), .slice A6 n6 c6] 48)).alloc (.cells #[.int .i64 0, .int .i64 0] 29)).drew) Y_5 Y9)
  have E_9 := (Two.on (w := (((w5).alloc (.cells #[.slice A5 nz c5, .int .i64 (cj), .slice A6 n6 c6] 48)).alloc (.cells #[.int .i64 0, .int .i64 0] 29)).drew) E_5 Y9)
  have RW_9 := (Rd.on (w := (((w5).alloc (.cells #[.slice A5 nz c5, .int .i64 (cj), .slice A6 n6 c6] 48)).alloc (.cells #[.int .i64 0, .int .i64 0] 29)).drew) RW_5 Y9)
  have SW_9 := (Rd.on (w := (((w5).alloc (.cells #[.slice A5 nz c5, .int .i64 (cj), .slice A6 n6 c6] 48)).alloc (.cells #[.int .i64 0, .int .i64 0] 29)).drew) SW_5 Y9)
  have W_9 := (Three.on (w := (((w5).alloc (.cells #[.slice A5 nz c5, .int .i64 (cj), .slice A6 n6 c6] 48)).alloc (.cells #[.int .i64 0, .int .i64 0] 29)).drew) W_5 Y9)
  have H_9 := (Two.on (w := (((w5).alloc (.cells #[.slice A5 nz c5, .int .i64 (cj), .slice A6 n6 c6] 48)).alloc (.cells #[.int .i64 0, .int .i64 0] 29)).drew) H_5 Y9)
  have Z9 := (belowD Z5).trans (Y9.mono (belowD Z5).size)
  clear G_6_c0 G_6_c1 E_6_c0 E_6_c1 H_6_c0 H_6_c1 W_6_c0 W_6_c1 W_6_c2 A_6_c0 A_6_c1 B_6_c0 B_6_c1 X_6_c0 X_6_c1 X_6_c2 Y_6_c0 Y_6_c1 Y_6_c2 G_7_c0 G_7_c1 E_7_c0 E_7_c1 H_7_c0 H_7_c1 W_7_c0 W_7_c1 W_7_c2 A_7_c0 A_7_c1 B_7_c0 B_7_c1 X_7_c0 X_7_c1 X_7_c2 Y_7_c0 Y_7_c1 Y_7_c2 G_8_c0 G_8_c1 E_8_c0 E_8_c1 H_8_c0 H_8_c1 W_8_c0 W_8_c1 W_8_c2 A_8_c0 A_8_c1 B_8_c0 B_8_c1 X_8_c0 X_8_c1 X_8_c2 Y_8_c0 Y_8_c1 Y_8_c2 G_9_c0 G_9_c1 E_9_c0 E_9_c1 H_9_c0 H_9_c1 W_9_c0 W_9_c1 W_9_c2 A_9_c0 A_9_c1 B_9_c0 B_9_c1 X_9_c0 X_9_c1 X_9_c2 Y_9_c0 Y_9_c1 Y_9_c2
  clear R_5 Q_5 A_5 A_5_c0 A_5_c1 B_5 B_5_c0 B_5_c1 Z0_5 Z_5 Z_5_c0 Z_5_c1 F_5 F_5_c0 F_5_c1 RX_5 SX_5 X_5 X_5_c0 X_5_c1 X_5_c2 G_5 G_5_c0 G_5_c1 RY_5 SY_5 Y_5 Y_5_c0 Y_5_c1 Y_5_c2 E_5 E_5_c0 E_5_c1 RW_5 SW_5 W_5 W_5_c0 W_5_c1 W_5_c2 H_5 H_5_c0 H_5_c1
  have A_9_c0 := A_9.c0
  have A_9_c1 := A_9.c1
  have B_9_c0 := B_9.c0
  have B_9_c1 := B_9.c1
  have Z_9_c0 := Z_9.c0
  have Z_9_c1 := Z_9.c1
  have F_9_c0 := F_9.c0
  have F_9_c1 := F_9.c1
  have X_9_c0 := X_9.c0
  have X_9_c1 := X_9.c1
  have X_9_c2 := X_9.c2
  have G_9_c0 := G_9.c0
  have G_9_c1 := G_9.c1
  have Y_9_c0 := Y_9.c0
  have Y_9_c1 := Y_9.c1
  have Y_9_c2 := Y_9.c2
  have E_9_c0 := E_9.c0
  have E_9_c1 := E_9.c1
  have W_9_c0 := W_9.c0
  have W_9_c1 := W_9.c1
  have W_9_c2 := W_9.c2
  have H_9_c0 := H_9.c0
  have H_9_c1 := H_9.c1
  go_wp2
  go_ret
  exact ⟨rfl, Z9⟩
theorem ra_all {Ax : Option Addr} {nx cx : Nat} {Ay : Option Addr} {ny cy : Nat} {ii : Int} {dx dy : List Nat} {cntx cnty : Int} (hilo : -9223372036854775808 ≤ ii) (hihi : ii ≤ 9223372036854775807) (hdx : ∀ k, dx.getD k 0 < 256) (hlox : -9223372036854775808 ≤ cntx) (hhix : cntx ≤ 9223372036854775807) (hdy : ∀ k, dy.getD k 0 < 256) (hloy : -9223372036854775808 ≤ cnty) (hhiy : cnty ≤ 9223372036854775807) (w : World) (hx : Rd w Ax nx cx (bcells dx)) (hy : Rd w Ay ny cy (bcells dy)) :
    Calls Try.prog 7 #[.agg #[.slice Ax nx cx, .int .i64 cntx], .agg #[.slice Ay ny cy, .int .i64 cnty], .int .i64 ii] w fun e w' => e = .returned (.bool true) ∧ Below w.heap.size w w' := by
  obtain ⟨code, idx, hJ⟩ := jout_ex [(⟨Ax, nx, cx, dx, cntx⟩ : BItem), ⟨Ay, ny, cy, dy, cnty⟩]
  by_cases hc : code = 0
  · rcases hJ with ⟨_, h, _⟩ | ⟨_, _, _, _, _, h, _⟩ | ⟨_, _, _, h, _⟩ | ⟨_, hall, hlen, _, _⟩
    · omega
    · omega
    · omega
    have o1 : Ok dx cntx := hall 0 (by simp) (by simp)
    have o2 : Ok dy cnty := hall 1 (by simp) (by simp)
    obtain ⟨L, l1, l2, rfl, rfl⟩ := o1.list hdx
    obtain ⟨R, r1, r2, rfl, rfl⟩ := o2.list hdy
    have hs : L.length + R.length ≤ 131072 := by
      have e1 : (⟨Ax, nx, cx, pack L, L.length⟩ : BItem).bits = L := by unfold BItem.bits; rw [Int.toNat_natCast, bitsOf_pack l1]
      have e2 : (⟨Ay, ny, cy, pack R, R.length⟩ : BItem).bits = R := by unfold BItem.bits; rw [Int.toNat_natCast, bitsOf_pack r1]
      simp [joined, e1, e2] at hlen
      exact hlen
    by_cases hio : ii < 0 ∨ ((R.length : Nat) : Int) < ii
    · exact ra_out hilo hihi l1 r1 hs hio w hx hy
    · exact ra_in hilo hihi l1 r1 hs (by omega) (by omega) w hx hy
  · exact ra_e hilo hihi ⟨hdx, hlox, hhix⟩ ⟨hdy, hloy, hhiy⟩ hJ hc w hx hy
end PB
end Go.Proofs.Ytckimocmppdecaa
