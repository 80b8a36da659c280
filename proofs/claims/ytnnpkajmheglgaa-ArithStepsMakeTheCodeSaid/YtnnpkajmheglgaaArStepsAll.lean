/-
  arith.Put, arith.Finish without a fault: the bits lie in a row of the call's own.
  bits.Join joins bit strings, or tells why it cannot.
  What the walk of the statement ArithStepsMakeTheCode holds: the coder's variable, the slice of the parts, the bytes of each part.
  The bits that Put and Finish add are the code: the walk of the statement ArithStepsMakeTheCode.
-/
import Derived.Test.YtnnpkajmheglgaaArPut
import Derived.Test.YtnnpkajmheglgaaRows
import Derived.Test.YtnnpkajmheglgaaBitsRef5
import Derived.Test.YtnnpkajmheglgaaBitsMake
import Derived.Test.YtnnpkajmheglgaaArEx
import Derived.Deep.RegionHeld3
import Derived.Deep.DrawnRows
namespace Go.Proofs.Ytnnpkajmheglgaa
open Go.RowKit
attribute [local go_sem ↓] Go.wp_at_zero Go.wp_at_succ
set_option linter.unusedVariables false
set_option linter.unusedSimpArgs false
namespace PB
theorem own_base {w : World} {base base2 : Nat} {e : TypeId} {size : Nat} {v : Value} {n : Nat} {xs : List Value} (hb : base2 ≤ base) (h : w.ownsRow base e size v n xs) : w.ownsRow base2 e size v n xs := by
  obtain ⟨h1, h3⟩ := h
  refine ⟨h1, ?_⟩
  rcases h3 with h3 | ⟨g, cap, cur, rfl, hg, r⟩
  · exact Or.inl h3
  · exact Or.inr ⟨g, cap, cur, rfl, Nat.le_trans hb hg, r⟩
set_option maxRecDepth 100000 in
set_option maxHeartbeats 600000 in
theorem put_own0 {lo hi p : Int} {b q : Nat} (hok : COk lo hi (q : Nat)) (h1 : 1 ≤ p) (h2 : p ≤ 4095) (hb : b = 0) (LO HI : Int) (S : List Nat) (Q : Nat) (hLO : LO = (stp lo hi b p).1) (hHI : HI = (stp lo hi b p).2.1) (hS : S = (sentf (stp lo hi b p).2.2 q).1) (hQ : Q = (sentf (stp lo hi b p).2.2 q).2) (hbig : Q ≤ 131056) (w : World) :
    Calls Try.prog 24 #[.agg #[.int .i64 lo, .int .i64 hi, .int .i64 (q : Nat)], .int .i64 (b : Nat), .int .i64 p] w fun e w' => ∃ A n c, e = .returned (.tuple #[.agg #[.int .i64 LO, .int .i64 HI, .int .i64 (Q : Nat)], .agg #[.slice A n c, .int .i64 S.length], .agg #[.int .i64 0, .int .i64 0]]) ∧ w'.ownsRow w.heap.size 5 1 (.slice A n c) n (bcells (pack S)) ∧ Below w.heap.size w w' := by
  have HOK := Lib.hid (fun (W : World) => validcoder_any lo hi (q : Nat) true ⟨fun _ => hok, fun _ => rfl⟩ W)
  have HP := Lib.hid (show decide (1 ≤ p ∧ p ≤ 4095) = true from decide_eq_true ⟨h1, h2⟩)
  have hqq := hok.2.2
  have HEN := Lib.hid (fun (W : World) => encode_any hok.1 h1 h2 (b := b) (by omega) (q := q) (by omega) LO HI S Q hLO hHI hS hQ W)
  have h01 : Is01 S := Is01.of_mem fun x hx => by have := sentf_le _ (stp_facts b hok.1 h1 h2).2.2.1 q x (by rw [← hS]; exact hx); omega
  have hlen : S.length + Q = (stp lo hi b p).2.2.length + q := by rw [hS, hQ]; exact sentf_count _ _
  have h14 := (stp_facts b hok.1 h1 h2).2.1
  have hSl : S.length ≤ 131072 := by omega
  have HMK := Lib.hid (fun (W : World) => make_bt S h01 hSl W)
  clear hok h1 h2 hLO hHI hS hQ h01 hlen h14 hqq hSl
  subst hb
  have k0 : (((0 : Nat) : Int) != 0) = false := rfl
  have P_0 := ((((Three.new w 50 (.int .i64 lo) (.int .i64 hi) (.int .i64 (q : Nat)))).alloc (.cells #[.int .i64 0, .int .i64 0, .int .i64 0] 50)).alloc (.cells #[.slice none 0 0, .int .i64 0] 25)).alloc (.cells #[.int .i64 0, .int .i64 0] 27)
  have X_0 := (((Three.new1 w (.cells #[.int .i64 lo, .int .i64 hi, .int .i64 (q : Nat)] 50) 50 (.int .i64 0) (.int .i64 0) (.int .i64 0))).alloc (.cells #[.slice none 0 0, .int .i64 0] 25)).alloc (.cells #[.int .i64 0, .int .i64 0] 27)
  have Y_0 := ((Two.new2 w (.cells #[.int .i64 lo, .int .i64 hi, .int .i64 (q : Nat)] 50) (.cells #[.int .i64 0, .int .i64 0, .int .i64 0] 50) 25 (.slice none 0 0) (.int .i64 0))).alloc (.cells #[.int .i64 0, .int .i64 0] 27)
  have F_0 := (Two.new3 w (.cells #[.int .i64 lo, .int .i64 hi, .int .i64 (q : Nat)] 50) (.cells #[.int .i64 0, .int .i64 0, .int .i64 0] 50) (.cells #[.slice none 0 0, .int .i64 0] 25) 27 (.int .i64 0) (.int .i64 0))
  have Z0 := ((((Below.refl w.heap.size w).alloc (by simp) (.cells #[.int .i64 lo, .int .i64 hi, .int .i64 (q : Nat)] 50)).alloc (by simp) (.cells #[.int .i64 0, .int .i64 0, .int .i64 0] 50)).alloc (by simp; omega) (.cells #[.slice none 0 0, .int .i64 0] 25)).alloc (by simp; omega) (.cells #[.int .i64 0, .int .i64 0] 27)
  have P_0_c0 := P_0.c0
  have P_0_c1 := P_0.c1
  have P_0_c2 := P_0.c2
  have X_0_c0 := X_0.c0
  have X_0_c1 := X_0.c1
  have X_0_c2 := X_0.c2
  have X_0_f0 := X_0.f0
  have X_0_f1 := X_0.f1
  have X_0_f2 := X_0.f2
  have Y_0_c0 := Y_0.c0
  have Y_0_c1 := Y_0.c1
  have Y_0_f0 := Y_0.f0
  have Y_0_f1 := Y_0.f1
  have F_0_c0 := F_0.c0
  have F_0_c1 := F_0.c1
  have F_0_f0 := F_0.f0
  have F_0_f1 := F_0.f1
  go_enter Try.func24, Try.ntmps24
  go_wp2_with fail
  refine (HOK.out _).mono ?_
  rintro e w1 ⟨rfl, y1⟩
  have P_1 := P_0.on y1
  have X_1 := X_0.on y1
  have Y_1 := Y_0.on y1
  have F_1 := F_0.on y1
  clear P_0 P_0_c0 P_0_c1 P_0_c2 X_0 X_0_c0 X_0_c1 X_0_c2 X_0_f0 X_0_f1 X_0_f2 Y_0 Y_0_c0 Y_0_c1 Y_0_f0 Y_0_f1 F_0 F_0_c0 F_0_c1 F_0_f0 F_0_f1
  have z1 := Z0.trans (y1.mono Z0.size)
  have Z1 := z1
  have P_1_c0 := P_1.c0
  have P_1_c1 := P_1.c1
  have P_1_c2 := P_1.c2
  have X_1_c0 := X_1.c0
  have X_1_c1 := X_1.c1
  have X_1_c2 := X_1.c2
  have X_1_f0 := X_1.f0
  have X_1_f1 := X_1.f1
  have X_1_f2 := X_1.f2
  have Y_1_c0 := Y_1.c0
  have Y_1_c1 := Y_1.c1
  have Y_1_f0 := Y_1.f0
  have Y_1_f1 := Y_1.f1
  have F_1_c0 := F_1.c0
  have F_1_c1 := F_1.c1
  have F_1_f0 := F_1.f0
  have F_1_f1 := F_1.f1
  go_wp2_with fail
  refine (validp_yes _ HP.out _).mono ?_
  rintro e w9_1 ⟨rfl, rfl⟩
  have LT0 := F_1.lt
  go_wp2_with fail
  refine (HEN.out _).mono ?_
  rintro e w2 ⟨rfl, y2⟩
  have P_2 := (P_1.on y2).alloc (.cells #[.int .i64 LO, .int .i64 HI, .int .i64 (Q : Nat)] 50)
  have X_2 := (X_1.on y2).alloc (.cells #[.int .i64 LO, .int .i64 HI, .int .i64 (Q : Nat)] 50)
  have Y_2 := (Y_1.on y2).alloc (.cells #[.int .i64 LO, .int .i64 HI, .int .i64 (Q : Nat)] 50)
  have F_2 := (F_1.on y2).alloc (.cells #[.int .i64 LO, .int .i64 HI, .int .i64 (Q : Nat)] 50)
  have N_2 := (Three.new w2 50 (.int .i64 LO) (.int .i64 HI) (.int .i64 (Q : Nat)))
  clear P_1 P_1_c0 P_1_c1 P_1_c2 X_1 X_1_c0 X_1_c1 X_1_c2 X_1_f0 X_1_f1 X_1_f2 Y_1 Y_1_c0 Y_1_c1 Y_1_f0 Y_1_f1 F_1 F_1_c0 F_1_c1 F_1_f0 F_1_f1
  have z2 := Z1.trans (y2.mono Z1.size)
  have Z2 := (z2).alloc (by have := z2.size; omega) (.cells #[.int .i64 LO, .int .i64 HI, .int .i64 (Q : Nat)] 50)
  have P_2_c0 := P_2.c0
  have P_2_c1 := P_2.c1
  have P_2_c2 := P_2.c2
  have X_2_c0 := X_2.c0
  have X_2_c1 := X_2.c1
  have X_2_c2 := X_2.c2
  have X_2_f0 := X_2.f0
  have X_2_f1 := X_2.f1
  have X_2_f2 := X_2.f2
  have Y_2_c0 := Y_2.c0
  have Y_2_c1 := Y_2.c1
  have Y_2_f0 := Y_2.f0
  have Y_2_f1 := Y_2.f1
  have F_2_c0 := F_2.c0
  have F_2_c1 := F_2.c1
  have F_2_f0 := F_2.f0
  have F_2_f1 := F_2.f1
  have N_2_c0 := N_2.c0
  have N_2_c1 := N_2.c1
  have N_2_c2 := N_2.c2
  have LT := F_2.lt
  go_wp2_with fail
  refine (HMK.out _).mono ?_
  rintro e w3 ⟨A1, n1, c1, rfl, R1, y3⟩
  have P_3 := ((P_2.on y3).alloc (.cells #[.slice A1 n1 c1, .int .i64 S.length] 25)).alloc (.cells #[.int .i64 0, .int .i64 0] 27)
  have X_3 := ((X_2.on y3).alloc (.cells #[.slice A1 n1 c1, .int .i64 S.length] 25)).alloc (.cells #[.int .i64 0, .int .i64 0] 27)
  have Y_3 := ((Y_2.on y3).alloc (.cells #[.slice A1 n1 c1, .int .i64 S.length] 25)).alloc (.cells #[.int .i64 0, .int .i64 0] 27)
  have F_3 := ((F_2.on y3).alloc (.cells #[.slice A1 n1 c1, .int .i64 S.length] 25)).alloc (.cells #[.int .i64 0, .int .i64 0] 27)
  have N_3 := ((N_2.on y3).alloc (.cells #[.slice A1 n1 c1, .int .i64 S.length] 25)).alloc (.cells #[.int .i64 0, .int .i64 0] 27)
  have R_3 := ((R1).alloc (.cells #[.slice A1 n1 c1, .int .i64 S.length] 25)).alloc (.cells #[.int .i64 0, .int .i64 0] 27)
  have G_3 := ((Two.new w3 25 (.slice A1 n1 c1) (.int .i64 S.length))).alloc (.cells #[.int .i64 0, .int .i64 0] 27)
  have H_3 := (Two.new1 w3 (.cells #[.slice A1 n1 c1, .int .i64 S.length] 25) 27 (.int .i64 0) (.int .i64 0))
  clear P_2 P_2_c0 P_2_c1 P_2_c2 X_2 X_2_c0 X_2_c1 X_2_c2 X_2_f0 X_2_f1 X_2_f2 Y_2 Y_2_c0 Y_2_c1 Y_2_f0 Y_2_f1 F_2 F_2_c0 F_2_c1 F_2_f0 F_2_f1 N_2 N_2_c0 N_2_c1 N_2_c2
  have z3 := Z2.trans (y3.mono Z2.size)
  have Z3 := ((z3).alloc (by have := z3.size; omega) (.cells #[.slice A1 n1 c1, .int .i64 S.length] 25)).alloc (by have := z3.size; simp; omega) (.cells #[.int .i64 0, .int .i64 0] 27)
  have P_3_c0 := P_3.c0
  have P_3_c1 := P_3.c1
  have P_3_c2 := P_3.c2
  have X_3_c0 := X_3.c0
  have X_3_c1 := X_3.c1
  have X_3_c2 := X_3.c2
  have X_3_f0 := X_3.f0
  have X_3_f1 := X_3.f1
  have X_3_f2 := X_3.f2
  have Y_3_c0 := Y_3.c0
  have Y_3_c1 := Y_3.c1
  have Y_3_f0 := Y_3.f0
  have Y_3_f1 := Y_3.f1
  have F_3_c0 := F_3.c0
  have F_3_c1 := F_3.c1
  have F_3_f0 := F_3.f0
  have F_3_f1 := F_3.f1
  have N_3_c0 := N_3.c0
  have N_3_c1 := N_3.c1
  have N_3_c2 := N_3.c2
  have G_3_c0 := G_3.c0
  have G_3_c1 := G_3.c1
  have H_3_c0 := H_3.c0
  have H_3_c1 := H_3.c1
  have ap0 : w.heap.size + 3 < w2.heap.size := by have := LT0; have := y2.size; have := y3.size; (try simp at *); omega
  have ap0_0 : w2.heap.size ≠ w.heap.size := by omega
  have ap0_0r : w.heap.size ≠ w2.heap.size := by omega
  have ap0_1 : w2.heap.size ≠ w.heap.size + 1 := by omega
  have ap0_1r : w.heap.size + 1 ≠ w2.heap.size := by omega
  have ap0_2 : w2.heap.size ≠ w.heap.size + 1 + 1 := by omega
  have ap0_2r : w.heap.size + 1 + 1 ≠ w2.heap.size := by omega
  have ap0_3 : w2.heap.size ≠ w.heap.size + 1 + 1 + 1 := by omega
  have ap0_3r : w.heap.size + 1 + 1 + 1 ≠ w2.heap.size := by omega
  have ap1 : w.heap.size + 3 < w3.heap.size := by have := LT0; have := y2.size; have := y3.size; (try simp at *); omega
  have ap1_0 : w3.heap.size ≠ w.heap.size := by omega
  have ap1_0r : w.heap.size ≠ w3.heap.size := by omega
  have ap1_1 : w3.heap.size ≠ w.heap.size + 1 := by omega
  have ap1_1r : w.heap.size + 1 ≠ w3.heap.size := by omega
  have ap1_2 : w3.heap.size ≠ w.heap.size + 1 + 1 := by omega
  have ap1_2r : w.heap.size + 1 + 1 ≠ w3.heap.size := by omega
  have ap1_3 : w3.heap.size ≠ w.heap.size + 1 + 1 + 1 := by omega
  have ap1_3r : w.heap.size + 1 + 1 + 1 ≠ w3.heap.size := by omega
  have ap2 : w.heap.size + 3 < w3.heap.size + 1 := by have := LT0; have := y2.size; have := y3.size; (try simp at *); omega
  have ap2_0 : w3.heap.size + 1 ≠ w.heap.size := by omega
  have ap2_0r : w.heap.size ≠ w3.heap.size + 1 := by omega
  have ap2_1 : w3.heap.size + 1 ≠ w.heap.size + 1 := by omega
  have ap2_1r : w.heap.size + 1 ≠ w3.heap.size + 1 := by omega
  have ap2_2 : w3.heap.size + 1 ≠ w.heap.size + 1 + 1 := by omega
  have ap2_2r : w.heap.size + 1 + 1 ≠ w3.heap.size + 1 := by omega
  have ap2_3 : w3.heap.size + 1 ≠ w.heap.size + 1 + 1 + 1 := by omega
  have ap2_3r : w.heap.size + 1 + 1 + 1 ≠ w3.heap.size + 1 := by omega
  go_wp2_with fail
  go_region
  go_wp2
  have rX := ((((((((X_3.set0 (.int .i64 LO)).set1 (.int .i64 HI)).set2 (.int .i64 (Q : Nat))).far (p := ⟨w.heap.size + 2, 0, none⟩) (by simp) (.slice A1 n1 c1)).far (p := ⟨w.heap.size + 2, 1, none⟩) (by simp) (.int .i64 S.length)).far (p := ⟨w.heap.size + 3, 0, none⟩) (by simp) (.int .i64 0)).far (p := ⟨w.heap.size + 3, 1, none⟩) (by simp) (.int .i64 0))).drew
  have rX_0 := rX.c0
  have rX_1 := rX.c1
  have rX_2 := rX.c2
  have rY := ((((((((Y_3.far (p := ⟨w.heap.size + 1, 0, none⟩) (by simp) (.int .i64 LO)).far (p := ⟨w.heap.size + 1, 1, none⟩) (by simp) (.int .i64 HI)).far (p := ⟨w.heap.size + 1, 2, none⟩) (by simp) (.int .i64 (Q : Nat))).set0 (.slice A1 n1 c1)).set1 (.int .i64 S.length)).far (p := ⟨w.heap.size + 3, 0, none⟩) (by simp) (.int .i64 0)).far (p := ⟨w.heap.size + 3, 1, none⟩) (by simp) (.int .i64 0))).drew
  have rY_0 := rY.c0
  have rY_1 := rY.c1
  have rF := ((((((((F_3.far (p := ⟨w.heap.size + 1, 0, none⟩) (by simp) (.int .i64 LO)).far (p := ⟨w.heap.size + 1, 1, none⟩) (by simp) (.int .i64 HI)).far (p := ⟨w.heap.size + 1, 2, none⟩) (by simp) (.int .i64 (Q : Nat))).far (p := ⟨w.heap.size + 2, 0, none⟩) (by simp) (.slice A1 n1 c1)).far (p := ⟨w.heap.size + 2, 1, none⟩) (by simp) (.int .i64 S.length)).set0 (.int .i64 0)).set1 (.int .i64 0))).drew
  have rF_0 := rF.c0
  have rF_1 := rF.c1
  exact bodyPost_ret (v := .tuple #[.agg #[.int .i64 LO, .int .i64 HI, .int .i64 (Q : Nat)], .agg #[.slice A1 n1 c1, .int .i64 S.length], .agg #[.int .i64 0, .int .i64 0]]) (by simp [results, Try.results24, go_sem, rX_0, rX_1, rX_2, rY_0, rY_1, rF_0, rF_1]) rfl ⟨A1, n1, c1, rfl, own_base (by have := LT; omega) (own_drew (own_low (own_low (own_low (own_low (own_low (own_low (own_low R_3 (p := ⟨w.heap.size + 1, 0, none⟩) (Nat.lt_of_le_of_lt (by simp) LT) (.int .i64 LO)) (p := ⟨w.heap.size + 1, 1, none⟩) (Nat.lt_of_le_of_lt (by simp) LT) (.int .i64 HI)) (p := ⟨w.heap.size + 1, 2, none⟩) (Nat.lt_of_le_of_lt (by simp) LT) (.int .i64 (Q : Nat))) (p := ⟨w.heap.size + 2, 0, none⟩) (Nat.lt_of_le_of_lt (by simp) LT) (.slice A1 n1 c1)) (p := ⟨w.heap.size + 2, 1, none⟩) (Nat.lt_of_le_of_lt (by simp) LT) (.int .i64 S.length)) (p := ⟨w.heap.size + 3, 0, none⟩) (Nat.lt_of_le_of_lt (by simp) LT) (.int .i64 0)) (p := ⟨w.heap.size + 3, 1, none⟩) (Nat.lt_of_le_of_lt (by simp) LT) (.int .i64 0))), (belowD (((((((Z3.setCell (p := ⟨w.heap.size + 1, 0, none⟩) (by simp) (.int .i64 LO)).setCell (p := ⟨w.heap.size + 1, 1, none⟩) (by simp) (.int .i64 HI)).setCell (p := ⟨w.heap.size + 1, 2, none⟩) (by simp) (.int .i64 (Q : Nat))).setCell (p := ⟨w.heap.size + 2, 0, none⟩) (by simp) (.slice A1 n1 c1)).setCell (p := ⟨w.heap.size + 2, 1, none⟩) (by simp) (.int .i64 S.length)).setCell (p := ⟨w.heap.size + 3, 0, none⟩) (by simp) (.int .i64 0)).setCell (p := ⟨w.heap.size + 3, 1, none⟩) (by simp) (.int .i64 0)))⟩
set_option maxRecDepth 100000 in
set_option maxHeartbeats 600000 in
theorem put_own1 {lo hi p : Int} {b q : Nat} (hok : COk lo hi (q : Nat)) (h1 : 1 ≤ p) (h2 : p ≤ 4095) (hb : b = 1) (LO HI : Int) (S : List Nat) (Q : Nat) (hLO : LO = (stp lo hi b p).1) (hHI : HI = (stp lo hi b p).2.1) (hS : S = (sentf (stp lo hi b p).2.2 q).1) (hQ : Q = (sentf (stp lo hi b p).2.2 q).2) (hbig : Q ≤ 131056) (w : World) :
    Calls Try.prog 24 #[.agg #[.int .i64 lo, .int .i64 hi, .int .i64 (q : Nat)], .int .i64 (b : Nat), .int .i64 p] w fun e w' => ∃ A n c, e = .returned (.tuple #[.agg #[.int .i64 LO, .int .i64 HI, .int .i64 (Q : Nat)], .agg #[.slice A n c, .int .i64 S.length], .agg #[.int .i64 0, .int .i64 0]]) ∧ w'.ownsRow w.heap.size 5 1 (.slice A n c) n (bcells (pack S)) ∧ Below w.heap.size w w' := by
  have HOK := Lib.hid (fun (W : World) => validcoder_any lo hi (q : Nat) true ⟨fun _ => hok, fun _ => rfl⟩ W)
  have HP := Lib.hid (show decide (1 ≤ p ∧ p ≤ 4095) = true from decide_eq_true ⟨h1, h2⟩)
  have hqq := hok.2.2
  have HEN := Lib.hid (fun (W : World) => encode_any hok.1 h1 h2 (b := b) (by omega) (q := q) (by omega) LO HI S Q hLO hHI hS hQ W)
  have h01 : Is01 S := Is01.of_mem fun x hx => by have := sentf_le _ (stp_facts b hok.1 h1 h2).2.2.1 q x (by rw [← hS]; exact hx); omega
  have hlen : S.length + Q = (stp lo hi b p).2.2.length + q := by rw [hS, hQ]; exact sentf_count _ _
  have h14 := (stp_facts b hok.1 h1 h2).2.1
  have hSl : S.length ≤ 131072 := by omega
  have HMK := Lib.hid (fun (W : World) => make_bt S h01 hSl W)
  clear hok h1 h2 hLO hHI hS hQ h01 hlen h14 hqq hSl
  subst hb
  have k0 : (((1 : Nat) : Int) != 0) = true := rfl
  have k1 : (((1 : Nat) : Int) != 1) = false := rfl
  have P_0 := ((((Three.new w 50 (.int .i64 lo) (.int .i64 hi) (.int .i64 (q : Nat)))).alloc (.cells #[.int .i64 0, .int .i64 0, .int .i64 0] 50)).alloc (.cells #[.slice none 0 0, .int .i64 0] 25)).alloc (.cells #[.int .i64 0, .int .i64 0] 27)
  have X_0 := (((Three.new1 w (.cells #[.int .i64 lo, .int .i64 hi, .int .i64 (q : Nat)] 50) 50 (.int .i64 0) (.int .i64 0) (.int .i64 0))).alloc (.cells #[.slice none 0 0, .int .i64 0] 25)).alloc (.cells #[.int .i64 0, .int .i64 0] 27)
  have Y_0 := ((Two.new2 w (.cells #[.int .i64 lo, .int .i64 hi, .int .i64 (q : Nat)] 50) (.cells #[.int .i64 0, .int .i64 0, .int .i64 0] 50) 25 (.slice none 0 0) (.int .i64 0))).alloc (.cells #[.int .i64 0, .int .i64 0] 27)
  have F_0 := (Two.new3 w (.cells #[.int .i64 lo, .int .i64 hi, .int .i64 (q : Nat)] 50) (.cells #[.int .i64 0, .int .i64 0, .int .i64 0] 50) (.cells #[.slice none 0 0, .int .i64 0] 25) 27 (.int .i64 0) (.int .i64 0))
  have Z0 := ((((Below.refl w.heap.size w).alloc (by simp) (.cells #[.int .i64 lo, .int .i64 hi, .int .i64 (q : Nat)] 50)).alloc (by simp) (.cells #[.int .i64 0, .int .i64 0, .int .i64 0] 50)).alloc (by simp; omega) (.cells #[.slice none 0 0, .int .i64 0] 25)).alloc (by simp; omega) (.cells #[.int .i64 0, .int .i64 0] 27)
  have P_0_c0 := P_0.c0
  have P_0_c1 := P_0.c1
  have P_0_c2 := P_0.c2
  have X_0_c0 := X_0.c0
  have X_0_c1 := X_0.c1
  have X_0_c2 := X_0.c2
  have X_0_f0 := X_0.f0
  have X_0_f1 := X_0.f1
  have X_0_f2 := X_0.f2
  have Y_0_c0 := Y_0.c0
  have Y_0_c1 := Y_0.c1
  have Y_0_f0 := Y_0.f0
  have Y_0_f1 := Y_0.f1
  have F_0_c0 := F_0.c0
  have F_0_c1 := F_0.c1
  have F_0_f0 := F_0.f0
  have F_0_f1 := F_0.f1
  go_enter Try.func24, Try.ntmps24
  go_wp2_with fail
  refine (HOK.out _).mono ?_
  rintro e w1 ⟨rfl, y1⟩
  have P_1 := P_0.on y1
  have X_1 := X_0.on y1
  have Y_1 := Y_0.on y1
  have F_1 := F_0.on y1
  clear P_0 P_0_c0 P_0_c1 P_0_c2 X_0 X_0_c0 X_0_c1 X_0_c2 X_0_f0 X_0_f1 X_0_f2 Y_0 Y_0_c0 Y_0_c1 Y_0_f0 Y_0_f1 F_0 F_0_c0 F_0_c1 F_0_f0 F_0_f1
  have z1 := Z0.trans (y1.mono Z0.size)
  have Z1 := z1
  have P_1_c0 := P_1.c0
  have P_1_c1 := P_1.c1
  have P_1_c2 := P_1.c2
  have X_1_c0 := X_1.c0
  have X_1_c1 := X_1.c1
  have X_1_c2 := X_1.c2
  have X_1_f0 := X_1.f0
  have X_1_f1 := X_1.f1
  have X_1_f2 := X_1.f2
  have Y_1_c0 := Y_1.c0
  have Y_1_c1 := Y_1.c1
  have Y_1_f0 := Y_1.f0
  have Y_1_f1 := Y_1.f1
  have F_1_c0 := F_1.c0
  have F_1_c1 := F_1.c1
  have F_1_f0 := F_1.f0
  have F_1_f1 := F_1.f1
  go_wp2_with fail
  refine (validp_yes _ HP.out _).mono ?_
  rintro e w9_1 ⟨rfl, rfl⟩
  have LT0 := F_1.lt
  go_wp2_with fail
  refine (HEN.out _).mono ?_
  rintro e w2 ⟨rfl, y2⟩
  have P_2 := (P_1.on y2).alloc (.cells #[.int .i64 LO, .int .i64 HI, .int .i64 (Q : Nat)] 50)
  have X_2 := (X_1.on y2).alloc (.cells #[.int .i64 LO, .int .i64 HI, .int .i64 (Q : Nat)] 50)
  have Y_2 := (Y_1.on y2).alloc (.cells #[.int .i64 LO, .int .i64 HI, .int .i64 (Q : Nat)] 50)
  have F_2 := (F_1.on y2).alloc (.cells #[.int .i64 LO, .int .i64 HI, .int .i64 (Q : Nat)] 50)
  have N_2 := (Three.new w2 50 (.int .i64 LO) (.int .i64 HI) (.int .i64 (Q : Nat)))
  clear P_1 P_1_c0 P_1_c1 P_1_c2 X_1 X_1_c0 X_1_c1 X_1_c2 X_1_f0 X_1_f1 X_1_f2 Y_1 Y_1_c0 Y_1_c1 Y_1_f0 Y_1_f1 F_1 F_1_c0 F_1_c1 F_1_f0 F_1_f1
  have z2 := Z1.trans (y2.mono Z1.size)
  have Z2 := (z2).alloc (by have := z2.size; omega) (.cells #[.int .i64 LO, .int .i64 HI, .int .i64 (Q : Nat)] 50)
  have P_2_c0 := P_2.c0
  have P_2_c1 := P_2.c1
  have P_2_c2 := P_2.c2
  have X_2_c0 := X_2.c0
  have X_2_c1 := X_2.c1
  have X_2_c2 := X_2.c2
  have X_2_f0 := X_2.f0
  have X_2_f1 := X_2.f1
  have X_2_f2 := X_2.f2
  have Y_2_c0 := Y_2.c0
  have Y_2_c1 := Y_2.c1
  have Y_2_f0 := Y_2.f0
  have Y_2_f1 := Y_2.f1
  have F_2_c0 := F_2.c0
  have F_2_c1 := F_2.c1
  have F_2_f0 := F_2.f0
  have F_2_f1 := F_2.f1
  have N_2_c0 := N_2.c0
  have N_2_c1 := N_2.c1
  have N_2_c2 := N_2.c2
  have LT := F_2.lt
  go_wp2_with fail
  refine (HMK.out _).mono ?_
  rintro e w3 ⟨A1, n1, c1, rfl, R1, y3⟩
  have P_3 := ((P_2.on y3).alloc (.cells #[.slice A1 n1 c1, .int .i64 S.length] 25)).alloc (.cells #[.int .i64 0, .int .i64 0] 27)
  have X_3 := ((X_2.on y3).alloc (.cells #[.slice A1 n1 c1, .int .i64 S.length] 25)).alloc (.cells #[.int .i64 0, .int .i64 0] 27)
  have Y_3 := ((Y_2.on y3).alloc (.cells #[.slice A1 n1 c1, .int .i64 S.length] 25)).alloc (.cells #[.int .i64 0, .int .i64 0] 27)
  have F_3 := ((F_2.on y3).alloc (.cells #[.slice A1 n1 c1, .int .i64 S.length] 25)).alloc (.cells #[.int .i64 0, .int .i64 0] 27)
  have N_3 := ((N_2.on y3).alloc (.cells #[.slice A1 n1 c1, .int .i64 S.length] 25)).alloc (.cells #[.int .i64 0, .int .i64 0] 27)
  have R_3 := ((R1).alloc (.cells #[.slice A1 n1 c1, .int .i64 S.length] 25)).alloc (.cells #[.int .i64 0, .int .i64 0] 27)
  have G_3 := ((Two.new w3 25 (.slice A1 n1 c1) (.int .i64 S.length))).alloc (.cells #[.int .i64 0, .int .i64 0] 27)
  have H_3 := (Two.new1 w3 (.cells #[.slice A1 n1 c1, .int .i64 S.length] 25) 27 (.int .i64 0) (.int .i64 0))
  clear P_2 P_2_c0 P_2_c1 P_2_c2 X_2 X_2_c0 X_2_c1 X_2_c2 X_2_f0 X_2_f1 X_2_f2 Y_2 Y_2_c0 Y_2_c1 Y_2_f0 Y_2_f1 F_2 F_2_c0 F_2_c1 F_2_f0 F_2_f1 N_2 N_2_c0 N_2_c1 N_2_c2
  have z3 := Z2.trans (y3.mono Z2.size)
  have Z3 := ((z3).alloc (by have := z3.size; omega) (.cells #[.slice A1 n1 c1, .int .i64 S.length] 25)).alloc (by have := z3.size; simp; omega) (.cells #[.int .i64 0, .int .i64 0] 27)
  have P_3_c0 := P_3.c0
  have P_3_c1 := P_3.c1
  have P_3_c2 := P_3.c2
  have X_3_c0 := X_3.c0
  have X_3_c1 := X_3.c1
  have X_3_c2 := X_3.c2
  have X_3_f0 := X_3.f0
  have X_3_f1 := X_3.f1
  have X_3_f2 := X_3.f2
  have Y_3_c0 := Y_3.c0
  have Y_3_c1 := Y_3.c1
  have Y_3_f0 := Y_3.f0
  have Y_3_f1 := Y_3.f1
  have F_3_c0 := F_3.c0
  have F_3_c1 := F_3.c1
  have F_3_f0 := F_3.f0
  have F_3_f1 := F_3.f1
  have N_3_c0 := N_3.c0
  have N_3_c1 := N_3.c1
  have N_3_c2 := N_3.c2
  have G_3_c0 := G_3.c0
  have G_3_c1 := G_3.c1
  have H_3_c0 := H_3.c0
  have H_3_c1 := H_3.c1
  have ap0 : w.heap.size + 3 < w2.heap.size := by have := LT0; have := y2.size; have := y3.size; (try simp at *); omega
  have ap0_0 : w2.heap.size ≠ w.heap.size := by omega
  have ap0_0r : w.heap.size ≠ w2.heap.size := by omega
  have ap0_1 : w2.heap.size ≠ w.heap.size + 1 := by omega
  have ap0_1r : w.heap.size + 1 ≠ w2.heap.size := by omega
  have ap0_2 : w2.heap.size ≠ w.heap.size + 1 + 1 := by omega
  have ap0_2r : w.heap.size + 1 + 1 ≠ w2.heap.size := by omega
  have ap0_3 : w2.heap.size ≠ w.heap.size + 1 + 1 + 1 := by omega
  have ap0_3r : w.heap.size + 1 + 1 + 1 ≠ w2.heap.size := by omega
  have ap1 : w.heap.size + 3 < w3.heap.size := by have := LT0; have := y2.size; have := y3.size; (try simp at *); omega
  have ap1_0 : w3.heap.size ≠ w.heap.size := by omega
  have ap1_0r : w.heap.size ≠ w3.heap.size := by omega
  have ap1_1 : w3.heap.size ≠ w.heap.size + 1 := by omega
  have ap1_1r : w.heap.size + 1 ≠ w3.heap.size := by omega
  have ap1_2 : w3.heap.size ≠ w.heap.size + 1 + 1 := by omega
  have ap1_2r : w.heap.size + 1 + 1 ≠ w3.heap.size := by omega
  have ap1_3 : w3.heap.size ≠ w.heap.size + 1 + 1 + 1 := by omega
  have ap1_3r : w.heap.size + 1 + 1 + 1 ≠ w3.heap.size := by omega
  have ap2 : w.heap.size + 3 < w3.heap.size + 1 := by have := LT0; have := y2.size; have := y3.size; (try simp at *); omega
  have ap2_0 : w3.heap.size + 1 ≠ w.heap.size := by omega
  have ap2_0r : w.heap.size ≠ w3.heap.size + 1 := by omega
  have ap2_1 : w3.heap.size + 1 ≠ w.heap.size + 1 := by omega
  have ap2_1r : w.heap.size + 1 ≠ w3.heap.size + 1 := by omega
  have ap2_2 : w3.heap.size + 1 ≠ w.heap.size + 1 + 1 := by omega
  have ap2_2r : w.heap.size + 1 + 1 ≠ w3.heap.size + 1 := by omega
  have ap2_3 : w3.heap.size + 1 ≠ w.heap.size + 1 + 1 + 1 := by omega
  have ap2_3r : w.heap.size + 1 + 1 + 1 ≠ w3.heap.size + 1 := by omega
  go_wp2_with fail
  go_region
  go_wp2
  have rX := ((((((((X_3.set0 (.int .i64 LO)).set1 (.int .i64 HI)).set2 (.int .i64 (Q : Nat))).far (p := ⟨w.heap.size + 2, 0, none⟩) (by simp) (.slice A1 n1 c1)).far (p := ⟨w.heap.size + 2, 1, none⟩) (by simp) (.int .i64 S.length)).far (p := ⟨w.heap.size + 3, 0, none⟩) (by simp) (.int .i64 0)).far (p := ⟨w.heap.size + 3, 1, none⟩) (by simp) (.int .i64 0))).drew
  have rX_0 := rX.c0
  have rX_1 := rX.c1
  have rX_2 := rX.c2
  have rY := ((((((((Y_3.far (p := ⟨w.heap.size + 1, 0, none⟩) (by simp) (.int .i64 LO)).far (p := ⟨w.heap.size + 1, 1, none⟩) (by simp) (.int .i64 HI)).far (p := ⟨w.heap.size + 1, 2, none⟩) (by simp) (.int .i64 (Q : Nat))).set0 (.slice A1 n1 c1)).set1 (.int .i64 S.length)).far (p := ⟨w.heap.size + 3, 0, none⟩) (by simp) (.int .i64 0)).far (p := ⟨w.heap.size + 3, 1, none⟩) (by simp) (.int .i64 0))).drew
  have rY_0 := rY.c0
  have rY_1 := rY.c1
  have rF := ((((((((F_3.far (p := ⟨w.heap.size + 1, 0, none⟩) (by simp) (.int .i64 LO)).far (p := ⟨w.heap.size + 1, 1, none⟩) (by simp) (.int .i64 HI)).far (p := ⟨w.heap.size + 1, 2, none⟩) (by simp) (.int .i64 (Q : Nat))).far (p := ⟨w.heap.size + 2, 0, none⟩) (by simp) (.slice A1 n1 c1)).far (p := ⟨w.heap.size + 2, 1, none⟩) (by simp) (.int .i64 S.length)).set0 (.int .i64 0)).set1 (.int .i64 0))).drew
  have rF_0 := rF.c0
  have rF_1 := rF.c1
  exact bodyPost_ret (v := .tuple #[.agg #[.int .i64 LO, .int .i64 HI, .int .i64 (Q : Nat)], .agg #[.slice A1 n1 c1, .int .i64 S.length], .agg #[.int .i64 0, .int .i64 0]]) (by simp [results, Try.results24, go_sem, rX_0, rX_1, rX_2, rY_0, rY_1, rF_0, rF_1]) rfl ⟨A1, n1, c1, rfl, own_base (by have := LT; omega) (own_drew (own_low (own_low (own_low (own_low (own_low (own_low (own_low R_3 (p := ⟨w.heap.size + 1, 0, none⟩) (Nat.lt_of_le_of_lt (by simp) LT) (.int .i64 LO)) (p := ⟨w.heap.size + 1, 1, none⟩) (Nat.lt_of_le_of_lt (by simp) LT) (.int .i64 HI)) (p := ⟨w.heap.size + 1, 2, none⟩) (Nat.lt_of_le_of_lt (by simp) LT) (.int .i64 (Q : Nat))) (p := ⟨w.heap.size + 2, 0, none⟩) (Nat.lt_of_le_of_lt (by simp) LT) (.slice A1 n1 c1)) (p := ⟨w.heap.size + 2, 1, none⟩) (Nat.lt_of_le_of_lt (by simp) LT) (.int .i64 S.length)) (p := ⟨w.heap.size + 3, 0, none⟩) (Nat.lt_of_le_of_lt (by simp) LT) (.int .i64 0)) (p := ⟨w.heap.size + 3, 1, none⟩) (Nat.lt_of_le_of_lt (by simp) LT) (.int .i64 0))), (belowD (((((((Z3.setCell (p := ⟨w.heap.size + 1, 0, none⟩) (by simp) (.int .i64 LO)).setCell (p := ⟨w.heap.size + 1, 1, none⟩) (by simp) (.int .i64 HI)).setCell (p := ⟨w.heap.size + 1, 2, none⟩) (by simp) (.int .i64 (Q : Nat))).setCell (p := ⟨w.heap.size + 2, 0, none⟩) (by simp) (.slice A1 n1 c1)).setCell (p := ⟨w.heap.size + 2, 1, none⟩) (by simp) (.int .i64 S.length)).setCell (p := ⟨w.heap.size + 3, 0, none⟩) (by simp) (.int .i64 0)).setCell (p := ⟨w.heap.size + 3, 1, none⟩) (by simp) (.int .i64 0)))⟩
theorem put_own {lo hi p : Int} {b q : Nat} (hok : COk lo hi (q : Nat)) (h1 : 1 ≤ p) (h2 : p ≤ 4095) (hb : b ≤ 1) (LO HI : Int) (S : List Nat) (Q : Nat) (hLO : LO = (stp lo hi b p).1) (hHI : HI = (stp lo hi b p).2.1) (hS : S = (sentf (stp lo hi b p).2.2 q).1) (hQ : Q = (sentf (stp lo hi b p).2.2 q).2) (hbig : Q ≤ 131056) (w : World) :
    Calls Try.prog 24 #[.agg #[.int .i64 lo, .int .i64 hi, .int .i64 (q : Nat)], .int .i64 (b : Nat), .int .i64 p] w fun e w' => ∃ A n c, e = .returned (.tuple #[.agg #[.int .i64 LO, .int .i64 HI, .int .i64 (Q : Nat)], .agg #[.slice A n c, .int .i64 S.length], .agg #[.int .i64 0, .int .i64 0]]) ∧ w'.ownsRow w.heap.size 5 1 (.slice A n c) n (bcells (pack S)) ∧ Below w.heap.size w w' := by
  rcases (by omega : b = 0 ∨ b = 1) with hb0 | hb1
  · exact put_own0 hok h1 h2 hb0 LO HI S Q hLO hHI hS hQ hbig w
  · exact put_own1 hok h1 h2 hb1 LO HI S Q hLO hHI hS hQ hbig w
set_option maxRecDepth 100000 in
set_option maxHeartbeats 600000 in
theorem finish_own {lo hi : Int} {q : Nat} (hok : COk lo hi (q : Nat)) (b : Nat) (hb : b = if lo < 16384 then 0 else 1) (w : World) :
    Calls Try.prog 26 #[.agg #[.int .i64 lo, .int .i64 hi, .int .i64 (q : Nat)]] w fun e w' => ∃ A n c, e = .returned (.tuple #[.agg #[.slice A n c, .int .i64 (crt b (q + 1)).length], .agg #[.int .i64 0, .int .i64 0]]) ∧ w'.ownsRow w.heap.size 5 1 (.slice A n c) n (bcells (pack (crt b (q + 1)))) ∧ Below w.heap.size w w' := by
  have HOK := Lib.hid (fun (W : World) => validcoder_any lo hi (q : Nat) true ⟨fun _ => hok, fun _ => rfl⟩ W)
  have hqq := hok.2.2
  have HFI := Lib.hid (fun (W : World) => finish_any (lo := lo) (hi := hi) (q := q) (by omega) b hb W)
  have h01 : Is01 (crt b (q + 1)) := Is01.of_mem fun x hx => by have := crt_le (b := b) (q := q + 1) (by rw [hb]; split <;> omega) x hx; omega
  have HMK := Lib.hid (fun (W : World) => make_bt (crt b (q + 1)) h01 (by simp [crt]; omega) W)
  clear hok h01 hqq hb
  have P_0 := (((Three.new w 50 (.int .i64 lo) (.int .i64 hi) (.int .i64 (q : Nat)))).alloc (.cells #[.slice none 0 0, .int .i64 0] 25)).alloc (.cells #[.int .i64 0, .int .i64 0] 27)
  have Y_0 := ((Two.new1 w (.cells #[.int .i64 lo, .int .i64 hi, .int .i64 (q : Nat)] 50) 25 (.slice none 0 0) (.int .i64 0))).alloc (.cells #[.int .i64 0, .int .i64 0] 27)
  have F_0 := (Two.new2 w (.cells #[.int .i64 lo, .int .i64 hi, .int .i64 (q : Nat)] 50) (.cells #[.slice none 0 0, .int .i64 0] 25) 27 (.int .i64 0) (.int .i64 0))
  have Z0 := (((Below.refl w.heap.size w).alloc (by simp) (.cells #[.int .i64 lo, .int .i64 hi, .int .i64 (q : Nat)] 50)).alloc (by simp) (.cells #[.slice none 0 0, .int .i64 0] 25)).alloc (by simp; omega) (.cells #[.int .i64 0, .int .i64 0] 27)
  have P_0_c0 := P_0.c0
  have P_0_c1 := P_0.c1
  have P_0_c2 := P_0.c2
  have Y_0_c0 := Y_0.c0
  have Y_0_c1 := Y_0.c1
  have Y_0_f0 := Y_0.f0
  have Y_0_f1 := Y_0.f1
  have F_0_c0 := F_0.c0
  have F_0_c1 := F_0.c1
  have F_0_f0 := F_0.f0
  have F_0_f1 := F_0.f1
  go_enter Try.func26, Try.ntmps26
  go_wp2_with fail
  refine (HOK.out _).mono ?_
  rintro e w1 ⟨rfl, y1⟩
  have P_1 := P_0.on y1
  have Y_1 := Y_0.on y1
  have F_1 := F_0.on y1
  clear P_0 P_0_c0 P_0_c1 P_0_c2 Y_0 Y_0_c0 Y_0_c1 Y_0_f0 Y_0_f1 F_0 F_0_c0 F_0_c1 F_0_f0 F_0_f1
  have z1 := Z0.trans (y1.mono Z0.size)
  have Z1 := z1
  have P_1_c0 := P_1.c0
  have P_1_c1 := P_1.c1
  have P_1_c2 := P_1.c2
  have Y_1_c0 := Y_1.c0
  have Y_1_c1 := Y_1.c1
  have Y_1_f0 := Y_1.f0
  have Y_1_f1 := Y_1.f1
  have F_1_c0 := F_1.c0
  have F_1_c1 := F_1.c1
  have F_1_f0 := F_1.f0
  have F_1_f1 := F_1.f1
  go_wp2_with fail
  refine (HFI.out _).mono ?_
  rintro e w2 ⟨rfl, y2⟩
  have P_2 := P_1.on y2
  have Y_2 := Y_1.on y2
  have F_2 := F_1.on y2
  clear P_1 P_1_c0 P_1_c1 P_1_c2 Y_1 Y_1_c0 Y_1_c1 Y_1_f0 Y_1_f1 F_1 F_1_c0 F_1_c1 F_1_f0 F_1_f1
  have z2 := Z1.trans (y2.mono Z1.size)
  have Z2 := z2
  have P_2_c0 := P_2.c0
  have P_2_c1 := P_2.c1
  have P_2_c2 := P_2.c2
  have Y_2_c0 := Y_2.c0
  have Y_2_c1 := Y_2.c1
  have Y_2_f0 := Y_2.f0
  have Y_2_f1 := Y_2.f1
  have F_2_c0 := F_2.c0
  have F_2_c1 := F_2.c1
  have F_2_f0 := F_2.f0
  have F_2_f1 := F_2.f1
  have LT := F_2.lt
  go_wp2_with fail
  refine (HMK.out _).mono ?_
  rintro e w3 ⟨A1, n1, c1, rfl, R1, y3⟩
  have P_3 := P_2.on y3
  have Y_3 := Y_2.on y3
  have F_3 := F_2.on y3
  have R_3 := R1
  clear P_2 P_2_c0 P_2_c1 P_2_c2 Y_2 Y_2_c0 Y_2_c1 Y_2_f0 Y_2_f1 F_2 F_2_c0 F_2_c1 F_2_f0 F_2_f1
  have z3 := Z2.trans (y3.mono Z2.size)
  have Z3 := z3
  have P_3_c0 := P_3.c0
  have P_3_c1 := P_3.c1
  have P_3_c2 := P_3.c2
  have Y_3_c0 := Y_3.c0
  have Y_3_c1 := Y_3.c1
  have Y_3_f0 := Y_3.f0
  have Y_3_f1 := Y_3.f1
  have F_3_c0 := F_3.c0
  have F_3_c1 := F_3.c1
  have F_3_f0 := F_3.f0
  have F_3_f1 := F_3.f1
  go_wp2
  have rY := (((((Y_3.set0 (.slice A1 n1 c1)).set1 (.int .i64 (crt b (q + 1)).length)).far (p := ⟨w.heap.size + 2, 0, none⟩) (by simp) (.int .i64 0)).far (p := ⟨w.heap.size + 2, 1, none⟩) (by simp) (.int .i64 0)))
  have rY_0 := rY.c0
  have rY_1 := rY.c1
  have rF := (((((F_3.far (p := ⟨w.heap.size + 1, 0, none⟩) (by simp) (.slice A1 n1 c1)).far (p := ⟨w.heap.size + 1, 1, none⟩) (by simp) (.int .i64 (crt b (q + 1)).length)).set0 (.int .i64 0)).set1 (.int .i64 0)))
  have rF_0 := rF.c0
  have rF_1 := rF.c1
  exact bodyPost_ret (v := .tuple #[.agg #[.slice A1 n1 c1, .int .i64 (crt b (q + 1)).length], .agg #[.int .i64 0, .int .i64 0]]) (by simp [results, Try.results26, go_sem, rY_0, rY_1, rF_0, rF_1]) rfl ⟨A1, n1, c1, rfl, own_base (by have := LT; omega) (own_low (own_low (own_low (own_low R_3 (p := ⟨w.heap.size + 1, 0, none⟩) (Nat.lt_of_le_of_lt (by simp) LT) (.slice A1 n1 c1)) (p := ⟨w.heap.size + 1, 1, none⟩) (Nat.lt_of_le_of_lt (by simp) LT) (.int .i64 (crt b (q + 1)).length)) (p := ⟨w.heap.size + 2, 0, none⟩) (Nat.lt_of_le_of_lt (by simp) LT) (.int .i64 0)) (p := ⟨w.heap.size + 2, 1, none⟩) (Nat.lt_of_le_of_lt (by simp) LT) (.int .i64 0)), ((((Z3.setCell (p := ⟨w.heap.size + 1, 0, none⟩) (by simp) (.slice A1 n1 c1)).setCell (p := ⟨w.heap.size + 1, 1, none⟩) (by simp) (.int .i64 (crt b (q + 1)).length)).setCell (p := ⟨w.heap.size + 2, 0, none⟩) (by simp) (.int .i64 0)).setCell (p := ⟨w.heap.size + 2, 1, none⟩) (by simp) (.int .i64 0))⟩
end PB
end Go.Proofs.Ytnnpkajmheglgaa
namespace Go.Proofs.Ytnnpkajmheglgaa
open Go.RowKit
attribute [local go_sem ↓] Go.wp_at_zero Go.wp_at_succ
set_option linter.unusedVariables false
set_option linter.unusedSimpArgs false
namespace PB
theorem Res2.drew {w : World} {s : Nat} (h : Res2 w s) : Res2 w.drew s := h
/-- The ways of bits.Join that end in a fault, and the joined bits. -/
def JRes (xs : List BItem) (code idx : Int) : List Nat := if code = 0 then joined xs else []
set_option maxHeartbeats 1600000 in
theorem join_any {A : Option Addr} {n c : Nat} {xs : List BItem} {code idx : Int} {w : World} (h : RdB w A n c xs) (hw : ∀ x ∈ xs, x.wf) (hJ : JOut xs code idx) :
    Calls Try.prog 36 #[.slice A n c] w fun e w' => ∃ A' n' c', e = .returned (.tuple #[.agg #[.slice A' n' c', .int .i64 (JRes xs code idx).length], .agg #[.int .i64 code, .int .i64 idx]]) ∧ w'.ownsRow w.heap.size 5 1 (.slice A' n' c') n' (bcells (pack (JRes xs code idx))) ∧ Below w.heap.size w w' := by
  have hn := h.1
  have hcap := h.2.1
  have hcm := h.2.2.1
  unfold maxLen at hcm
  obtain rfl := hn
  have X0 := Res2.start w
  have y0 : Below w.heap.size w ((w.alloc (.cells #[.slice none 0 0, .int .i64 0] 25)).alloc (.cells #[.int .i64 0, .int .i64 0] 27)) := ((Below.refl _ _).alloc (Nat.le_refl _) _).alloc (by simp) _
  have HW := Lib.hid hw
  clear hw
  have ends : ∀ (W : World) (cd ix : Int), cd ≠ 0 → Res2 W w.heap.size → Below w.heap.size w W → (∃ A' n' c', Ending.returned (.tuple #[.agg #[.slice none 0 0, .int .i64 0], .agg #[.int .i64 cd, .int .i64 ix]]) = .returned (.tuple #[.agg #[.slice A' n' c', .int .i64 (JRes xs cd ix).length], .agg #[.int .i64 cd, .int .i64 ix]]) ∧ ((((W.setCell ⟨w.heap.size, 0, none⟩ (.slice none 0 0)).setCell ⟨w.heap.size, 1, none⟩ (.int .i64 0)).setCell ⟨w.heap.size + 1, 0, none⟩ (.int .i64 cd)).setCell ⟨w.heap.size + 1, 1, none⟩ (.int .i64 ix)).ownsRow w.heap.size 5 1 (.slice A' n' c') n' (bcells (pack (JRes xs cd ix)))
      ∧ Below w.heap.size w ((((W.setCell ⟨w.heap.size, 0, none⟩ (.slice none 0 0)).setCell ⟨w.heap.size, 1, none⟩ (.int .i64 0)).setCell ⟨w.heap.size + 1, 0, none⟩ (.int .i64 cd)).setCell ⟨w.heap.size + 1, 1, none⟩ (.int .i64 ix))) := by
    intro W cd ix hc hX hY
    have e : JRes xs cd ix = [] := by unfold JRes; rw [if_neg hc]
    rw [e]
    exact ⟨none, 0, 0, rfl, by simpa [pack_nil, bcells] using World.ownsRow_nil _ _ _ _, below_res2 hY _ _ _ _⟩
  have HENDS := Lib.hid ends
  clear ends
  by_cases hlong : 256 < xs.length
  · obtain ⟨rfl, rfl⟩ : code = 2 ∧ idx = -1 := by
      rcases hJ with ⟨_, h1, h2⟩ | ⟨h1, _⟩ | ⟨h1, _⟩ | ⟨h1, _⟩
      · exact ⟨h1, h2⟩
      all_goals omega
    clear hJ
    go_enter Try.func36, Try.ntmps36
    go_wp2_with fail
    refine (fault_any _ _ _).mono ?_
    rintro e w1 ⟨rfl, y1⟩
    have X1 := X0.on y1
    have Y1 := y0.trans (y1.mono y0.size)
    obtain ⟨f0, f1, f2, f3, f4, f5, f6, f7, f8⟩ := X1.facts
    go_wp2
    obtain ⟨r0, r1, r2, r3⟩ := X1.ends (.slice none 0 0) (.int .i64 0) (.int .i64 2) (.int .i64 (-1))
    exact bodyPost_ret (v := .tuple #[.agg #[.slice none 0 0, .int .i64 0], .agg #[.int .i64 2, .int .i64 (-1)]]) (by simp [results, Try.results36, go_sem, r0, r1, r2, r3]) rfl (HENDS.out _ _ _ (by decide) X1 Y1)
  have hJ2 : ∃ q, q ≤ xs.length ∧ AllOk xs q ∧ ((∃ h : q < xs.length, ¬ xs[q].ok ∧ code = 6 ∧ idx = (q : Nat)) ∨ (q = xs.length ∧ ((131072 < (joined xs).length ∧ code = 14 ∧ idx = -1) ∨ ((joined xs).length ≤ 131072 ∧ code = 0 ∧ idx = 0)))) := by
    rcases hJ with ⟨h0, _⟩ | ⟨_, q, h0, h1, h2, h3, h4⟩ | ⟨_, h1, h2, h3, h4⟩ | ⟨_, h1, h2, h3, h4⟩
    · omega
    · exact ⟨q, by omega, h1, .inl ⟨h0, h2, h3, h4⟩⟩
    · exact ⟨_, Nat.le_refl _, h1, .inr ⟨rfl, .inl ⟨h2, h3, h4⟩⟩⟩
    · exact ⟨_, Nat.le_refl _, h1, .inr ⟨rfl, .inr ⟨h2, h3, h4⟩⟩⟩
  obtain ⟨q, hq, hall, hend⟩ := hJ2
  have HJL := Lib.hid (joined_take_le xs q hall)
  have HA := Lib.hid hall
  have HE := Lib.hid hend
  clear hJ hall hend
  have hlen : xs.length ≤ 256 := by omega
  have k256 : decide ((256 : Int) < ((xs.length : Nat) : Int)) = false := by simp; omega
  go_enter Try.func36, Try.ntmps36
  go_wp2_with fail
  go_loopw [4, 18] (fun t i wr => ∃ k : Nat, k ≤ q ∧ i = .int .i64 k ∧ t = .int .i64 ((joined (xs.take k)).length : Nat) ∧ Below w.heap.size w wr ∧ Res2 wr w.heap.size) (fun _ i _ => xs.length - (intOf i).toNat)
  case atStart => exact ⟨0, Nat.zero_le _, rfl, rfl, y0, X0⟩
  case round =>
    obtain ⟨k, hk, rfl, rfl, yr, XR⟩ := hrel
    clear y0 X0
    have hT := HJL.out k hk
    obtain ⟨T, hTT⟩ : ∃ T, T = (joined (xs.take k)).length := ⟨_, rfl⟩
    rw [← hTT] at hT ⊢
    have HT := Lib.hid hTT
    have hT2 : T ≤ 40000000 := by omega
    clear hTT hT
    by_cases hlt : k < xs.length
    · obtain ⟨b, off, rfl, hb, q1, q2, R⟩ := (h.on yr).at k hlt
      obtain ⟨x, hx⟩ : ∃ x, x = xs[k] := ⟨_, rfl⟩
      rw [← hx] at q1 q2 R
      have hxw : x.wf := by rw [hx]; exact HW.out _ (List.getElem_mem hlt)
      have HX := Lib.hid hx
      clear hx
      obtain ⟨g1, g2, g3⟩ := hxw
      have G1 := Lib.hid g1
      clear g1
      have ysz := yr.size
      have V0 := Two.new wr 25 (.slice x.A x.n x.c) (.int .i64 x.cnt)
      have XV := XR.alloc (.cells #[.slice x.A x.n x.c, .int .i64 x.cnt] 25)
      have yv := yr.alloc ysz (.cells #[.slice x.A x.n x.c, .int .i64 x.cnt] 25)
      have RV := R.alloc (.cells #[.slice x.A x.n x.c, .int .i64 x.cnt] 25)
      by_cases hkq : k < q
      · have hok : x.ok := by rw [HX.out]; exact HA.out k hlt hkq
        have hcnt := hok.1
        have hcnt2 := hok.2.1
        have HOK := Lib.hid hok
        clear hok
        go_wp2_with fail
        refine (valid_any x.A x.n x.c x.d x.cnt _ _ RV (Nat.le_refl _) true ⟨fun _ => HOK.out, fun _ => rfl⟩).mono ?_
        rintro e w1 ⟨rfl, y1⟩
        have Y1 := yv.trans (y1.mono yv.size)
        have X1 := XV.on y1
        have V1 := V0.on y1
        have v0 := V1.c0
        have v1 := V1.c1
        have HS := Lib.hid (show ((joined (xs.take (k + 1))).length : Int) = T + x.cnt by
          rw [joined_take_succ xs k hlt, List.length_append, ← HX.out, HT.out, ← BItem.bits_length x HOK.out]; omega)
        go_wp2
        go_roundw
        case rel => exact ⟨k + 1, by omega, by go_num, congrArg (Value.int .i64) HS.out.symm, Y1, X1⟩
        case measure => simp [intOf]; omega
      · obtain rfl : k = q := by omega
        rcases HE.out with ⟨_, hbad, rfl, rfl⟩ | ⟨h1, _⟩
        · have HB := Lib.hid (show ¬ Ok x.d x.cnt by rw [HX.out]; exact hbad)
          clear hbad
          go_wp2_with fail
          refine (valid_any x.A x.n x.c x.d x.cnt _ _ RV (Nat.le_refl _) false ⟨(fun h => by cases h), fun h => absurd h HB.out⟩).mono ?_
          rintro e w1 ⟨rfl, y1⟩
          have Y1 := yv.trans (y1.mono yv.size)
          have X1 := XV.on y1
          go_wp2_with fail
          refine (fault_any _ _ _).mono ?_
          rintro e w2 ⟨rfl, y2⟩
          have Y2 := Y1.trans (y2.mono Y1.size)
          have X2 := X1.on y2
          obtain ⟨f0, f1, f2, f3, f4, f5, f6, f7, f8⟩ := X2.facts
          go_wp2
          obtain ⟨r0, r1, r2, r3⟩ := X2.ends (.slice none 0 0) (.int .i64 0) (.int .i64 6) (.int .i64 (k : Nat))
          exact bodyPost_ret (v := .tuple #[.agg #[.slice none 0 0, .int .i64 0], .agg #[.int .i64 6, .int .i64 (k : Nat)]]) (by simp [results, Try.results36, go_sem, r0, r1, r2, r3]) rfl (HENDS.out _ _ _ (by decide) X2 Y2)
        · omega
    · obtain rfl : k = xs.length := by omega
      rcases HE.out with ⟨h1, _⟩ | ⟨_, ⟨hs, rfl, rfl⟩ | ⟨hs, rfl, rfl⟩⟩
      · omega
      · have hT3 : 131072 < T := by rw [HT.out, List.take_of_length_le (Nat.le_refl _)]; exact hs
        clear hs
        go_wp2_with fail
        refine (fault_any _ _ _).mono ?_
        rintro e w2 ⟨rfl, y2⟩
        have Y2 := yr.trans (y2.mono yr.size)
        have X2 := XR.on y2
        obtain ⟨f0, f1, f2, f3, f4, f5, f6, f7, f8⟩ := X2.facts
        go_wp2
        obtain ⟨r0, r1, r2, r3⟩ := X2.ends (.slice none 0 0) (.int .i64 0) (.int .i64 14) (.int .i64 (-1))
        exact bodyPost_ret (v := .tuple #[.agg #[.slice none 0 0, .int .i64 0], .agg #[.int .i64 14, .int .i64 (-1)]]) (by simp [results, Try.results36, go_sem, r0, r1, r2, r3]) rfl (HENDS.out _ _ _ (by decide) X2 Y2)
      · have hT3 : T ≤ 131072 := by rw [HT.out, List.take_of_length_le (Nat.le_refl _)]; exact hs
        have k131 : decide ((131072 : Int) < (T : Int)) = false := by simp; omega
        have HJM := Lib.hid (fun k => Nat.le_trans (joined_take_mono xs k) hs)
        obtain ⟨wa, hwa⟩ : ∃ wa : World, wa = wr := ⟨_, rfl⟩
        rw [← hwa] at yr XR ⊢
        clear hwa hs
        have yas := yr.size
        have hx1 := XR.2.lt
        go_wp2_with fail
        go_loopw [40] (fun i wr => ∃ k : Nat, k ≤ xs.length ∧ i = .int .i64 k ∧ Below w.heap.size w wr ∧ Res2 wr w.heap.size ∧ ∃ A1 n1 c1 m, m = (joined (xs.take k)).length ∧ Two wr wa.heap.size 25 (.slice A1 n1 c1) (.int .i64 (m : Nat)) ∧ wr.ownsRow w.heap.size 5 1 (.slice A1 n1 c1) n1 (bcells (pack (joined (xs.take k))))) (fun i _ => xs.length - (intOf i).toNat)
        case atStart => exact ⟨0, Nat.zero_le _, rfl, yr.alloc yas _, XR.alloc _, none, 0, 0, 0, rfl, Two.new _ _ _ _, by simpa [pack_nil, bcells, joined] using World.ownsRow_nil _ _ _ _⟩
        case round =>
          obtain ⟨k, hk, rfl, yr2, XR2, A1, n1, c1, m, hm, O, ho⟩ := hrel
          obtain ⟨wb, hwb⟩ : ∃ wb : World, wb = wr := ⟨_, rfl⟩
          rw [← hwb] at yr2 XR2 O ho ⊢
          have hmb : m ≤ 131072 := by rw [hm]; exact HJM.out k
          have HM := Lib.hid hm
          clear hwb hm yr XR
          have ybs := yr2.size
          by_cases hlt : k < xs.length
          · obtain ⟨b, off, rfl, hb, q1, q2, R⟩ := (h.on yr2).at k hlt
            obtain ⟨x, hx⟩ : ∃ x, x = xs[k] := ⟨_, rfl⟩
            rw [← hx] at q1 q2 R
            have hxw : x.wf := by rw [hx]; exact HW.out _ (List.getElem_mem hlt)
            have hok : x.ok := by rw [hx]; exact HA.out k hlt (by omega)
            obtain ⟨X, hX⟩ : ∃ X, X = x.bits := ⟨_, rfl⟩
            have hXl : x.cnt = ((X.length : Nat) : Int) := by rw [hX]; exact (BItem.bits_length x hok).symm
            have hXb : X.length ≤ 131072 := by rw [hX]; exact BItem.le x hok
            have HXD := Lib.hid (show x.d = pack X by rw [hX]; exact BItem.pack x hok hxw)
            have H01X := Lib.hid (show Is01 X by rw [hX]; exact BItem.bits_01 x)
            have HN := Lib.hid (show joined (xs.take (k + 1)) = joined (xs.take k) ++ X by rw [joined_take_succ xs k hlt, ← hx, ← hX])
            have HXX := Lib.hid hx
            rw [HXD.out] at R
            rw [hXl] at q2
            clear hx hxw hok hX hXl
            have hab := O.lt
            have hmx : m + X.length ≤ 131072 := by
              have := HJM.out (k + 1)
              rw [HN.out, List.length_append, ← HM.out] at this; exact this
            go_wp2_with fail
            go_loopw [46] (fun i wr => ∃ j M : Nat, j ≤ X.length ∧ M = m + j ∧ i = .int .i64 j ∧ Below w.heap.size w wr ∧ Res2 wr w.heap.size ∧ Two wr wb.heap.size 25 (.slice x.A x.n x.c) (.int .i64 (X.length : Nat)) ∧ ∃ A1 n1 c1, Two wr wa.heap.size 25 (.slice A1 n1 c1) (.int .i64 (M : Nat)) ∧
                wr.ownsRow w.heap.size 5 1 (.slice A1 n1 c1) n1 (bcells (pack (joined (xs.take k) ++ X.take j)))) (fun i _ => X.length - (intOf i).toNat)
            case atStart => exact ⟨0, m, Nat.zero_le _, rfl, rfl, yr2.alloc ybs _, XR2.alloc _, Two.new _ _ _ _, A1, n1, c1, O.alloc _, by simpa using ho.alloc _⟩
            case round =>
              obtain ⟨j, M, hj, hM, rfl, yr3, XR3, V3, A3, n3, c3, O3, ho3⟩ := hrel
              have R3 : Rd wr x.A x.n x.c (bcells (pack X)) := by
                obtain ⟨_, _, _, _, _, _, R⟩ := (h.on yr3).at k hlt
                rw [← HXX.out, HXD.out] at R
                exact R
              have hRd : Reads wr.drew wr.drew.heap.size x.A x.n x.c (bcells (pack X)) := R3
              clear XR2 O ho R q1 q2
              have hMb : M < 1000000 := by omega
              have HMM := Lib.hid hM
              clear hM
              have yrs := yr3.size
              obtain ⟨f0, f1, f2, f3, f4⟩ := O3.facts
              have v0 := V3.c0
              have v1 := V3.c1
              by_cases hjl : j < X.length
              · obtain ⟨bb, hbb⟩ : ∃ bb, bb = X.getD j 0 := ⟨_, rfl⟩
                have hb2 : bb < 2 := by rw [hbb]; exact H01X.out _
                have HBB := Lib.hid hbb
                have HLl := Lib.hid (show (joined (xs.take k) ++ X.take j).length = M by rw [List.length_append, List.length_take, ← HM.out, HMM.out]; omega)
                have HL01 := Lib.hid (show Is01 (joined (xs.take k) ++ X.take j) from (joined_01 _).append (H01X.out.take j))
                have HS := Lib.hid (show joined (xs.take k) ++ X.take (j + 1) = (joined (xs.take k) ++ X.take j) ++ [bb] by rw [List.take_succ_eq_append_getElem hjl, hbb, getD_lt hjl, List.append_assoc])
                clear hbb
                go_wp2_with fail
                go_region_with (first
                  | (go_at_call 57; (with_reducible refine (at_bit x.A x.n x.c X j bb _ rfl _ _ hRd H01X.out hjl HBB.out (Nat.le_refl _)).mono ?_); rintro e w5 ⟨rfl, hb5⟩; have X5 := Res2.on (w := wr.drew) XR3 hb5; have O5 := Two.on (w := wr.drew) O3 hb5; have V5 := Two.on (w := wr.drew) V3 hb5; have y5 := yr3.drew.trans (Below.mono (w := wr.drew) hb5 yr3.size); have ho5 := own_on (w := wr.drew) ho3.drew hb5; have yw5 := y5.size; obtain ⟨p0, p1, p2, p3, p4⟩ := O5.facts; have pv0 := V5.c0; have pv1 := V5.c1)
                  | (go_at_call 56; (with_reducible refine (put_it (L := joined (xs.take k) ++ X.take j) (b := bb) HLl.out HL01.out hb2 hMb ho5 yw5).mono ?_); rintro e w6 ⟨A6, n6, c6, rfl, ho6, hg6⟩; have X6 := X5.grown hg6 (own_two_ne ho5 X5.1 (by decide)) (own_two_ne ho5 X5.2 (by decide)); have O6 := O5.grown hg6 (own_two_ne ho5 O5 (by decide)).symm; have V6 := V5.grown hg6 (own_two_ne ho5 V5 (by decide)).symm; obtain ⟨t0, t1, t2, t3, t4⟩ := O6.facts))
                all_goals
                  have y6 : Below w.heap.size w w6 := y5.grown hg6 yw5 (fun g hg => (ho5.lt g hg).1)
                  have hq := own_two_ne ho6 O6 (by decide)
                  go_wp2
                  go_roundw
                  case rel =>
                    refine ⟨j + 1, M + 1, by omega, by rw [HMM.out]; omega, by go_num, (y6.setCell (by simpa using yas) _).setCell (by simpa using yas) _, (X6.far (by simpa using hx1) _).far (by simpa using hx1) _, (V6.far (by simp; omega) _).far (by simp; omega) _, A6, n6, c6, (O6.set0 _).set1 _, ?_⟩
                    rw [HS.out]
                    exact own_far_any (own_far_any ho6 hq _) hq _
                  case measure => simp [intOf]; omega
              · obtain rfl : j = X.length := by omega
                go_wp2
                go_roundw
                case rel =>
                  refine ⟨k + 1, by omega, by go_num, yr3, XR3, A3, n3, c3, M, ?_, O3, ?_⟩
                  · rw [HN.out, List.length_append, ← HM.out, HMM.out]
                  · rw [HN.out]
                    simpa using ho3
                case measure => simp [intOf]; omega
          · obtain rfl : k = xs.length := by omega
            have e : joined (xs.take xs.length) = joined xs := by rw [List.take_of_length_le (Nat.le_refl _)]
            have ej : JRes xs 0 0 = joined xs := rfl
            rw [e, ← ej] at ho HM
            have HJ := Lib.hid (show (JRes xs 0 0).length = m from HM.out.symm)
            clear e ej
            obtain ⟨f0, f1, f2, f3, f4⟩ := O.facts
            obtain ⟨g0, g1, g2, g3, g4, g5, g6, g7, g8⟩ := XR2.facts
            go_wp2
            obtain ⟨r0, r1, r2, r3⟩ := XR2.ends (.slice A1 n1 c1) (.int .i64 m) (.int .i64 0) (.int .i64 0)
            refine bodyPost_ret (v := .tuple #[.agg #[.slice A1 n1 c1, .int .i64 m], .agg #[.int .i64 0, .int .i64 0]]) (by simp [results, Try.results36, go_sem, r0, r1, r2, r3]) rfl ⟨A1, n1, c1, by rw [HJ.out], own_res2 XR2 ho _ _ _ _, below_res2 yr2 _ _ _ _⟩
end PB
end Go.Proofs.Ytnnpkajmheglgaa
namespace Go.Proofs.Ytnnpkajmheglgaa
open Go.RowKit
set_option linter.unusedVariables false
set_option linter.unusedSimpArgs false
namespace PB
theorem shareH {P : Program} {md : Region.Mode} {ops : Array Oper} {Q : Exit → Act → World → Prop} {S : World → Prop} {fuel : Nat} {l1 : Array Bool} {a : Act} {w : World} {T : Prop} (h : T → wpAnyH P md ops Q S fuel l1 a w) (t : T) : wpAnyH P md ops Q S fuel l1 a w := h t
theorem anyH_listed {P : Program} {md : Region.Mode} {ops : Array Oper} {Q : Exit → Act → World → Prop} {S : World → Prop} {fuel : Nat} {l1 l2 : Array Bool} {a : Act} {w : World} (h : l1 = l2) (H : wpAnyH P md ops Q S fuel l2 a w) : wpAnyH P md ops Q S fuel l1 a w := h ▸ H
/-- The cells of a slice of bit strings. -/
def icl (xs : List BItem) : List Value := xs.flatMap fun x => [.slice x.A x.n x.c, .int .i64 x.cnt]
theorem icl_length (xs : List BItem) : (icl xs).length = xs.length * 2 := by
  induction xs with
  | nil => rfl
  | cons x xs ih => unfold icl at ih ⊢; rw [List.flatMap_cons, List.length_append, ih, List.length_cons]; simp; omega
theorem icl_snoc (xs : List BItem) (x : BItem) : icl (xs ++ [x]) = icl xs ++ [.slice x.A x.n x.c, .int .i64 x.cnt] := by simp [icl]
theorem icl_get (xs : List BItem) (i : Nat) (x : BItem) (h : xs[i]? = some x) : (icl xs)[i * 2]? = some (.slice x.A x.n x.c) ∧ (icl xs)[i * 2 + 1]? = some (.int .i64 x.cnt) := by
  induction xs generalizing i with
  | nil => simp at h
  | cons y ys ih =>
    have e : icl (y :: ys) = .slice y.A y.n y.c :: .int .i64 y.cnt :: icl ys := by simp [icl]
    cases i with
    | zero => simp at h; subst h; rw [e]; exact ⟨rfl, rfl⟩
    | succ i =>
      have := ih i (by simpa using h)
      rw [e, show (i + 1) * 2 = i * 2 + 1 + 1 by omega]
      simpa using this
/-- The parts so far: w0 is the world ahead of the coder's variable. -/
structure PW (w0 wr : World) (C : Nat) (l u : Int) (q : Nat) (A : Option Addr) (n c : Nat) (xs : List BItem) : Prop where
  cod : Three wr C 50 (.int .i64 l) (.int .i64 u) (.int .i64 (q : Nat))
  row : wr.ownsRow (C + 1) 25 2 (.slice A n c) n (icl xs)
  its : ∀ x ∈ xs, wr.ownsRow (C + 1) 5 1 (.slice x.A x.n x.c) x.n (bcells x.d)
  bel : Below C w0 wr
  hC : w0.heap.size = C
  hn : xs.length = n
section
variable {w0 wr w' : World} {C : Nat} {l u : Int} {q : Nat} {A : Option Addr} {n c : Nat} {xs : List BItem}
theorem PW.lt (h : PW w0 wr C l u q A n c xs) : C < wr.heap.size := h.cod.lt
theorem PW.on (h : PW w0 wr C l u q A n c xs) (y : Below wr.heap.size wr w') : PW w0 w' C l u q A n c xs :=
  ⟨h.cod.on y, own_on h.row y, fun x hx => own_on (h.its x hx) y, h.bel.trans (y.mono (Nat.le_of_lt h.lt)), h.hC, h.hn⟩
theorem PW.alloc (h : PW w0 wr C l u q A n c xs) (o : Obj) : PW w0 (wr.alloc o) C l u q A n c xs := h.on ((Below.refl _ _).alloc (Nat.le_refl _) o)
theorem PW.drew (h : PW w0 wr C l u q A n c xs) : PW w0 wr.drew C l u q A n c xs :=
  ⟨h.cod.drew, own_drew h.row, fun x hx => own_drew (h.its x hx), belowD h.bel, h.hC, h.hn⟩
theorem PW.bel0 (h : PW w0 wr C l u q A n c xs) : Below w0.heap.size w0 wr := h.hC ▸ h.bel
theorem PW.cells (h : PW w0 wr C l u q A n c xs) : wr.cell? ⟨C, 0, none⟩ = some (.int .i64 l) ∧ wr.cell? ⟨C, 1, none⟩ = some (.int .i64 u) ∧ wr.cell? ⟨C, 2, none⟩ = some (.int .i64 (q : Nat)) := ⟨h.cod.c0, h.cod.c1, h.cod.c2⟩
theorem PW.set (h : PW w0 wr C l u q A n c xs) (l' u' : Int) (q' : Nat) : PW w0 (((wr.setCell ⟨C, 0, none⟩ (.int .i64 l')).setCell ⟨C, 1, none⟩ (.int .i64 u')).setCell ⟨C, 2, none⟩ (.int .i64 (q' : Nat))) C l' u' q' A n c xs := by
  have a1 := h.cod.set0 (.int .i64 l')
  have a2 := a1.set1 (.int .i64 u')
  refine ⟨a2.set2 _, own_low (own_low (own_low h.row (p := ⟨C, 0, none⟩) (Nat.lt_succ_self C) _) (p := ⟨C, 1, none⟩) (Nat.lt_succ_self C) _) (p := ⟨C, 2, none⟩) (Nat.lt_succ_self C) _,
    fun x hx => own_low (own_low (own_low (h.its x hx) (p := ⟨C, 0, none⟩) (Nat.lt_succ_self C) _) (p := ⟨C, 1, none⟩) (Nat.lt_succ_self C) _) (p := ⟨C, 2, none⟩) (Nat.lt_succ_self C) _, ?_, h.hC, h.hn⟩
  exact ((h.bel.setCell (p := ⟨C, 0, none⟩) (Nat.le_refl C) _).setCell (p := ⟨C, 1, none⟩) (Nat.le_refl C) _).setCell (p := ⟨C, 2, none⟩) (Nat.le_refl C) _
/-- A store into a block that is neither the coder's nor the row of the parts, and of another type than bytes. -/
theorem PW.far (h : PW w0 wr C l u q A n c xs) {N : Nat} {t : TypeId} {cs : Array Value} (hB : Blk wr N t cs) (h1 : (Value.slice A n c).ownBlock ≠ some N) (h2 : t ≠ 5) (hN : C < N) (i : Nat) (v : Value) : PW w0 (wr.setCell ⟨N, i, none⟩ v) C l u q A n c xs :=
  ⟨h.cod.far (p := ⟨N, i, none⟩) (by show C ≠ N; omega) v, own_far_any h.row (p := ⟨N, i, none⟩) h1 v, fun x hx => own_far_any (h.its x hx) (p := ⟨N, i, none⟩) (fun e => own_blk_ne (h.its x hx) hB (Ne.symm h2) e.symm) v, h.bel.setCell (p := ⟨N, i, none⟩) (by show C ≤ N; omega) v, h.hC, h.hn⟩
theorem PW.rowne (h : PW w0 wr C l u q A n c xs) : (Value.slice A n c).ownBlock ≠ some wr.heap.size := fun e => by
  have := (h.row.lt _ e).2
  omega
theorem own_own_ne {w : World} {b1 b2 : Nat} {e1 e2 : TypeId} {s1 s2 n1 n2 : Nat} {v1 v2 : Value} {x1 x2 : List Value} (h1 : w.ownsRow b1 e1 s1 v1 n1 x1) (h2 : w.ownsRow b2 e2 s2 v2 n2 x2) (hne : e1 ≠ e2) : v1.ownBlock = none ∨ v1.ownBlock ≠ v2.ownBlock := by
  rcases h1.2 with ⟨rfl, _⟩ | ⟨g, cap, cur, rfl, _, hh, _⟩
  · exact .inl rfl
  · right
    intro e
    exact own_blk_ne (cs := _) h2 (g := g) (t := e1) hh (Ne.symm hne) (by rw [← e]; rfl)
theorem own_far_grown {w w' : World} {base base2 : Nat} {e e2 : TypeId} {size size2 n n2 : Nat} {v v2 : Value} {xs xs2 : List Value} (h : w.ownsRow base e size v n xs) (h2 : w.ownsRow base2 e2 size2 v2 n2 xs2) (hg : w.grownBy w' v2.ownBlock) (hne : e ≠ e2) : w'.ownsRow base e size v n xs := by
  have hd := own_own_ne h h2 hne
  obtain ⟨h1, h3⟩ := h
  refine ⟨h1, ?_⟩
  rcases h3 with h3 | ⟨g, cap, cur, rfl, hb, hh, r⟩
  · exact Or.inl h3
  · refine Or.inr ⟨g, cap, cur, rfl, hb, ?_, r⟩
    have hlt : g < w.heap.size := (Array.getElem?_eq_some_iff.1 hh).1
    refine (hg.block g hlt ?_).trans hh
    rcases hd with hne | hne
    · simp [Value.ownBlock] at hne
    · simpa [Value.ownBlock] using hne
theorem PW.app (h : PW w0 wr C l u q A n c xs) {A' : Option Addr} {c' : Nat} {x : BItem} (hx : wr.ownsRow (C + 1) 5 1 (.slice x.A x.n x.c) x.n (bcells x.d))
    (o : w'.ownsRow (C + 1) 25 2 (.slice A' (n + 1) c') (n + 1) (icl xs ++ [.slice x.A x.n x.c, .int .i64 x.cnt])) (g : wr.grownBy w' (Value.slice A n c).ownBlock) : PW w0 w' C l u q A' (n + 1) c' (xs ++ [x]) := by
  have hne : some C ≠ (Value.slice A n c).ownBlock := by
    intro e
    have := (h.row.lt C e.symm).1
    omega
  refine ⟨h.cod.grown g hne, by rw [icl_snoc]; exact o, fun y hy => ?_, below_grown h.bel h.row g (Nat.le_succ C) (Nat.le_of_lt h.lt), h.hC, by rw [List.length_append, List.length_singleton, h.hn]⟩
  rcases List.mem_append.1 hy with hy | hy
  · exact own_far_grown (h.its y hy) h.row g (by decide)
  · rw [List.mem_singleton] at hy; subst hy; exact own_far_grown hx h.row g (by decide)
theorem PW.rdB (h : PW w0 wr C l u q A n c xs) : RdB wr A n c xs := by
  rcases h.row.2 with ⟨h1, h2⟩ | ⟨g, cap, cur, h1, h2, h3, h4, h5, h6, h7⟩
  · injection h1 with e1 e2 e3
    exact ⟨h.hn, by omega, by rw [e3]; exact Nat.zero_le _, fun hn => absurd hn (by omega)⟩
  · injection h1 with e1 e2 e3
    subst e1 e3
    refine ⟨h.hn, h4, h5, fun hn => ?_⟩
    have hcells := World.ownsRow.cells h.row (g := g) rfl
    have key : ∀ j v, (icl xs)[j]? = some v → wr.cell? ⟨g, j, none⟩ = some v := by
      intro j v hv
      have := hcells j v hv
      have e : (⟨g, 0, none⟩ : Addr).add j = ⟨g, j, none⟩ := by
        unfold Addr.add
        by_cases hj : j = 0 <;> simp [hj]
      rwa [e] at this
    refine ⟨g, 0, rfl, (h.row.lt g rfl).2, fun i x hx => ?_⟩
    obtain ⟨q1, q2⟩ := icl_get xs i x hx
    rw [show 0 + i * 2 = i * 2 by omega]
    exact ⟨key _ _ q1, key _ _ q2, Rd.own (h.its x (List.mem_of_getElem? hx))⟩
end
theorem icl_one (A : Option Addr) (n c : Nat) (cnt : Int) : ∀ u ∈ [Value.slice A n c, .int .i64 cnt], u.oneCell' = true := by
  intro u hu
  simp at hu
  rcases hu with rfl | rfl <;> rfl
theorem bits_info : (Try.prog.info? 25).map (fun i => (i.zero, i.size, i.bytes)) = some (some (.agg #[.slice none 0 0, .int .i64 0]), 2, 32) := by kernel_rfl
/-- append(parts, b): one bit string more. -/
theorem wpList_bits1 {P : Program} {ops : Array Oper} {rest : List Oper} {o : Oper} {a : Act} {Q : Exit → Act → World → Prop} (W : World) (hgd : o.guard = none) (s x : Operand) (t : TypeId)
    (ho : o.op = .call { callee := .builtin .append, args := #[s, x], argTypes := #[t, t] })
    (base : Nat) (e : TypeId) (i : TypeInfo) (z : Value) (bytes : Nat) (ht : P.underlying t = some (.slice e)) (hi : P.info? e = some i) (hz : i.zero = some z)
    (hsize : i.size = 2) (hby : i.bytes = bytes) (hzs : z.cells.size = 2)
    (v : Value) (n : Nat) (xs : List Value) (hs : a.eval s = v) (hown : W.ownsRow base e 2 v n xs)
    (u0 u1 : Value) (h1 : ∀ u ∈ [u0, u1], u.oneCell' = true) (G : Nat) (hx : a.eval x = .slice (some ⟨G, 0, none⟩) 1 1) (hG : W.heap.size = G)
    (h63 : n + 1 ≤ maxLen) (hbytes : (n + 1) * bytes ≤ 140737488355328) (hbase : base ≤ W.heap.size)
    (h : ∀ A' c' w', w'.ownsRow base e 2 (.slice A' (n + 1) c') (n + 1) (xs ++ [u0, u1]) → W.grownBy w' v.ownBlock → wpList P ops Q rest (a.put o.dst (.slice A' (n + 1) c')) w') :
    wpList P ops Q (o :: rest) a (W.alloc (.cells #[u0, u1] e)) := by
  subst hG
  have hB := Blk.new W e #[u0, u1]
  refine wpList_append_own (P := P) (W.alloc (.cells #[u0, u1] e)) hgd s x t ho base e i z 2 bytes ht hi hz hsize hby hzs (by decide) v n xs hs (hown.alloc _) ⟨W.heap.size, 0, none⟩ 1 1 [u0, u1] hx rfl (fun j u hj => ?_) h1 h63 hbytes (by simp; omega) ?_
  · have e : (⟨W.heap.size, 0, none⟩ : Addr).add j = ⟨W.heap.size, j, none⟩ := by
      unfold Addr.add
      by_cases hj : j = 0 <;> simp [hj]
    rw [e, hB.cell j]
    simpa using hj
  · intro v' w' h2 h3 _
    obtain ⟨A', c', rfl⟩ := own_shape h2
    refine h A' c' w' h2 ?_
    exact ⟨h3.os, h3.tape, h3.output, Nat.le_trans (by simp) h3.size, fun k hk hne => (h3.block k (by simp; omega) hne).trans (Below.heap_alloc W _ k hk)⟩
/-- The parts so far are what the doublings sent. -/
def PJ (xs : List BItem) (S : List Nat) : Prop := (∀ x ∈ xs, x.wf ∧ x.ok) ∧ joined xs = S
theorem PJ.nil : PJ [] [] := ⟨fun x hx => (List.not_mem_nil hx).elim, rfl⟩
theorem PJ.snoc {xs : List BItem} {S T : List Nat} (h : PJ xs S) (hT : Is01 T) (hl : T.length ≤ 131072) (A : Option Addr) (n c : Nat) : PJ (xs ++ [⟨A, n, c, pack T, (T.length : Nat)⟩]) (S ++ T) := by
  have ok1 : (⟨A, n, c, pack T, (T.length : Nat)⟩ : BItem).ok := Ok.of_list hT (by omega)
  have e1 : (⟨A, n, c, pack T, (T.length : Nat)⟩ : BItem).bits = T := by unfold BItem.bits; rw [Int.toNat_natCast, bitsOf_pack hT]
  refine ⟨fun x hx => ?_, by rw [joined_snoc, h.2, e1]⟩
  rcases List.mem_append.1 hx with hx | hx
  · exact h.1 x hx
  · rw [List.mem_singleton] at hx
    subst hx
    exact ⟨⟨pack_lt hT, by simp, by simp; omega⟩, ok1⟩
theorem PJ.out {xs : List BItem} {S : List Nat} (h : PJ xs S) (hl : xs.length ≤ 256) (hS : S.length ≤ 131072) : (∀ x ∈ xs, x.wf) ∧ JOut xs 0 0 ∧ JRes xs 0 0 = S := by
  refine ⟨fun x hx => (h.1 x hx).1, .inr (.inr (.inr ⟨hl, fun i hi _ => (h.1 _ (List.getElem_mem hi)).2, by rw [h.2]; exact hS, rfl, rfl⟩)), ?_⟩
  unfold JRes
  rw [if_pos rfl, h.2]
end PB
end Go.Proofs.Ytnnpkajmheglgaa
namespace Go.Proofs.Ytnnpkajmheglgaa
open Go.RowKit
attribute [local go_sem ↓] Go.wp_at_zero Go.wp_at_succ
set_option linter.unusedVariables false
set_option linter.unusedSimpArgs false
namespace PB
set_option maxRecDepth 100000 in
set_option maxHeartbeats 1600000 in
theorem as_bad {A : Option Addr} {n c : Nat} {cs : List Cho} {code idx : Int} (hC : COut cs code idx) (hc : code ≠ 0) (w : World) (h : RdC w A n c cs) :
    Calls Try.prog 10 #[.slice A n c] w fun e w' => e = .returned (.bool true) ∧ Below w.heap.size w w' := by
  have hc2 : (code != 0) = true := by rw [bne_iff_ne]; exact hc
  have hc3 : (code == 0) = false := by rw [beq_eq_false_iff_ne]; exact hc
  have HEN := Lib.hid (fun (W : World) (hW : RdC W A n c cs) => arenc_any hW code idx hC [] (by rw [if_neg hc]) 0 rfl)
  clear hC hc
  have C_0 := h
  have Z0 := Below.refl w.heap.size w
  go_enter Try.func10, Try.ntmps10
  go_wp2_with fail
  refine (HEN.out _ C_0).mono ?_
  rintro e w1 ⟨A1, n1, c1, rfl, R1, y1⟩
  have C_1 := ((C_0.on y1).alloc (.cells #[.slice A1 n1 c1, .int .i64 0] 25)).alloc (.cells #[.int .i64 code, .int .i64 idx] 27)
  have R_1 := ((R1).alloc (.cells #[.slice A1 n1 c1, .int .i64 0] 25)).alloc (.cells #[.int .i64 code, .int .i64 idx] 27)
  have B_1 := ((Two.new w1 25 (.slice A1 n1 c1) (.int .i64 0))).alloc (.cells #[.int .i64 code, .int .i64 idx] 27)
  have F_1 := (Two.new1 w1 (.cells #[.slice A1 n1 c1, .int .i64 0] 25) 27 (.int .i64 code) (.int .i64 idx))
  clear C_0
  have z1 := Z0.trans (y1.mono Z0.size)
  have Z1 := ((z1).alloc (by have := z1.size; omega) (.cells #[.slice A1 n1 c1, .int .i64 0] 25)).alloc (by have := z1.size; simp; omega) (.cells #[.int .i64 code, .int .i64 idx] 27)
  have B_1_c0 := B_1.c0
  have B_1_c1 := B_1.c1
  have F_1_c0 := F_1.c0
  have F_1_c1 := F_1.c1
  go_wp2_with fail
  refine (codes_true _).mono ?_
  rintro e w2 ⟨rfl, y2⟩
  have C_2 := C_1.on y2
  have R_2 := R_1.on y2
  have B_2 := B_1.on y2
  have F_2 := F_1.on y2
  clear C_1 R_1 B_1 B_1_c0 B_1_c1 F_1 F_1_c0 F_1_c1
  have z2 := Z1.trans (y2.mono Z1.size)
  have Z2 := z2
  have B_2_c0 := B_2.c0
  have B_2_c1 := B_2.c1
  have F_2_c0 := F_2.c0
  have F_2_c1 := F_2.c1
  go_wp2_with fail
  refine (codes_true _).mono ?_
  rintro e w3 ⟨rfl, y3⟩
  have C_3 := C_2.on y3
  have R_3 := R_2.on y3
  have B_3 := B_2.on y3
  have F_3 := F_2.on y3
  clear C_2 R_2 B_2 B_2_c0 B_2_c1 F_2 F_2_c0 F_2_c1
  have z3 := Z2.trans (y3.mono Z2.size)
  have Z3 := z3
  have B_3_c0 := B_3.c0
  have B_3_c1 := B_3.c1
  have F_3_c0 := F_3.c0
  have F_3_c1 := F_3.c1
  go_wp2_with fail
  refine (api_same (l := []) (l2 := []) R_3 (Rd.none_ _) Is01.nil Is01.nil true (by simp) _ _ rfl rfl).mono ?_
  rintro e w4 ⟨rfl, y4⟩
  have C_4 := C_3.on y4
  have R_4 := R_3.on y4
  have B_4 := B_3.on y4
  have F_4 := F_3.on y4
  clear C_3 R_3 B_3 B_3_c0 B_3_c1 F_3 F_3_c0 F_3_c1
  have z4 := Z3.trans (y4.mono Z3.size)
  have Z4 := z4
  have B_4_c0 := B_4.c0
  have B_4_c1 := B_4.c1
  have F_4_c0 := F_4.c0
  have F_4_c1 := F_4.c1
  go_wp2
  go_ret
  exact ⟨rfl, Z4⟩
set_option maxRecDepth 100000 in
set_option maxHeartbeats 1600000 in
theorem as_long {A : Option Addr} {n c : Nat} {cs : List Cho} {idx : Int} (hC : COut cs 0 idx) (hlong : 250 < cs.length) (w : World) (h : RdC w A n c cs) :
    Calls Try.prog 10 #[.slice A n c] w fun e w' => e = .returned (.bool true) ∧ Below w.heap.size w w' := by
  obtain ⟨hall, hlen8, rfl⟩ := cout_ok hC rfl
  have hcap := h.2.1
  have hcm := h.2.2.1
  unfold maxLen at hcm
  have hn := h.len
  obtain rfl := hn
  obtain ⟨kk, hkk⟩ : ∃ kk, kk = (acode cs).length := ⟨_, rfl⟩
  have HEN := Lib.hid (fun (W : World) (hW : RdC W A cs.length c cs) => arenc_any hW 0 0 hC (acode cs) (by rw [if_pos rfl]) kk hkk)
  have k0 : decide ((250 : Int) < (cs.length : Int)) = true := by simp; omega
  clear hC hall hkk hlen8 hlong
  have C_0 := h
  have Z0 := Below.refl w.heap.size w
  go_enter Try.func10, Try.ntmps10
  go_wp2_with fail
  refine (HEN.out _ C_0).mono ?_
  rintro e w1 ⟨A1, n1, c1, rfl, R1, y1⟩
  have C_1 := ((C_0.on y1).alloc (.cells #[.slice A1 n1 c1, .int .i64 (kk : Nat)] 25)).alloc (.cells #[.int .i64 0, .int .i64 0] 27)
  have R_1 := ((R1).alloc (.cells #[.slice A1 n1 c1, .int .i64 (kk : Nat)] 25)).alloc (.cells #[.int .i64 0, .int .i64 0] 27)
  have B_1 := ((Two.new w1 25 (.slice A1 n1 c1) (.int .i64 (kk : Nat)))).alloc (.cells #[.int .i64 0, .int .i64 0] 27)
  have F_1 := (Two.new1 w1 (.cells #[.slice A1 n1 c1, .int .i64 (kk : Nat)] 25) 27 (.int .i64 0) (.int .i64 0))
  clear C_0
  have z1 := Z0.trans (y1.mono Z0.size)
  have Z1 := ((z1).alloc (by have := z1.size; omega) (.cells #[.slice A1 n1 c1, .int .i64 (kk : Nat)] 25)).alloc (by have := z1.size; simp; omega) (.cells #[.int .i64 0, .int .i64 0] 27)
  have B_1_c0 := B_1.c0
  have B_1_c1 := B_1.c1
  have F_1_c0 := F_1.c0
  have F_1_c1 := F_1.c1
  go_wp2_with fail
  refine (codes_true _).mono ?_
  rintro e w2 ⟨rfl, y2⟩
  have C_2 := C_1.on y2
  have R_2 := R_1.on y2
  have B_2 := B_1.on y2
  have F_2 := F_1.on y2
  clear C_1 R_1 B_1 B_1_c0 B_1_c1 F_1 F_1_c0 F_1_c1
  have z2 := Z1.trans (y2.mono Z1.size)
  have Z2 := z2
  have B_2_c0 := B_2.c0
  have B_2_c1 := B_2.c1
  have F_2_c0 := F_2.c0
  have F_2_c1 := F_2.c1
  go_wp2_with fail
  refine (codes_true _).mono ?_
  rintro e w3 ⟨rfl, y3⟩
  have C_3 := C_2.on y3
  have R_3 := R_2.on y3
  have B_3 := B_2.on y3
  have F_3 := F_2.on y3
  clear C_2 R_2 B_2 B_2_c0 B_2_c1 F_2 F_2_c0 F_2_c1
  have z3 := Z2.trans (y3.mono Z2.size)
  have Z3 := z3
  have B_3_c0 := B_3.c0
  have B_3_c1 := B_3.c1
  have F_3_c0 := F_3.c0
  have F_3_c1 := F_3.c1
  go_wp2
  go_ret
  exact ⟨rfl, Z3⟩
set_option maxRecDepth 100000 in
set_option maxHeartbeats 6400000 in
theorem as_ok {A : Option Addr} {n c : Nat} {cs : List Cho} {idx : Int} (hC : COut cs 0 idx) (hshort : cs.length ≤ 250) (w : World) (h : RdC w A n c cs) :
    Calls Try.prog 10 #[.slice A n c] w fun e w' => e = .returned (.bool true) ∧ Below w.heap.size w w' := by
  obtain ⟨hall, hlen8, rfl⟩ := cout_ok hC rfl
  have hcap := h.2.1
  have hcm := h.2.2.1
  unfold maxLen at hcm
  have hn := h.len
  obtain rfl := hn
  obtain ⟨kk, hkk⟩ : ∃ kk, kk = (acode cs).length := ⟨_, rfl⟩
  have HEN := Lib.hid (fun (W : World) (hW : RdC W A cs.length c cs) => arenc_any hW 0 0 hC (acode cs) (by rw [if_pos rfl]) kk hkk)
  have k0 : decide ((250 : Int) < (cs.length : Int)) = false := by simp; omega
  have HA := Lib.hid hall
  have HTL := Lib.hid (fun k => erun_facts (cs.take k) (hall.take k) 0 65535 wid0)
  have H01 := Lib.hid (acode_01 hall)
  have HKK := Lib.hid hkk
  have hkk2 : kk ≤ 114690 := by rw [hkk]; exact acode_le hall hlen8
  obtain ⟨i0, hi0, hz0, hz1, hz2⟩ := info_parts bits_info
  clear hC hall hkk hlen8
  have C_0 := h
  have Z0 := Below.refl w.heap.size w
  go_enter Try.func10, Try.ntmps10
  go_wp2_with fail
  refine (HEN.out _ C_0).mono ?_
  rintro e w1 ⟨A1, n1, c1, rfl, R1, y1⟩
  have C_1 := ((C_0.on y1).alloc (.cells #[.slice A1 n1 c1, .int .i64 (kk : Nat)] 25)).alloc (.cells #[.int .i64 0, .int .i64 0] 27)
  have R_1 := ((R1).alloc (.cells #[.slice A1 n1 c1, .int .i64 (kk : Nat)] 25)).alloc (.cells #[.int .i64 0, .int .i64 0] 27)
  have B_1 := ((Two.new w1 25 (.slice A1 n1 c1) (.int .i64 (kk : Nat)))).alloc (.cells #[.int .i64 0, .int .i64 0] 27)
  have F_1 := (Two.new1 w1 (.cells #[.slice A1 n1 c1, .int .i64 (kk : Nat)] 25) 27 (.int .i64 0) (.int .i64 0))
  clear C_0
  have z1 := Z0.trans (y1.mono Z0.size)
  have Z1 := ((z1).alloc (by have := z1.size; omega) (.cells #[.slice A1 n1 c1, .int .i64 (kk : Nat)] 25)).alloc (by have := z1.size; simp; omega) (.cells #[.int .i64 0, .int .i64 0] 27)
  have B_1_c0 := B_1.c0
  have B_1_c1 := B_1.c1
  have F_1_c0 := F_1.c0
  have F_1_c1 := F_1.c1
  go_wp2_with fail
  refine (codes_true _).mono ?_
  rintro e w2 ⟨rfl, y2⟩
  have C_2 := C_1.on y2
  have R_2 := R_1.on y2
  have B_2 := B_1.on y2
  have F_2 := F_1.on y2
  clear C_1 R_1 B_1 B_1_c0 B_1_c1 F_1 F_1_c0 F_1_c1
  have z2 := Z1.trans (y2.mono Z1.size)
  have Z2 := z2
  have B_2_c0 := B_2.c0
  have B_2_c1 := B_2.c1
  have F_2_c0 := F_2.c0
  have F_2_c1 := F_2.c1
  have ZS := Z2.size
  go_wp2_with fail
  refine (start_any _).mono ?_
  rintro e w3 ⟨rfl, y3⟩
  have C3 := (C_2).on y3
  have B3 := (B_2).on y3
  have R3 := (R_2).on y3
  have Z3 := (Z2).trans (y3.mono ZS)
  have HW := Lib.hid C3
  have HB := Lib.hid B3
  have HR := Lib.hid R3
  have HZ := Lib.hid Z3
  obtain ⟨C, hC⟩ : ∃ C, C = w3.heap.size := ⟨_, rfl⟩
  have HC := Lib.hid hC
  have E3 : PW w3 (w3.alloc (.cells #[.int .i64 0, .int .i64 65535, .int .i64 0] 50)) C 0 65535 0 none 0 0 [] :=
    ⟨by rw [hC]; exact Three.new w3 _ _ _ _, World.ownsRow_nil _ _ _ _, fun x hx => (List.not_mem_nil hx).elim, by rw [hC]; exact (Below.refl _ _).alloc (Nat.le_refl _) _, hC.symm, rfl⟩
  clear C_2 B_2 F_2 R_2 C3 B3 R3 Z3 y3 ZS
  go_wp2_with fail
  generalize w3.alloc (.cells #[.int .i64 0, .int .i64 65535, .int .i64 0] 50) = W3 at E3 ⊢
  rw [← hC]
  clear hC
  go_loopw [6, 7] (fun pv i wr => ∃ (k : Nat) (l u : Int) (q : Nat) (S : List Nat) (PA : Option Addr) (pc : Nat) (xs : List BItem), k ≤ cs.length ∧ i = .int .i64 (k : Nat) ∧ pv = .slice PA k pc ∧ l = (erun (cs.take k) 0 65535).1 ∧ u = (erun (cs.take k) 0 65535).2.1 ∧ S = (sentf (erun (cs.take k) 0 65535).2.2 0).1 ∧ q = (sentf (erun (cs.take k) 0 65535).2.2 0).2 ∧ PJ xs S ∧ PW w3 wr C l u q PA k pc xs) (fun _ i _ => cs.length - (intOf i).toNat)
  case atStart => exact ⟨0, 0, 65535, 0, [], none, 0, [], Nat.zero_le _, rfl, rfl, rfl, rfl, rfl, rfl, PJ.nil, E3⟩
  case round =>
    obtain ⟨k, l, u, q, S, PA, pc, xs, hk, rfl, rfl, hlo, hhi, hS, hq, hPJ, E4⟩ := hrel
    have HLO := Lib.hid hlo
    have HHI := Lib.hid hhi
    have HS := Lib.hid hS
    have HQ := Lib.hid hq
    have HPJ := Lib.hid hPJ
    have hlen : S.length + q ≤ 14 * k := by
      have a := sentf_count (erun (cs.take k) 0 65535).2.2 0
      rw [← hS, ← hq] at a
      have b := (HTL.out k).2.1
      rw [List.length_take] at b
      omega
    have hw : Wid l u := by have := (HTL.out k).1; rwa [← HLO.out, ← HHI.out] at this
    clear hlo hhi hS hq hPJ E3
    by_cases hlt : k < cs.length
    · have hR := HW.out.on E4.bel0
      obtain ⟨g, off, rfl, hg, q1, q2⟩ := hR.at k hlt
      obtain ⟨x, hx⟩ : ∃ x, x = cs[k] := ⟨_, rfl⟩
      have hok := HA.out _ (List.getElem_mem hlt)
      have hes := erun_take_succ cs k hlt 0 65535
      rw [← hx] at q1 q2 hok hes
      rw [← HLO.out, ← HHI.out] at hes
      obtain ⟨LO, hLO⟩ : ∃ LO, LO = (stp l u x.n x.p).1 := ⟨_, rfl⟩
      obtain ⟨HI, hHI⟩ : ∃ HI, HI = (stp l u x.n x.p).2.1 := ⟨_, rfl⟩
      obtain ⟨R, hRR⟩ : ∃ R, R = (stp l u x.n x.p).2.2 := ⟨_, rfl⟩
      obtain ⟨S2, hS2⟩ : ∃ S2, S2 = (sentf R q).1 := ⟨_, rfl⟩
      obtain ⟨Q2, hQ2⟩ : ∃ Q2, Q2 = (sentf R q).2 := ⟨_, rfl⟩
      rw [← hLO, ← hHI, ← hRR] at hes
      have hR14 : R.length ≤ 14 := by rw [hRR]; exact (stp_facts x.n hw hok.2.1 hok.2.2).2.1
      have hS14 : S2.length + Q2 ≤ R.length + q := by rw [hS2, hQ2]; exact Nat.le_of_eq (sentf_count R q)
      have hR2 : ∀ k ∈ R, k ≤ 2 := by rw [hRR]; exact (stp_facts x.n hw hok.2.1 hok.2.2).2.2.1
      have H2 := Lib.hid (show Is01 S2 from Is01.of_mem fun y hy => by have := sentf_le R hR2 q y (by rw [← hS2]; exact hy); omega)
      have HSN := Lib.hid hes
      have HSS := Lib.hid (show (sentf (erun (cs.take (k + 1)) 0 65535).2.2 0) = (S ++ S2, Q2) by rw [hes]; dsimp only; rw [sentf_append, ← HS.out, ← HQ.out, hS2, hQ2])
      have HXX := Lib.hid (show cs[k]? = some x by rw [hx]; exact List.getElem?_eq_getElem hlt)
      have hbe := hok.n_eq
      have hS2l : S2.length ≤ 131072 := by omega
      have HST := Lib.hid (fun (W : World) => put_own (lo := l) (hi := u) (p := x.p) (b := x.n) (q := q) ⟨hw, by omega, by omega⟩ hok.2.1 hok.2.2 hok.n_le LO HI S2 Q2 hLO hHI (by rw [← hRR]; exact hS2) (by rw [← hRR]; exact hQ2) (by omega) W)
      rw [← hbe] at HST
      obtain ⟨xb, xp⟩ := x
      dsimp only at q1 q2 HST
      have i1 : (0 : Int) ≤ (k : Int) := by omega
      have i2 : (k : Int) < (cs.length : Int) := by omega
      have c0 := E4.cod.c0
      have c1 := E4.cod.c1
      have c2 := E4.cod.c2
      have E0 := E4.drew
      have Q0 := And.intro (RdC.held HW.out E0.bel0 rfl HXX.out).1 (And.intro (RdC.held HW.out E0.bel0 rfl HXX.out).2 (PW.cells E0))
      clear hes hw hLO hHI hRR hok hx hbe hS2 hQ2 E4 hR2 hR
      go_wp2_with fail
      clear q1 q2 c0 c1 c2
      refine wp_region_noPanic ?_
      refine wp_region_held_drew (S := fun w' => w'.cell? ⟨g, off + k * 2, none⟩ = some (.int .i64 xb) ∧ w'.cell? ⟨g, off + k * 2 + 1, none⟩ = some (.int .i64 xp) ∧ w'.cell? ⟨C, 0, none⟩ = some (.int .i64 l) ∧ w'.cell? ⟨C, 1, none⟩ = some (.int .i64 u) ∧ w'.cell? ⟨C, 2, none⟩ = some (.int .i64 (q : Nat))) (by kernel_rfl) (by first | exact Q0 | (dsimp only; go_keep)) (fun hSx => ?_)
      clear hSx
      generalize wr.drew = v0 at E0 Q0 ⊢
      apply shareH
      · intro key
        refine wpAnyH_take (i := 0) (v := ?_) rfl (by kernel_rfl) (by kernel_rfl) (by kernel_rfl) (fun _ _ _ h => h) (Or.inl ⟨by rfl, ?_⟩) Q0 ?_
        rotate_left 1
        focus (intro wS hSw; (try dsimp only at hSw); go_simp; try with_reducible rfl)
        (try simp only [Act.put, List.setIfInBounds_toArray, List.set_cons_zero, List.set_cons_succ])
        refine wpAnyH_take (i := 1) (v := ?_) rfl (by kernel_rfl) (by kernel_rfl) (by kernel_rfl) (fun _ _ _ h => h) (Or.inl ⟨by rfl, ?_⟩) Q0 ?_
        rotate_left 1
        focus (intro wS hSw; (try dsimp only at hSw); go_simp; try with_reducible rfl)
        (try simp only [Act.put, List.setIfInBounds_toArray, List.set_cons_zero, List.set_cons_succ])
        refine wpAnyH_take (i := 2) (v := ?_) rfl (by kernel_rfl) (by kernel_rfl) (by kernel_rfl) (fun _ _ _ h => h) (Or.inl ⟨by rfl, ?_⟩) Q0 ?_
        rotate_left 1
        focus (intro wS hSw; (try dsimp only at hSw); go_simp; try with_reducible rfl)
        (try simp only [Act.put, List.setIfInBounds_toArray, List.set_cons_zero, List.set_cons_succ])
        refine wpAnyH_take (i := 3) (v := ?_) rfl (by kernel_rfl) (by kernel_rfl) (by kernel_rfl) (fun _ _ _ h => h) (Or.inl ⟨by rfl, ?_⟩) Q0 ?_
        rotate_left 1
        focus (intro wS hSw; (try dsimp only at hSw); go_simp; try with_reducible rfl)
        (try simp only [Act.put, List.setIfInBounds_toArray, List.set_cons_zero, List.set_cons_succ])
        refine wpAnyH_take (i := 4) (v := ?_) rfl (by kernel_rfl) (by kernel_rfl) (by kernel_rfl) (fun _ _ _ h => h) (Or.inl ⟨by rfl, ?_⟩) Q0 ?_
        rotate_left 1
        focus (intro wS hSw; (try dsimp only at hSw); go_simp; try with_reducible rfl)
        (try simp only [Act.put, List.setIfInBounds_toArray, List.set_cons_zero, List.set_cons_succ])
        refine wpAnyH_take (i := 5) (v := ?_) rfl (by kernel_rfl) (by kernel_rfl) (by kernel_rfl) (fun _ _ _ h => h) (Or.inl ⟨by rfl, ?_⟩) Q0 ?_
        rotate_left 1
        focus (intro wS hSw; (try dsimp only at hSw); go_simp; try with_reducible rfl)
        (try simp only [Act.put, List.setIfInBounds_toArray, List.set_cons_zero, List.set_cons_succ])
        refine wpAnyH_take (i := 6) (v := ?_) rfl (by kernel_rfl) (by kernel_rfl) (by kernel_rfl) (fun _ _ _ h => h) (Or.inl ⟨by rfl, ?_⟩) Q0 ?_
        rotate_left 1
        focus (intro wS hSw; (try dsimp only at hSw); go_simp; try with_reducible rfl)
        (try simp only [Act.put, List.setIfInBounds_toArray, List.set_cons_zero, List.set_cons_succ])
        refine wpAnyH_take (i := 7) (v := ?_) rfl (by kernel_rfl) (by kernel_rfl) (by kernel_rfl) (fun _ _ _ h => h) (Or.inl ⟨by rfl, ?_⟩) Q0 ?_
        rotate_left 1
        focus (intro wS hSw; (try dsimp only at hSw); go_simp; try with_reducible rfl)
        (try simp only [Act.put, List.setIfInBounds_toArray, List.set_cons_zero, List.set_cons_succ])
        refine wpAnyH_take (i := 8) (v := ?_) rfl (by kernel_rfl) (by kernel_rfl) (by kernel_rfl) (fun _ _ _ h => h) (Or.inl ⟨by rfl, ?_⟩) Q0 ?_
        rotate_left 1
        focus (intro wS hSw; (try dsimp only at hSw); go_simp; try with_reducible rfl)
        (try simp only [Act.put, List.setIfInBounds_toArray, List.set_cons_zero, List.set_cons_succ])
        refine wpAnyH_take (i := 9) (v := ?_) rfl (by kernel_rfl) (by kernel_rfl) (by kernel_rfl) (fun _ _ _ h => h) (Or.inl ⟨by rfl, ?_⟩) Q0 ?_
        rotate_left 1
        focus (intro wS hSw; (try dsimp only at hSw); go_simp; try with_reducible rfl)
        (try simp only [Act.put, List.setIfInBounds_toArray, List.set_cons_zero, List.set_cons_succ])
        refine wpAnyH_take (i := 10) (v := ?_) rfl (by kernel_rfl) (by kernel_rfl) (by kernel_rfl) (fun _ _ _ h => h) (Or.inl ⟨by rfl, ?_⟩) Q0 ?_
        rotate_left 1
        focus (intro wS hSw; (try dsimp only at hSw); go_simp; try with_reducible rfl)
        (try simp only [Act.put, List.setIfInBounds_toArray, List.set_cons_zero, List.set_cons_succ])
        refine wpAnyH_ready (rs := [11, 16, 17, 18]) (by kernel_rfl) (by simp) ?_
        refine (AllReadyH.cons rfl (fun K hK => ?_) (AllReadyH.cons rfl (fun K hK => ?_) (AllReadyH.cons rfl (fun K hK => ?_) (AllReadyH.cons rfl (fun K hK => ?_) AllReadyH.nil))))
        · go_simp
          refine (HST.out _).mono ?_
          rintro e vc ⟨A2, n2, c2, rfl, o2, y2⟩
          have hsz : C + 1 ≤ v0.heap.size := E0.lt
          have Ec := PW.on E0 y2
          have Rc := own_base hsz o2
          have Qc : vc.cell? ⟨g, off + k * 2, none⟩ = some (.int .i64 xb) ∧ vc.cell? ⟨g, off + k * 2 + 1, none⟩ = some (.int .i64 xp) ∧ vc.cell? ⟨C, 0, none⟩ = some (.int .i64 l) ∧ vc.cell? ⟨C, 1, none⟩ = some (.int .i64 u) ∧ vc.cell? ⟨C, 2, none⟩ = some (.int .i64 (q : Nat)) := And.intro (RdC.held HW.out Ec.bel0 rfl HXX.out).1 (And.intro (RdC.held HW.out Ec.bel0 rfl HXX.out).2 (PW.cells Ec))
          clear o2 y2 hsz
          (try go_wp2_with fail)
          refine hK.out _ _ ?_ (fun hSx => ?_)
          · first | exact Qc | ((try dsimp only); go_keep)
          clear hK K hSx
          (try simp only [Act.put, List.setIfInBounds_toArray, List.set_cons_zero, List.set_cons_succ])
          refine wpAnyH_take (i := 12) (v := ?_) rfl (by kernel_rfl) (by kernel_rfl) (by kernel_rfl) (fun _ _ _ h => h) (Or.inl ⟨by rfl, ?_⟩) Qc ?_
          rotate_left 1
          focus (intro wS hSw; (try dsimp only at hSw); go_simp; try with_reducible rfl)
          (try simp only [Act.put, List.setIfInBounds_toArray, List.set_cons_zero, List.set_cons_succ])
          refine wpAnyH_take (i := 13) (v := ?_) rfl (by kernel_rfl) (by kernel_rfl) (by kernel_rfl) (fun _ _ _ h => h) (Or.inl ⟨by rfl, ?_⟩) Qc ?_
          rotate_left 1
          focus (intro wS hSw; (try dsimp only at hSw); go_simp; try with_reducible rfl)
          (try simp only [Act.put, List.setIfInBounds_toArray, List.set_cons_zero, List.set_cons_succ])
          refine wpAnyH_take (i := 14) (v := ?_) rfl (by kernel_rfl) (by kernel_rfl) (by kernel_rfl) (fun _ _ _ h => h) (Or.inl ⟨by rfl, ?_⟩) Qc ?_
          rotate_left 1
          focus (intro wS hSw; (try dsimp only at hSw); go_simp; try with_reducible rfl)
          (try simp only [Act.put, List.setIfInBounds_toArray, List.set_cons_zero, List.set_cons_succ])
          refine wpAnyH_take (i := 15) (v := ?_) rfl (by kernel_rfl) (by kernel_rfl) (by kernel_rfl) (fun _ _ _ h => h) (Or.inl ⟨by rfl, ?_⟩) Qc ?_
          rotate_left 1
          focus (intro wS hSw; (try dsimp only at hSw); go_simp; try with_reducible rfl)
          (try simp only [Act.put, List.setIfInBounds_toArray, List.set_cons_zero, List.set_cons_succ])
          refine wpAnyH_ready (rs := [16, 17, 18]) (by kernel_rfl) (by simp) ?_
          refine (AllReadyH.cons rfl (fun K hK => ?_) (AllReadyH.cons rfl (fun K hK => ?_) (AllReadyH.cons rfl (fun K hK => ?_) AllReadyH.nil)))
          · go_simp
            have hX : C < vc.heap.size := Ec.lt
            have Ecx := PW.alloc Ec (.cells #[.int .i64 0, .int .i64 0, .int .i64 0] 50)
            have Rcx := own_on Rc ((Below.refl _ _).alloc (Nat.le_refl _) (.cells #[.int .i64 0, .int .i64 0, .int .i64 0] 50))
            have TXcx := Three.new vc 50 (.int .i64 0) (.int .i64 0) (.int .i64 0)
            generalize vc.alloc (.cells #[.int .i64 0, .int .i64 0, .int .i64 0] 50) = vcx at Ecx Rcx TXcx ⊢
            obtain ⟨NX, hNX⟩ : ∃ N, N = vc.heap.size := ⟨_, rfl⟩
            rw [← hNX] at hX TXcx ⊢
            clear hNX
            have Qcx : vcx.cell? ⟨g, off + k * 2, none⟩ = some (.int .i64 xb) ∧ vcx.cell? ⟨g, off + k * 2 + 1, none⟩ = some (.int .i64 xp) ∧ vcx.cell? ⟨C, 0, none⟩ = some (.int .i64 l) ∧ vcx.cell? ⟨C, 1, none⟩ = some (.int .i64 u) ∧ vcx.cell? ⟨C, 2, none⟩ = some (.int .i64 (q : Nat)) := And.intro (RdC.held HW.out Ecx.bel0 rfl HXX.out).1 (And.intro (RdC.held HW.out Ecx.bel0 rfl HXX.out).2 (PW.cells Ecx))
            refine hK.out _ _ ?_ (fun hSx => ?_)
            · first | exact Qcx | ((try dsimp only); go_keep)
            clear hK K hSx Ec Qc Rc
            (try simp only [Act.put, List.setIfInBounds_toArray, List.set_cons_zero, List.set_cons_succ])
            refine wpAnyH_ready (rs := [17, 18]) (by kernel_rfl) (by simp) ?_
            refine (AllReadyH.cons rfl (fun K hK => ?_) (AllReadyH.cons rfl (fun K hK => ?_) AllReadyH.nil))
            · go_simp
              have hY : C < vcx.heap.size := Ecx.lt
              have g9 := Ecx.rowne
              have Ecxy := PW.alloc Ecx (.cells #[.slice none 0 0, .int .i64 0] 25)
              have Rcxy := own_on Rcx ((Below.refl _ _).alloc (Nat.le_refl _) (.cells #[.slice none 0 0, .int .i64 0] 25))
              have TXcxy := TXcx.alloc (.cells #[.slice none 0 0, .int .i64 0] 25)
              have TYcxy := Two.new vcx 25 (.slice none 0 0) (.int .i64 0)
              generalize vcx.alloc (.cells #[.slice none 0 0, .int .i64 0] 25) = vcxy at Ecxy Rcxy TXcxy TYcxy ⊢
              obtain ⟨NY, hNY⟩ : ∃ N, N = vcx.heap.size := ⟨_, rfl⟩
              rw [← hNY] at hY TYcxy g9 ⊢
              clear hNY
              have Qcxy : vcxy.cell? ⟨g, off + k * 2, none⟩ = some (.int .i64 xb) ∧ vcxy.cell? ⟨g, off + k * 2 + 1, none⟩ = some (.int .i64 xp) ∧ vcxy.cell? ⟨C, 0, none⟩ = some (.int .i64 l) ∧ vcxy.cell? ⟨C, 1, none⟩ = some (.int .i64 u) ∧ vcxy.cell? ⟨C, 2, none⟩ = some (.int .i64 (q : Nat)) := And.intro (RdC.held HW.out Ecxy.bel0 rfl HXX.out).1 (And.intro (RdC.held HW.out Ecxy.bel0 rfl HXX.out).2 (PW.cells Ecxy))
              refine hK.out _ _ ?_ (fun hSx => ?_)
              · first | exact Qcxy | ((try dsimp only); go_keep)
              clear hK K hSx Ecx Qcx Rcx TXcx
              (try simp only [Act.put, List.setIfInBounds_toArray, List.set_cons_zero, List.set_cons_succ])
              refine wpAnyH_ready (rs := [18]) (by kernel_rfl) (by simp) ?_
              refine (AllReadyH.cons rfl (fun K hK => ?_) AllReadyH.nil)
              go_simp
              have hZ : C < vcxy.heap.size := Ecxy.lt
              have Ecxyz := PW.alloc Ecxy (.cells #[.int .i64 0, .int .i64 0] 27)
              have Rcxyz := own_on Rcxy ((Below.refl _ _).alloc (Nat.le_refl _) (.cells #[.int .i64 0, .int .i64 0] 27))
              have TXcxyz := TXcxy.alloc (.cells #[.int .i64 0, .int .i64 0] 27)
              have TYcxyz := TYcxy.alloc (.cells #[.int .i64 0, .int .i64 0] 27)
              have TZcxyz := Two.new vcxy 27 (.int .i64 0) (.int .i64 0)
              generalize vcxy.alloc (.cells #[.int .i64 0, .int .i64 0] 27) = vcxyz at Ecxyz Rcxyz TXcxyz TYcxyz TZcxyz ⊢
              obtain ⟨NZ, hNZ⟩ : ∃ N, N = vcxy.heap.size := ⟨_, rfl⟩
              rw [← hNZ] at hZ TZcxyz ⊢
              clear hNZ
              have Qcxyz : vcxyz.cell? ⟨g, off + k * 2, none⟩ = some (.int .i64 xb) ∧ vcxyz.cell? ⟨g, off + k * 2 + 1, none⟩ = some (.int .i64 xp) ∧ vcxyz.cell? ⟨C, 0, none⟩ = some (.int .i64 l) ∧ vcxyz.cell? ⟨C, 1, none⟩ = some (.int .i64 u) ∧ vcxyz.cell? ⟨C, 2, none⟩ = some (.int .i64 (q : Nat)) := And.intro (RdC.held HW.out Ecxyz.bel0 rfl HXX.out).1 (And.intro (RdC.held HW.out Ecxyz.bel0 rfl HXX.out).2 (PW.cells Ecxyz))
              refine hK.out _ _ ?_ (fun hSx => ?_)
              · first | exact Qcxyz | ((try dsimp only); go_keep)
              clear hK K hSx Ecxy Qcxy Rcxy TXcxy TYcxy
              (try simp only [Act.put, List.setIfInBounds_toArray, List.set_cons_zero, List.set_cons_succ])
              refine anyH_listed (l2 := #[true, true, true, true, true, true, true, true, true, true, true, true, true, true, true, true, true, true, true, false, false, false]) (by kernel_rfl) ?_
              revert g9
              revert hZ
              revert hY
              revert hX
              revert TZcxyz
              revert TYcxyz
              revert TXcxyz
              revert Rcxyz
              revert Qcxyz
              revert Ecxyz
              revert NZ
              revert NY
              revert NX
              revert c2
              revert n2
              revert A2
              revert vcxyz
              exact key
            · go_simp
              have hZ : C < vcx.heap.size := Ecx.lt
              have Ecxz := PW.alloc Ecx (.cells #[.int .i64 0, .int .i64 0] 27)
              have Rcxz := own_on Rcx ((Below.refl _ _).alloc (Nat.le_refl _) (.cells #[.int .i64 0, .int .i64 0] 27))
              have TXcxz := TXcx.alloc (.cells #[.int .i64 0, .int .i64 0] 27)
              have TZcxz := Two.new vcx 27 (.int .i64 0) (.int .i64 0)
              generalize vcx.alloc (.cells #[.int .i64 0, .int .i64 0] 27) = vcxz at Ecxz Rcxz TXcxz TZcxz ⊢
              obtain ⟨NZ, hNZ⟩ : ∃ N, N = vcx.heap.size := ⟨_, rfl⟩
              rw [← hNZ] at hZ TZcxz ⊢
              clear hNZ
              have Qcxz : vcxz.cell? ⟨g, off + k * 2, none⟩ = some (.int .i64 xb) ∧ vcxz.cell? ⟨g, off + k * 2 + 1, none⟩ = some (.int .i64 xp) ∧ vcxz.cell? ⟨C, 0, none⟩ = some (.int .i64 l) ∧ vcxz.cell? ⟨C, 1, none⟩ = some (.int .i64 u) ∧ vcxz.cell? ⟨C, 2, none⟩ = some (.int .i64 (q : Nat)) := And.intro (RdC.held HW.out Ecxz.bel0 rfl HXX.out).1 (And.intro (RdC.held HW.out Ecxz.bel0 rfl HXX.out).2 (PW.cells Ecxz))
              refine hK.out _ _ ?_ (fun hSx => ?_)
              · first | exact Qcxz | ((try dsimp only); go_keep)
              clear hK K hSx Ecx Qcx Rcx TXcx
              (try simp only [Act.put, List.setIfInBounds_toArray, List.set_cons_zero, List.set_cons_succ])
              refine wpAnyH_ready (rs := [17]) (by kernel_rfl) (by simp) ?_
              refine (AllReadyH.cons rfl (fun K hK => ?_) AllReadyH.nil)
              go_simp
              have hY : C < vcxz.heap.size := Ecxz.lt
              have g9 := Ecxz.rowne
              have Ecxzy := PW.alloc Ecxz (.cells #[.slice none 0 0, .int .i64 0] 25)
              have Rcxzy := own_on Rcxz ((Below.refl _ _).alloc (Nat.le_refl _) (.cells #[.slice none 0 0, .int .i64 0] 25))
              have TXcxzy := TXcxz.alloc (.cells #[.slice none 0 0, .int .i64 0] 25)
              have TZcxzy := TZcxz.alloc (.cells #[.slice none 0 0, .int .i64 0] 25)
              have TYcxzy := Two.new vcxz 25 (.slice none 0 0) (.int .i64 0)
              generalize vcxz.alloc (.cells #[.slice none 0 0, .int .i64 0] 25) = vcxzy at Ecxzy Rcxzy TXcxzy TYcxzy TZcxzy ⊢
              obtain ⟨NY, hNY⟩ : ∃ N, N = vcxz.heap.size := ⟨_, rfl⟩
              rw [← hNY] at hY TYcxzy g9 ⊢
              clear hNY
              have Qcxzy : vcxzy.cell? ⟨g, off + k * 2, none⟩ = some (.int .i64 xb) ∧ vcxzy.cell? ⟨g, off + k * 2 + 1, none⟩ = some (.int .i64 xp) ∧ vcxzy.cell? ⟨C, 0, none⟩ = some (.int .i64 l) ∧ vcxzy.cell? ⟨C, 1, none⟩ = some (.int .i64 u) ∧ vcxzy.cell? ⟨C, 2, none⟩ = some (.int .i64 (q : Nat)) := And.intro (RdC.held HW.out Ecxzy.bel0 rfl HXX.out).1 (And.intro (RdC.held HW.out Ecxzy.bel0 rfl HXX.out).2 (PW.cells Ecxzy))
              refine hK.out _ _ ?_ (fun hSx => ?_)
              · first | exact Qcxzy | ((try dsimp only); go_keep)
              clear hK K hSx Ecxz Qcxz Rcxz TXcxz TZcxz
              (try simp only [Act.put, List.setIfInBounds_toArray, List.set_cons_zero, List.set_cons_succ])
              refine anyH_listed (l2 := #[true, true, true, true, true, true, true, true, true, true, true, true, true, true, true, true, true, true, true, false, false, false]) (by kernel_rfl) ?_
              revert g9
              revert hZ
              revert hY
              revert hX
              revert TZcxzy
              revert TYcxzy
              revert TXcxzy
              revert Rcxzy
              revert Qcxzy
              revert Ecxzy
              revert NZ
              revert NY
              revert NX
              revert c2
              revert n2
              revert A2
              revert vcxzy
              exact key
          · go_simp
            have hY : C < vc.heap.size := Ec.lt
            have g9 := Ec.rowne
            have Ecy := PW.alloc Ec (.cells #[.slice none 0 0, .int .i64 0] 25)
            have Rcy := own_on Rc ((Below.refl _ _).alloc (Nat.le_refl _) (.cells #[.slice none 0 0, .int .i64 0] 25))
            have TYcy := Two.new vc 25 (.slice none 0 0) (.int .i64 0)
            generalize vc.alloc (.cells #[.slice none 0 0, .int .i64 0] 25) = vcy at Ecy Rcy TYcy ⊢
            obtain ⟨NY, hNY⟩ : ∃ N, N = vc.heap.size := ⟨_, rfl⟩
            rw [← hNY] at hY TYcy g9 ⊢
            clear hNY
            have Qcy : vcy.cell? ⟨g, off + k * 2, none⟩ = some (.int .i64 xb) ∧ vcy.cell? ⟨g, off + k * 2 + 1, none⟩ = some (.int .i64 xp) ∧ vcy.cell? ⟨C, 0, none⟩ = some (.int .i64 l) ∧ vcy.cell? ⟨C, 1, none⟩ = some (.int .i64 u) ∧ vcy.cell? ⟨C, 2, none⟩ = some (.int .i64 (q : Nat)) := And.intro (RdC.held HW.out Ecy.bel0 rfl HXX.out).1 (And.intro (RdC.held HW.out Ecy.bel0 rfl HXX.out).2 (PW.cells Ecy))
            refine hK.out _ _ ?_ (fun hSx => ?_)
            · first | exact Qcy | ((try dsimp only); go_keep)
            clear hK K hSx Ec Qc Rc
            (try simp only [Act.put, List.setIfInBounds_toArray, List.set_cons_zero, List.set_cons_succ])
            refine wpAnyH_ready (rs := [16, 18]) (by kernel_rfl) (by simp) ?_
            refine (AllReadyH.cons rfl (fun K hK => ?_) (AllReadyH.cons rfl (fun K hK => ?_) AllReadyH.nil))
            · go_simp
              have hX : C < vcy.heap.size := Ecy.lt
              have Ecyx := PW.alloc Ecy (.cells #[.int .i64 0, .int .i64 0, .int .i64 0] 50)
              have Rcyx := own_on Rcy ((Below.refl _ _).alloc (Nat.le_refl _) (.cells #[.int .i64 0, .int .i64 0, .int .i64 0] 50))
              have TYcyx := TYcy.alloc (.cells #[.int .i64 0, .int .i64 0, .int .i64 0] 50)
              have TXcyx := Three.new vcy 50 (.int .i64 0) (.int .i64 0) (.int .i64 0)
              generalize vcy.alloc (.cells #[.int .i64 0, .int .i64 0, .int .i64 0] 50) = vcyx at Ecyx Rcyx TXcyx TYcyx ⊢
              obtain ⟨NX, hNX⟩ : ∃ N, N = vcy.heap.size := ⟨_, rfl⟩
              rw [← hNX] at hX TXcyx ⊢
              clear hNX
              have Qcyx : vcyx.cell? ⟨g, off + k * 2, none⟩ = some (.int .i64 xb) ∧ vcyx.cell? ⟨g, off + k * 2 + 1, none⟩ = some (.int .i64 xp) ∧ vcyx.cell? ⟨C, 0, none⟩ = some (.int .i64 l) ∧ vcyx.cell? ⟨C, 1, none⟩ = some (.int .i64 u) ∧ vcyx.cell? ⟨C, 2, none⟩ = some (.int .i64 (q : Nat)) := And.intro (RdC.held HW.out Ecyx.bel0 rfl HXX.out).1 (And.intro (RdC.held HW.out Ecyx.bel0 rfl HXX.out).2 (PW.cells Ecyx))
              refine hK.out _ _ ?_ (fun hSx => ?_)
              · first | exact Qcyx | ((try dsimp only); go_keep)
              clear hK K hSx Ecy Qcy Rcy TYcy
              (try simp only [Act.put, List.setIfInBounds_toArray, List.set_cons_zero, List.set_cons_succ])
              refine wpAnyH_ready (rs := [18]) (by kernel_rfl) (by simp) ?_
              refine (AllReadyH.cons rfl (fun K hK => ?_) AllReadyH.nil)
              go_simp
              have hZ : C < vcyx.heap.size := Ecyx.lt
              have Ecyxz := PW.alloc Ecyx (.cells #[.int .i64 0, .int .i64 0] 27)
              have Rcyxz := own_on Rcyx ((Below.refl _ _).alloc (Nat.le_refl _) (.cells #[.int .i64 0, .int .i64 0] 27))
              have TXcyxz := TXcyx.alloc (.cells #[.int .i64 0, .int .i64 0] 27)
              have TYcyxz := TYcyx.alloc (.cells #[.int .i64 0, .int .i64 0] 27)
              have TZcyxz := Two.new vcyx 27 (.int .i64 0) (.int .i64 0)
              generalize vcyx.alloc (.cells #[.int .i64 0, .int .i64 0] 27) = vcyxz at Ecyxz Rcyxz TXcyxz TYcyxz TZcyxz ⊢
              obtain ⟨NZ, hNZ⟩ : ∃ N, N = vcyx.heap.size := ⟨_, rfl⟩
              rw [← hNZ] at hZ TZcyxz ⊢
              clear hNZ
              have Qcyxz : vcyxz.cell? ⟨g, off + k * 2, none⟩ = some (.int .i64 xb) ∧ vcyxz.cell? ⟨g, off + k * 2 + 1, none⟩ = some (.int .i64 xp) ∧ vcyxz.cell? ⟨C, 0, none⟩ = some (.int .i64 l) ∧ vcyxz.cell? ⟨C, 1, none⟩ = some (.int .i64 u) ∧ vcyxz.cell? ⟨C, 2, none⟩ = some (.int .i64 (q : Nat)) := And.intro (RdC.held HW.out Ecyxz.bel0 rfl HXX.out).1 (And.intro (RdC.held HW.out Ecyxz.bel0 rfl HXX.out).2 (PW.cells Ecyxz))
              refine hK.out _ _ ?_ (fun hSx => ?_)
              · first | exact Qcyxz | ((try dsimp only); go_keep)
              clear hK K hSx Ecyx Qcyx Rcyx TXcyx TYcyx
              (try simp only [Act.put, List.setIfInBounds_toArray, List.set_cons_zero, List.set_cons_succ])
              refine anyH_listed (l2 := #[true, true, true, true, true, true, true, true, true, true, true, true, true, true, true, true, true, true, true, false, false, false]) (by kernel_rfl) ?_
              revert g9
              revert hZ
              revert hY
              revert hX
              revert TZcyxz
              revert TYcyxz
              revert TXcyxz
              revert Rcyxz
              revert Qcyxz
              revert Ecyxz
              revert NZ
              revert NY
              revert NX
              revert c2
              revert n2
              revert A2
              revert vcyxz
              exact key
            · go_simp
              have hZ : C < vcy.heap.size := Ecy.lt
              have Ecyz := PW.alloc Ecy (.cells #[.int .i64 0, .int .i64 0] 27)
              have Rcyz := own_on Rcy ((Below.refl _ _).alloc (Nat.le_refl _) (.cells #[.int .i64 0, .int .i64 0] 27))
              have TYcyz := TYcy.alloc (.cells #[.int .i64 0, .int .i64 0] 27)
              have TZcyz := Two.new vcy 27 (.int .i64 0) (.int .i64 0)
              generalize vcy.alloc (.cells #[.int .i64 0, .int .i64 0] 27) = vcyz at Ecyz Rcyz TYcyz TZcyz ⊢
              obtain ⟨NZ, hNZ⟩ : ∃ N, N = vcy.heap.size := ⟨_, rfl⟩
              rw [← hNZ] at hZ TZcyz ⊢
              clear hNZ
              have Qcyz : vcyz.cell? ⟨g, off + k * 2, none⟩ = some (.int .i64 xb) ∧ vcyz.cell? ⟨g, off + k * 2 + 1, none⟩ = some (.int .i64 xp) ∧ vcyz.cell? ⟨C, 0, none⟩ = some (.int .i64 l) ∧ vcyz.cell? ⟨C, 1, none⟩ = some (.int .i64 u) ∧ vcyz.cell? ⟨C, 2, none⟩ = some (.int .i64 (q : Nat)) := And.intro (RdC.held HW.out Ecyz.bel0 rfl HXX.out).1 (And.intro (RdC.held HW.out Ecyz.bel0 rfl HXX.out).2 (PW.cells Ecyz))
              refine hK.out _ _ ?_ (fun hSx => ?_)
              · first | exact Qcyz | ((try dsimp only); go_keep)
              clear hK K hSx Ecy Qcy Rcy TYcy
              (try simp only [Act.put, List.setIfInBounds_toArray, List.set_cons_zero, List.set_cons_succ])
              refine wpAnyH_ready (rs := [16]) (by kernel_rfl) (by simp) ?_
              refine (AllReadyH.cons rfl (fun K hK => ?_) AllReadyH.nil)
              go_simp
              have hX : C < vcyz.heap.size := Ecyz.lt
              have Ecyzx := PW.alloc Ecyz (.cells #[.int .i64 0, .int .i64 0, .int .i64 0] 50)
              have Rcyzx := own_on Rcyz ((Below.refl _ _).alloc (Nat.le_refl _) (.cells #[.int .i64 0, .int .i64 0, .int .i64 0] 50))
              have TYcyzx := TYcyz.alloc (.cells #[.int .i64 0, .int .i64 0, .int .i64 0] 50)
              have TZcyzx := TZcyz.alloc (.cells #[.int .i64 0, .int .i64 0, .int .i64 0] 50)
              have TXcyzx := Three.new vcyz 50 (.int .i64 0) (.int .i64 0) (.int .i64 0)
              generalize vcyz.alloc (.cells #[.int .i64 0, .int .i64 0, .int .i64 0] 50) = vcyzx at Ecyzx Rcyzx TXcyzx TYcyzx TZcyzx ⊢
              obtain ⟨NX, hNX⟩ : ∃ N, N = vcyz.heap.size := ⟨_, rfl⟩
              rw [← hNX] at hX TXcyzx ⊢
              clear hNX
              have Qcyzx : vcyzx.cell? ⟨g, off + k * 2, none⟩ = some (.int .i64 xb) ∧ vcyzx.cell? ⟨g, off + k * 2 + 1, none⟩ = some (.int .i64 xp) ∧ vcyzx.cell? ⟨C, 0, none⟩ = some (.int .i64 l) ∧ vcyzx.cell? ⟨C, 1, none⟩ = some (.int .i64 u) ∧ vcyzx.cell? ⟨C, 2, none⟩ = some (.int .i64 (q : Nat)) := And.intro (RdC.held HW.out Ecyzx.bel0 rfl HXX.out).1 (And.intro (RdC.held HW.out Ecyzx.bel0 rfl HXX.out).2 (PW.cells Ecyzx))
              refine hK.out _ _ ?_ (fun hSx => ?_)
              · first | exact Qcyzx | ((try dsimp only); go_keep)
              clear hK K hSx Ecyz Qcyz Rcyz TYcyz TZcyz
              (try simp only [Act.put, List.setIfInBounds_toArray, List.set_cons_zero, List.set_cons_succ])
              refine anyH_listed (l2 := #[true, true, true, true, true, true, true, true, true, true, true, true, true, true, true, true, true, true, true, false, false, false]) (by kernel_rfl) ?_
              revert g9
              revert hZ
              revert hY
              revert hX
              revert TZcyzx
              revert TYcyzx
              revert TXcyzx
              revert Rcyzx
              revert Qcyzx
              revert Ecyzx
              revert NZ
              revert NY
              revert NX
              revert c2
              revert n2
              revert A2
              revert vcyzx
              exact key
          · go_simp
            have hZ : C < vc.heap.size := Ec.lt
            have Ecz := PW.alloc Ec (.cells #[.int .i64 0, .int .i64 0] 27)
            have Rcz := own_on Rc ((Below.refl _ _).alloc (Nat.le_refl _) (.cells #[.int .i64 0, .int .i64 0] 27))
            have TZcz := Two.new vc 27 (.int .i64 0) (.int .i64 0)
            generalize vc.alloc (.cells #[.int .i64 0, .int .i64 0] 27) = vcz at Ecz Rcz TZcz ⊢
            obtain ⟨NZ, hNZ⟩ : ∃ N, N = vc.heap.size := ⟨_, rfl⟩
            rw [← hNZ] at hZ TZcz ⊢
            clear hNZ
            have Qcz : vcz.cell? ⟨g, off + k * 2, none⟩ = some (.int .i64 xb) ∧ vcz.cell? ⟨g, off + k * 2 + 1, none⟩ = some (.int .i64 xp) ∧ vcz.cell? ⟨C, 0, none⟩ = some (.int .i64 l) ∧ vcz.cell? ⟨C, 1, none⟩ = some (.int .i64 u) ∧ vcz.cell? ⟨C, 2, none⟩ = some (.int .i64 (q : Nat)) := And.intro (RdC.held HW.out Ecz.bel0 rfl HXX.out).1 (And.intro (RdC.held HW.out Ecz.bel0 rfl HXX.out).2 (PW.cells Ecz))
            refine hK.out _ _ ?_ (fun hSx => ?_)
            · first | exact Qcz | ((try dsimp only); go_keep)
            clear hK K hSx Ec Qc Rc
            (try simp only [Act.put, List.setIfInBounds_toArray, List.set_cons_zero, List.set_cons_succ])
            refine wpAnyH_ready (rs := [16, 17]) (by kernel_rfl) (by simp) ?_
            refine (AllReadyH.cons rfl (fun K hK => ?_) (AllReadyH.cons rfl (fun K hK => ?_) AllReadyH.nil))
            · go_simp
              have hX : C < vcz.heap.size := Ecz.lt
              have Eczx := PW.alloc Ecz (.cells #[.int .i64 0, .int .i64 0, .int .i64 0] 50)
              have Rczx := own_on Rcz ((Below.refl _ _).alloc (Nat.le_refl _) (.cells #[.int .i64 0, .int .i64 0, .int .i64 0] 50))
              have TZczx := TZcz.alloc (.cells #[.int .i64 0, .int .i64 0, .int .i64 0] 50)
              have TXczx := Three.new vcz 50 (.int .i64 0) (.int .i64 0) (.int .i64 0)
              generalize vcz.alloc (.cells #[.int .i64 0, .int .i64 0, .int .i64 0] 50) = vczx at Eczx Rczx TXczx TZczx ⊢
              obtain ⟨NX, hNX⟩ : ∃ N, N = vcz.heap.size := ⟨_, rfl⟩
              rw [← hNX] at hX TXczx ⊢
              clear hNX
              have Qczx : vczx.cell? ⟨g, off + k * 2, none⟩ = some (.int .i64 xb) ∧ vczx.cell? ⟨g, off + k * 2 + 1, none⟩ = some (.int .i64 xp) ∧ vczx.cell? ⟨C, 0, none⟩ = some (.int .i64 l) ∧ vczx.cell? ⟨C, 1, none⟩ = some (.int .i64 u) ∧ vczx.cell? ⟨C, 2, none⟩ = some (.int .i64 (q : Nat)) := And.intro (RdC.held HW.out Eczx.bel0 rfl HXX.out).1 (And.intro (RdC.held HW.out Eczx.bel0 rfl HXX.out).2 (PW.cells Eczx))
              refine hK.out _ _ ?_ (fun hSx => ?_)
              · first | exact Qczx | ((try dsimp only); go_keep)
              clear hK K hSx Ecz Qcz Rcz TZcz
              (try simp only [Act.put, List.setIfInBounds_toArray, List.set_cons_zero, List.set_cons_succ])
              refine wpAnyH_ready (rs := [17]) (by kernel_rfl) (by simp) ?_
              refine (AllReadyH.cons rfl (fun K hK => ?_) AllReadyH.nil)
              go_simp
              have hY : C < vczx.heap.size := Eczx.lt
              have g9 := Eczx.rowne
              have Eczxy := PW.alloc Eczx (.cells #[.slice none 0 0, .int .i64 0] 25)
              have Rczxy := own_on Rczx ((Below.refl _ _).alloc (Nat.le_refl _) (.cells #[.slice none 0 0, .int .i64 0] 25))
              have TXczxy := TXczx.alloc (.cells #[.slice none 0 0, .int .i64 0] 25)
              have TZczxy := TZczx.alloc (.cells #[.slice none 0 0, .int .i64 0] 25)
              have TYczxy := Two.new vczx 25 (.slice none 0 0) (.int .i64 0)
              generalize vczx.alloc (.cells #[.slice none 0 0, .int .i64 0] 25) = vczxy at Eczxy Rczxy TXczxy TYczxy TZczxy ⊢
              obtain ⟨NY, hNY⟩ : ∃ N, N = vczx.heap.size := ⟨_, rfl⟩
              rw [← hNY] at hY TYczxy g9 ⊢
              clear hNY
              have Qczxy : vczxy.cell? ⟨g, off + k * 2, none⟩ = some (.int .i64 xb) ∧ vczxy.cell? ⟨g, off + k * 2 + 1, none⟩ = some (.int .i64 xp) ∧ vczxy.cell? ⟨C, 0, none⟩ = some (.int .i64 l) ∧ vczxy.cell? ⟨C, 1, none⟩ = some (.int .i64 u) ∧ vczxy.cell? ⟨C, 2, none⟩ = some (.int .i64 (q : Nat)) := And.intro (RdC.held HW.out Eczxy.bel0 rfl HXX.out).1 (And.intro (RdC.held HW.out Eczxy.bel0 rfl HXX.out).2 (PW.cells Eczxy))
              refine hK.out _ _ ?_ (fun hSx => ?_)
              · first | exact Qczxy | ((try dsimp only); go_keep)
              clear hK K hSx Eczx Qczx Rczx TXczx TZczx
              (try simp only [Act.put, List.setIfInBounds_toArray, List.set_cons_zero, List.set_cons_succ])
              refine anyH_listed (l2 := #[true, true, true, true, true, true, true, true, true, true, true, true, true, true, true, true, true, true, true, false, false, false]) (by kernel_rfl) ?_
              revert g9
              revert hZ
              revert hY
              revert hX
              revert TZczxy
              revert TYczxy
              revert TXczxy
              revert Rczxy
              revert Qczxy
              revert Eczxy
              revert NZ
              revert NY
              revert NX
              revert c2
              revert n2
              revert A2
              revert vczxy
              exact key
            · go_simp
              have hY : C < vcz.heap.size := Ecz.lt
              have g9 := Ecz.rowne
              have Eczy := PW.alloc Ecz (.cells #[.slice none 0 0, .int .i64 0] 25)
              have Rczy := own_on Rcz ((Below.refl _ _).alloc (Nat.le_refl _) (.cells #[.slice none 0 0, .int .i64 0] 25))
              have TZczy := TZcz.alloc (.cells #[.slice none 0 0, .int .i64 0] 25)
              have TYczy := Two.new vcz 25 (.slice none 0 0) (.int .i64 0)
              generalize vcz.alloc (.cells #[.slice none 0 0, .int .i64 0] 25) = vczy at Eczy Rczy TYczy TZczy ⊢
              obtain ⟨NY, hNY⟩ : ∃ N, N = vcz.heap.size := ⟨_, rfl⟩
              rw [← hNY] at hY TYczy g9 ⊢
              clear hNY
              have Qczy : vczy.cell? ⟨g, off + k * 2, none⟩ = some (.int .i64 xb) ∧ vczy.cell? ⟨g, off + k * 2 + 1, none⟩ = some (.int .i64 xp) ∧ vczy.cell? ⟨C, 0, none⟩ = some (.int .i64 l) ∧ vczy.cell? ⟨C, 1, none⟩ = some (.int .i64 u) ∧ vczy.cell? ⟨C, 2, none⟩ = some (.int .i64 (q : Nat)) := And.intro (RdC.held HW.out Eczy.bel0 rfl HXX.out).1 (And.intro (RdC.held HW.out Eczy.bel0 rfl HXX.out).2 (PW.cells Eczy))
              refine hK.out _ _ ?_ (fun hSx => ?_)
              · first | exact Qczy | ((try dsimp only); go_keep)
              clear hK K hSx Ecz Qcz Rcz TZcz
              (try simp only [Act.put, List.setIfInBounds_toArray, List.set_cons_zero, List.set_cons_succ])
              refine wpAnyH_ready (rs := [16]) (by kernel_rfl) (by simp) ?_
              refine (AllReadyH.cons rfl (fun K hK => ?_) AllReadyH.nil)
              go_simp
              have hX : C < vczy.heap.size := Eczy.lt
              have Eczyx := PW.alloc Eczy (.cells #[.int .i64 0, .int .i64 0, .int .i64 0] 50)
              have Rczyx := own_on Rczy ((Below.refl _ _).alloc (Nat.le_refl _) (.cells #[.int .i64 0, .int .i64 0, .int .i64 0] 50))
              have TYczyx := TYczy.alloc (.cells #[.int .i64 0, .int .i64 0, .int .i64 0] 50)
              have TZczyx := TZczy.alloc (.cells #[.int .i64 0, .int .i64 0, .int .i64 0] 50)
              have TXczyx := Three.new vczy 50 (.int .i64 0) (.int .i64 0) (.int .i64 0)
              generalize vczy.alloc (.cells #[.int .i64 0, .int .i64 0, .int .i64 0] 50) = vczyx at Eczyx Rczyx TXczyx TYczyx TZczyx ⊢
              obtain ⟨NX, hNX⟩ : ∃ N, N = vczy.heap.size := ⟨_, rfl⟩
              rw [← hNX] at hX TXczyx ⊢
              clear hNX
              have Qczyx : vczyx.cell? ⟨g, off + k * 2, none⟩ = some (.int .i64 xb) ∧ vczyx.cell? ⟨g, off + k * 2 + 1, none⟩ = some (.int .i64 xp) ∧ vczyx.cell? ⟨C, 0, none⟩ = some (.int .i64 l) ∧ vczyx.cell? ⟨C, 1, none⟩ = some (.int .i64 u) ∧ vczyx.cell? ⟨C, 2, none⟩ = some (.int .i64 (q : Nat)) := And.intro (RdC.held HW.out Eczyx.bel0 rfl HXX.out).1 (And.intro (RdC.held HW.out Eczyx.bel0 rfl HXX.out).2 (PW.cells Eczyx))
              refine hK.out _ _ ?_ (fun hSx => ?_)
              · first | exact Qczyx | ((try dsimp only); go_keep)
              clear hK K hSx Eczy Qczy Rczy TYczy TZczy
              (try simp only [Act.put, List.setIfInBounds_toArray, List.set_cons_zero, List.set_cons_succ])
              refine anyH_listed (l2 := #[true, true, true, true, true, true, true, true, true, true, true, true, true, true, true, true, true, true, true, false, false, false]) (by kernel_rfl) ?_
              revert g9
              revert hZ
              revert hY
              revert hX
              revert TZczyx
              revert TYczyx
              revert TXczyx
              revert Rczyx
              revert Qczyx
              revert Eczyx
              revert NZ
              revert NY
              revert NX
              revert c2
              revert n2
              revert A2
              revert vczyx
              exact key
        · go_simp
          have hX : C < v0.heap.size := E0.lt
          have Ex := PW.alloc E0 (.cells #[.int .i64 0, .int .i64 0, .int .i64 0] 50)
          have TXx := Three.new v0 50 (.int .i64 0) (.int .i64 0) (.int .i64 0)
          generalize v0.alloc (.cells #[.int .i64 0, .int .i64 0, .int .i64 0] 50) = vx at Ex TXx ⊢
          obtain ⟨NX, hNX⟩ : ∃ N, N = v0.heap.size := ⟨_, rfl⟩
          rw [← hNX] at hX TXx ⊢
          clear hNX
          have Qx : vx.cell? ⟨g, off + k * 2, none⟩ = some (.int .i64 xb) ∧ vx.cell? ⟨g, off + k * 2 + 1, none⟩ = some (.int .i64 xp) ∧ vx.cell? ⟨C, 0, none⟩ = some (.int .i64 l) ∧ vx.cell? ⟨C, 1, none⟩ = some (.int .i64 u) ∧ vx.cell? ⟨C, 2, none⟩ = some (.int .i64 (q : Nat)) := And.intro (RdC.held HW.out Ex.bel0 rfl HXX.out).1 (And.intro (RdC.held HW.out Ex.bel0 rfl HXX.out).2 (PW.cells Ex))
          refine hK.out _ _ ?_ (fun hSx => ?_)
          · first | exact Qx | ((try dsimp only); go_keep)
          clear hK K hSx
          (try simp only [Act.put, List.setIfInBounds_toArray, List.set_cons_zero, List.set_cons_succ])
          refine wpAnyH_ready (rs := [11, 17, 18]) (by kernel_rfl) (by simp) ?_
          refine (AllReadyH.cons rfl (fun K hK => ?_) (AllReadyH.cons rfl (fun K hK => ?_) (AllReadyH.cons rfl (fun K hK => ?_) AllReadyH.nil)))
          · go_simp
            refine (HST.out _).mono ?_
            rintro e vxc ⟨A2, n2, c2, rfl, o2, y2⟩
            have hsz : C + 1 ≤ vx.heap.size := Ex.lt
            have Exc := PW.on Ex y2
            have Rxc := own_base hsz o2
            have TXxc := TXx.on y2
            have Qxc : vxc.cell? ⟨g, off + k * 2, none⟩ = some (.int .i64 xb) ∧ vxc.cell? ⟨g, off + k * 2 + 1, none⟩ = some (.int .i64 xp) ∧ vxc.cell? ⟨C, 0, none⟩ = some (.int .i64 l) ∧ vxc.cell? ⟨C, 1, none⟩ = some (.int .i64 u) ∧ vxc.cell? ⟨C, 2, none⟩ = some (.int .i64 (q : Nat)) := And.intro (RdC.held HW.out Exc.bel0 rfl HXX.out).1 (And.intro (RdC.held HW.out Exc.bel0 rfl HXX.out).2 (PW.cells Exc))
            clear o2 y2 hsz
            (try go_wp2_with fail)
            refine hK.out _ _ ?_ (fun hSx => ?_)
            · first | exact Qxc | ((try dsimp only); go_keep)
            clear hK K hSx Ex Qx TXx
            (try simp only [Act.put, List.setIfInBounds_toArray, List.set_cons_zero, List.set_cons_succ])
            refine wpAnyH_take (i := 12) (v := ?_) rfl (by kernel_rfl) (by kernel_rfl) (by kernel_rfl) (fun _ _ _ h => h) (Or.inl ⟨by rfl, ?_⟩) Qxc ?_
            rotate_left 1
            focus (intro wS hSw; (try dsimp only at hSw); go_simp; try with_reducible rfl)
            (try simp only [Act.put, List.setIfInBounds_toArray, List.set_cons_zero, List.set_cons_succ])
            refine wpAnyH_take (i := 13) (v := ?_) rfl (by kernel_rfl) (by kernel_rfl) (by kernel_rfl) (fun _ _ _ h => h) (Or.inl ⟨by rfl, ?_⟩) Qxc ?_
            rotate_left 1
            focus (intro wS hSw; (try dsimp only at hSw); go_simp; try with_reducible rfl)
            (try simp only [Act.put, List.setIfInBounds_toArray, List.set_cons_zero, List.set_cons_succ])
            refine wpAnyH_take (i := 14) (v := ?_) rfl (by kernel_rfl) (by kernel_rfl) (by kernel_rfl) (fun _ _ _ h => h) (Or.inl ⟨by rfl, ?_⟩) Qxc ?_
            rotate_left 1
            focus (intro wS hSw; (try dsimp only at hSw); go_simp; try with_reducible rfl)
            (try simp only [Act.put, List.setIfInBounds_toArray, List.set_cons_zero, List.set_cons_succ])
            refine wpAnyH_take (i := 15) (v := ?_) rfl (by kernel_rfl) (by kernel_rfl) (by kernel_rfl) (fun _ _ _ h => h) (Or.inl ⟨by rfl, ?_⟩) Qxc ?_
            rotate_left 1
            focus (intro wS hSw; (try dsimp only at hSw); go_simp; try with_reducible rfl)
            (try simp only [Act.put, List.setIfInBounds_toArray, List.set_cons_zero, List.set_cons_succ])
            refine wpAnyH_ready (rs := [17, 18]) (by kernel_rfl) (by simp) ?_
            refine (AllReadyH.cons rfl (fun K hK => ?_) (AllReadyH.cons rfl (fun K hK => ?_) AllReadyH.nil))
            · go_simp
              have hY : C < vxc.heap.size := Exc.lt
              have g9 := Exc.rowne
              have Excy := PW.alloc Exc (.cells #[.slice none 0 0, .int .i64 0] 25)
              have Rxcy := own_on Rxc ((Below.refl _ _).alloc (Nat.le_refl _) (.cells #[.slice none 0 0, .int .i64 0] 25))
              have TXxcy := TXxc.alloc (.cells #[.slice none 0 0, .int .i64 0] 25)
              have TYxcy := Two.new vxc 25 (.slice none 0 0) (.int .i64 0)
              generalize vxc.alloc (.cells #[.slice none 0 0, .int .i64 0] 25) = vxcy at Excy Rxcy TXxcy TYxcy ⊢
              obtain ⟨NY, hNY⟩ : ∃ N, N = vxc.heap.size := ⟨_, rfl⟩
              rw [← hNY] at hY TYxcy g9 ⊢
              clear hNY
              have Qxcy : vxcy.cell? ⟨g, off + k * 2, none⟩ = some (.int .i64 xb) ∧ vxcy.cell? ⟨g, off + k * 2 + 1, none⟩ = some (.int .i64 xp) ∧ vxcy.cell? ⟨C, 0, none⟩ = some (.int .i64 l) ∧ vxcy.cell? ⟨C, 1, none⟩ = some (.int .i64 u) ∧ vxcy.cell? ⟨C, 2, none⟩ = some (.int .i64 (q : Nat)) := And.intro (RdC.held HW.out Excy.bel0 rfl HXX.out).1 (And.intro (RdC.held HW.out Excy.bel0 rfl HXX.out).2 (PW.cells Excy))
              refine hK.out _ _ ?_ (fun hSx => ?_)
              · first | exact Qxcy | ((try dsimp only); go_keep)
              clear hK K hSx Exc Qxc Rxc TXxc
              (try simp only [Act.put, List.setIfInBounds_toArray, List.set_cons_zero, List.set_cons_succ])
              refine wpAnyH_ready (rs := [18]) (by kernel_rfl) (by simp) ?_
              refine (AllReadyH.cons rfl (fun K hK => ?_) AllReadyH.nil)
              go_simp
              have hZ : C < vxcy.heap.size := Excy.lt
              have Excyz := PW.alloc Excy (.cells #[.int .i64 0, .int .i64 0] 27)
              have Rxcyz := own_on Rxcy ((Below.refl _ _).alloc (Nat.le_refl _) (.cells #[.int .i64 0, .int .i64 0] 27))
              have TXxcyz := TXxcy.alloc (.cells #[.int .i64 0, .int .i64 0] 27)
              have TYxcyz := TYxcy.alloc (.cells #[.int .i64 0, .int .i64 0] 27)
              have TZxcyz := Two.new vxcy 27 (.int .i64 0) (.int .i64 0)
              generalize vxcy.alloc (.cells #[.int .i64 0, .int .i64 0] 27) = vxcyz at Excyz Rxcyz TXxcyz TYxcyz TZxcyz ⊢
              obtain ⟨NZ, hNZ⟩ : ∃ N, N = vxcy.heap.size := ⟨_, rfl⟩
              rw [← hNZ] at hZ TZxcyz ⊢
              clear hNZ
              have Qxcyz : vxcyz.cell? ⟨g, off + k * 2, none⟩ = some (.int .i64 xb) ∧ vxcyz.cell? ⟨g, off + k * 2 + 1, none⟩ = some (.int .i64 xp) ∧ vxcyz.cell? ⟨C, 0, none⟩ = some (.int .i64 l) ∧ vxcyz.cell? ⟨C, 1, none⟩ = some (.int .i64 u) ∧ vxcyz.cell? ⟨C, 2, none⟩ = some (.int .i64 (q : Nat)) := And.intro (RdC.held HW.out Excyz.bel0 rfl HXX.out).1 (And.intro (RdC.held HW.out Excyz.bel0 rfl HXX.out).2 (PW.cells Excyz))
              refine hK.out _ _ ?_ (fun hSx => ?_)
              · first | exact Qxcyz | ((try dsimp only); go_keep)
              clear hK K hSx Excy Qxcy Rxcy TXxcy TYxcy
              (try simp only [Act.put, List.setIfInBounds_toArray, List.set_cons_zero, List.set_cons_succ])
              refine anyH_listed (l2 := #[true, true, true, true, true, true, true, true, true, true, true, true, true, true, true, true, true, true, true, false, false, false]) (by kernel_rfl) ?_
              revert g9
              revert hZ
              revert hY
              revert hX
              revert TZxcyz
              revert TYxcyz
              revert TXxcyz
              revert Rxcyz
              revert Qxcyz
              revert Excyz
              revert NZ
              revert NY
              revert NX
              revert c2
              revert n2
              revert A2
              revert vxcyz
              exact key
            · go_simp
              have hZ : C < vxc.heap.size := Exc.lt
              have Excz := PW.alloc Exc (.cells #[.int .i64 0, .int .i64 0] 27)
              have Rxcz := own_on Rxc ((Below.refl _ _).alloc (Nat.le_refl _) (.cells #[.int .i64 0, .int .i64 0] 27))
              have TXxcz := TXxc.alloc (.cells #[.int .i64 0, .int .i64 0] 27)
              have TZxcz := Two.new vxc 27 (.int .i64 0) (.int .i64 0)
              generalize vxc.alloc (.cells #[.int .i64 0, .int .i64 0] 27) = vxcz at Excz Rxcz TXxcz TZxcz ⊢
              obtain ⟨NZ, hNZ⟩ : ∃ N, N = vxc.heap.size := ⟨_, rfl⟩
              rw [← hNZ] at hZ TZxcz ⊢
              clear hNZ
              have Qxcz : vxcz.cell? ⟨g, off + k * 2, none⟩ = some (.int .i64 xb) ∧ vxcz.cell? ⟨g, off + k * 2 + 1, none⟩ = some (.int .i64 xp) ∧ vxcz.cell? ⟨C, 0, none⟩ = some (.int .i64 l) ∧ vxcz.cell? ⟨C, 1, none⟩ = some (.int .i64 u) ∧ vxcz.cell? ⟨C, 2, none⟩ = some (.int .i64 (q : Nat)) := And.intro (RdC.held HW.out Excz.bel0 rfl HXX.out).1 (And.intro (RdC.held HW.out Excz.bel0 rfl HXX.out).2 (PW.cells Excz))
              refine hK.out _ _ ?_ (fun hSx => ?_)
              · first | exact Qxcz | ((try dsimp only); go_keep)
              clear hK K hSx Exc Qxc Rxc TXxc
              (try simp only [Act.put, List.setIfInBounds_toArray, List.set_cons_zero, List.set_cons_succ])
              refine wpAnyH_ready (rs := [17]) (by kernel_rfl) (by simp) ?_
              refine (AllReadyH.cons rfl (fun K hK => ?_) AllReadyH.nil)
              go_simp
              have hY : C < vxcz.heap.size := Excz.lt
              have g9 := Excz.rowne
              have Exczy := PW.alloc Excz (.cells #[.slice none 0 0, .int .i64 0] 25)
              have Rxczy := own_on Rxcz ((Below.refl _ _).alloc (Nat.le_refl _) (.cells #[.slice none 0 0, .int .i64 0] 25))
              have TXxczy := TXxcz.alloc (.cells #[.slice none 0 0, .int .i64 0] 25)
              have TZxczy := TZxcz.alloc (.cells #[.slice none 0 0, .int .i64 0] 25)
              have TYxczy := Two.new vxcz 25 (.slice none 0 0) (.int .i64 0)
              generalize vxcz.alloc (.cells #[.slice none 0 0, .int .i64 0] 25) = vxczy at Exczy Rxczy TXxczy TYxczy TZxczy ⊢
              obtain ⟨NY, hNY⟩ : ∃ N, N = vxcz.heap.size := ⟨_, rfl⟩
              rw [← hNY] at hY TYxczy g9 ⊢
              clear hNY
              have Qxczy : vxczy.cell? ⟨g, off + k * 2, none⟩ = some (.int .i64 xb) ∧ vxczy.cell? ⟨g, off + k * 2 + 1, none⟩ = some (.int .i64 xp) ∧ vxczy.cell? ⟨C, 0, none⟩ = some (.int .i64 l) ∧ vxczy.cell? ⟨C, 1, none⟩ = some (.int .i64 u) ∧ vxczy.cell? ⟨C, 2, none⟩ = some (.int .i64 (q : Nat)) := And.intro (RdC.held HW.out Exczy.bel0 rfl HXX.out).1 (And.intro (RdC.held HW.out Exczy.bel0 rfl HXX.out).2 (PW.cells Exczy))
              refine hK.out _ _ ?_ (fun hSx => ?_)
              · first | exact Qxczy | ((try dsimp only); go_keep)
              clear hK K hSx Excz Qxcz Rxcz TXxcz TZxcz
              (try simp only [Act.put, List.setIfInBounds_toArray, List.set_cons_zero, List.set_cons_succ])
              refine anyH_listed (l2 := #[true, true, true, true, true, true, true, true, true, true, true, true, true, true, true, true, true, true, true, false, false, false]) (by kernel_rfl) ?_
              revert g9
              revert hZ
              revert hY
              revert hX
              revert TZxczy
              revert TYxczy
              revert TXxczy
              revert Rxczy
              revert Qxczy
              revert Exczy
              revert NZ
              revert NY
              revert NX
              revert c2
              revert n2
              revert A2
              revert vxczy
              exact key
          · go_simp
            have hY : C < vx.heap.size := Ex.lt
            have g9 := Ex.rowne
            have Exy := PW.alloc Ex (.cells #[.slice none 0 0, .int .i64 0] 25)
            have TXxy := TXx.alloc (.cells #[.slice none 0 0, .int .i64 0] 25)
            have TYxy := Two.new vx 25 (.slice none 0 0) (.int .i64 0)
            generalize vx.alloc (.cells #[.slice none 0 0, .int .i64 0] 25) = vxy at Exy TXxy TYxy ⊢
            obtain ⟨NY, hNY⟩ : ∃ N, N = vx.heap.size := ⟨_, rfl⟩
            rw [← hNY] at hY TYxy g9 ⊢
            clear hNY
            have Qxy : vxy.cell? ⟨g, off + k * 2, none⟩ = some (.int .i64 xb) ∧ vxy.cell? ⟨g, off + k * 2 + 1, none⟩ = some (.int .i64 xp) ∧ vxy.cell? ⟨C, 0, none⟩ = some (.int .i64 l) ∧ vxy.cell? ⟨C, 1, none⟩ = some (.int .i64 u) ∧ vxy.cell? ⟨C, 2, none⟩ = some (.int .i64 (q : Nat)) := And.intro (RdC.held HW.out Exy.bel0 rfl HXX.out).1 (And.intro (RdC.held HW.out Exy.bel0 rfl HXX.out).2 (PW.cells Exy))
            refine hK.out _ _ ?_ (fun hSx => ?_)
            · first | exact Qxy | ((try dsimp only); go_keep)
            clear hK K hSx Ex Qx TXx
            (try simp only [Act.put, List.setIfInBounds_toArray, List.set_cons_zero, List.set_cons_succ])
            refine wpAnyH_ready (rs := [11, 18]) (by kernel_rfl) (by simp) ?_
            refine (AllReadyH.cons rfl (fun K hK => ?_) (AllReadyH.cons rfl (fun K hK => ?_) AllReadyH.nil))
            · go_simp
              refine (HST.out _).mono ?_
              rintro e vxyc ⟨A2, n2, c2, rfl, o2, y2⟩
              have hsz : C + 1 ≤ vxy.heap.size := Exy.lt
              have Exyc := PW.on Exy y2
              have Rxyc := own_base hsz o2
              have TXxyc := TXxy.on y2
              have TYxyc := TYxy.on y2
              have Qxyc : vxyc.cell? ⟨g, off + k * 2, none⟩ = some (.int .i64 xb) ∧ vxyc.cell? ⟨g, off + k * 2 + 1, none⟩ = some (.int .i64 xp) ∧ vxyc.cell? ⟨C, 0, none⟩ = some (.int .i64 l) ∧ vxyc.cell? ⟨C, 1, none⟩ = some (.int .i64 u) ∧ vxyc.cell? ⟨C, 2, none⟩ = some (.int .i64 (q : Nat)) := And.intro (RdC.held HW.out Exyc.bel0 rfl HXX.out).1 (And.intro (RdC.held HW.out Exyc.bel0 rfl HXX.out).2 (PW.cells Exyc))
              clear o2 y2 hsz
              (try go_wp2_with fail)
              refine hK.out _ _ ?_ (fun hSx => ?_)
              · first | exact Qxyc | ((try dsimp only); go_keep)
              clear hK K hSx Exy Qxy TXxy TYxy
              (try simp only [Act.put, List.setIfInBounds_toArray, List.set_cons_zero, List.set_cons_succ])
              refine wpAnyH_take (i := 12) (v := ?_) rfl (by kernel_rfl) (by kernel_rfl) (by kernel_rfl) (fun _ _ _ h => h) (Or.inl ⟨by rfl, ?_⟩) Qxyc ?_
              rotate_left 1
              focus (intro wS hSw; (try dsimp only at hSw); go_simp; try with_reducible rfl)
              (try simp only [Act.put, List.setIfInBounds_toArray, List.set_cons_zero, List.set_cons_succ])
              refine wpAnyH_take (i := 13) (v := ?_) rfl (by kernel_rfl) (by kernel_rfl) (by kernel_rfl) (fun _ _ _ h => h) (Or.inl ⟨by rfl, ?_⟩) Qxyc ?_
              rotate_left 1
              focus (intro wS hSw; (try dsimp only at hSw); go_simp; try with_reducible rfl)
              (try simp only [Act.put, List.setIfInBounds_toArray, List.set_cons_zero, List.set_cons_succ])
              refine wpAnyH_take (i := 14) (v := ?_) rfl (by kernel_rfl) (by kernel_rfl) (by kernel_rfl) (fun _ _ _ h => h) (Or.inl ⟨by rfl, ?_⟩) Qxyc ?_
              rotate_left 1
              focus (intro wS hSw; (try dsimp only at hSw); go_simp; try with_reducible rfl)
              (try simp only [Act.put, List.setIfInBounds_toArray, List.set_cons_zero, List.set_cons_succ])
              refine wpAnyH_take (i := 15) (v := ?_) rfl (by kernel_rfl) (by kernel_rfl) (by kernel_rfl) (fun _ _ _ h => h) (Or.inl ⟨by rfl, ?_⟩) Qxyc ?_
              rotate_left 1
              focus (intro wS hSw; (try dsimp only at hSw); go_simp; try with_reducible rfl)
              (try simp only [Act.put, List.setIfInBounds_toArray, List.set_cons_zero, List.set_cons_succ])
              refine wpAnyH_ready (rs := [18]) (by kernel_rfl) (by simp) ?_
              refine (AllReadyH.cons rfl (fun K hK => ?_) AllReadyH.nil)
              go_simp
              have hZ : C < vxyc.heap.size := Exyc.lt
              have Exycz := PW.alloc Exyc (.cells #[.int .i64 0, .int .i64 0] 27)
              have Rxycz := own_on Rxyc ((Below.refl _ _).alloc (Nat.le_refl _) (.cells #[.int .i64 0, .int .i64 0] 27))
              have TXxycz := TXxyc.alloc (.cells #[.int .i64 0, .int .i64 0] 27)
              have TYxycz := TYxyc.alloc (.cells #[.int .i64 0, .int .i64 0] 27)
              have TZxycz := Two.new vxyc 27 (.int .i64 0) (.int .i64 0)
              generalize vxyc.alloc (.cells #[.int .i64 0, .int .i64 0] 27) = vxycz at Exycz Rxycz TXxycz TYxycz TZxycz ⊢
              obtain ⟨NZ, hNZ⟩ : ∃ N, N = vxyc.heap.size := ⟨_, rfl⟩
              rw [← hNZ] at hZ TZxycz ⊢
              clear hNZ
              have Qxycz : vxycz.cell? ⟨g, off + k * 2, none⟩ = some (.int .i64 xb) ∧ vxycz.cell? ⟨g, off + k * 2 + 1, none⟩ = some (.int .i64 xp) ∧ vxycz.cell? ⟨C, 0, none⟩ = some (.int .i64 l) ∧ vxycz.cell? ⟨C, 1, none⟩ = some (.int .i64 u) ∧ vxycz.cell? ⟨C, 2, none⟩ = some (.int .i64 (q : Nat)) := And.intro (RdC.held HW.out Exycz.bel0 rfl HXX.out).1 (And.intro (RdC.held HW.out Exycz.bel0 rfl HXX.out).2 (PW.cells Exycz))
              refine hK.out _ _ ?_ (fun hSx => ?_)
              · first | exact Qxycz | ((try dsimp only); go_keep)
              clear hK K hSx Exyc Qxyc Rxyc TXxyc TYxyc
              (try simp only [Act.put, List.setIfInBounds_toArray, List.set_cons_zero, List.set_cons_succ])
              refine anyH_listed (l2 := #[true, true, true, true, true, true, true, true, true, true, true, true, true, true, true, true, true, true, true, false, false, false]) (by kernel_rfl) ?_
              revert g9
              revert hZ
              revert hY
              revert hX
              revert TZxycz
              revert TYxycz
              revert TXxycz
              revert Rxycz
              revert Qxycz
              revert Exycz
              revert NZ
              revert NY
              revert NX
              revert c2
              revert n2
              revert A2
              revert vxycz
              exact key
            · go_simp
              have hZ : C < vxy.heap.size := Exy.lt
              have Exyz := PW.alloc Exy (.cells #[.int .i64 0, .int .i64 0] 27)
              have TXxyz := TXxy.alloc (.cells #[.int .i64 0, .int .i64 0] 27)
              have TYxyz := TYxy.alloc (.cells #[.int .i64 0, .int .i64 0] 27)
              have TZxyz := Two.new vxy 27 (.int .i64 0) (.int .i64 0)
              generalize vxy.alloc (.cells #[.int .i64 0, .int .i64 0] 27) = vxyz at Exyz TXxyz TYxyz TZxyz ⊢
              obtain ⟨NZ, hNZ⟩ : ∃ N, N = vxy.heap.size := ⟨_, rfl⟩
              rw [← hNZ] at hZ TZxyz ⊢
              clear hNZ
              have Qxyz : vxyz.cell? ⟨g, off + k * 2, none⟩ = some (.int .i64 xb) ∧ vxyz.cell? ⟨g, off + k * 2 + 1, none⟩ = some (.int .i64 xp) ∧ vxyz.cell? ⟨C, 0, none⟩ = some (.int .i64 l) ∧ vxyz.cell? ⟨C, 1, none⟩ = some (.int .i64 u) ∧ vxyz.cell? ⟨C, 2, none⟩ = some (.int .i64 (q : Nat)) := And.intro (RdC.held HW.out Exyz.bel0 rfl HXX.out).1 (And.intro (RdC.held HW.out Exyz.bel0 rfl HXX.out).2 (PW.cells Exyz))
              refine hK.out _ _ ?_ (fun hSx => ?_)
              · first | exact Qxyz | ((try dsimp only); go_keep)
              clear hK K hSx Exy Qxy TXxy TYxy
              (try simp only [Act.put, List.setIfInBounds_toArray, List.set_cons_zero, List.set_cons_succ])
              refine wpAnyH_ready (rs := [11]) (by kernel_rfl) (by simp) ?_
              refine (AllReadyH.cons rfl (fun K hK => ?_) AllReadyH.nil)
              go_simp
              refine (HST.out _).mono ?_
              rintro e vxyzc ⟨A2, n2, c2, rfl, o2, y2⟩
              have hsz : C + 1 ≤ vxyz.heap.size := Exyz.lt
              have Exyzc := PW.on Exyz y2
              have Rxyzc := own_base hsz o2
              have TXxyzc := TXxyz.on y2
              have TYxyzc := TYxyz.on y2
              have TZxyzc := TZxyz.on y2
              have Qxyzc : vxyzc.cell? ⟨g, off + k * 2, none⟩ = some (.int .i64 xb) ∧ vxyzc.cell? ⟨g, off + k * 2 + 1, none⟩ = some (.int .i64 xp) ∧ vxyzc.cell? ⟨C, 0, none⟩ = some (.int .i64 l) ∧ vxyzc.cell? ⟨C, 1, none⟩ = some (.int .i64 u) ∧ vxyzc.cell? ⟨C, 2, none⟩ = some (.int .i64 (q : Nat)) := And.intro (RdC.held HW.out Exyzc.bel0 rfl HXX.out).1 (And.intro (RdC.held HW.out Exyzc.bel0 rfl HXX.out).2 (PW.cells Exyzc))
              clear o2 y2 hsz
              (try go_wp2_with fail)
              refine hK.out _ _ ?_ (fun hSx => ?_)
              · first | exact Qxyzc | ((try dsimp only); go_keep)
              clear hK K hSx Exyz Qxyz TXxyz TYxyz TZxyz
              (try simp only [Act.put, List.setIfInBounds_toArray, List.set_cons_zero, List.set_cons_succ])
              refine wpAnyH_take (i := 12) (v := ?_) rfl (by kernel_rfl) (by kernel_rfl) (by kernel_rfl) (fun _ _ _ h => h) (Or.inl ⟨by rfl, ?_⟩) Qxyzc ?_
              rotate_left 1
              focus (intro wS hSw; (try dsimp only at hSw); go_simp; try with_reducible rfl)
              (try simp only [Act.put, List.setIfInBounds_toArray, List.set_cons_zero, List.set_cons_succ])
              refine wpAnyH_take (i := 13) (v := ?_) rfl (by kernel_rfl) (by kernel_rfl) (by kernel_rfl) (fun _ _ _ h => h) (Or.inl ⟨by rfl, ?_⟩) Qxyzc ?_
              rotate_left 1
              focus (intro wS hSw; (try dsimp only at hSw); go_simp; try with_reducible rfl)
              (try simp only [Act.put, List.setIfInBounds_toArray, List.set_cons_zero, List.set_cons_succ])
              refine wpAnyH_take (i := 14) (v := ?_) rfl (by kernel_rfl) (by kernel_rfl) (by kernel_rfl) (fun _ _ _ h => h) (Or.inl ⟨by rfl, ?_⟩) Qxyzc ?_
              rotate_left 1
              focus (intro wS hSw; (try dsimp only at hSw); go_simp; try with_reducible rfl)
              (try simp only [Act.put, List.setIfInBounds_toArray, List.set_cons_zero, List.set_cons_succ])
              refine wpAnyH_take (i := 15) (v := ?_) rfl (by kernel_rfl) (by kernel_rfl) (by kernel_rfl) (fun _ _ _ h => h) (Or.inl ⟨by rfl, ?_⟩) Qxyzc ?_
              rotate_left 1
              focus (intro wS hSw; (try dsimp only at hSw); go_simp; try with_reducible rfl)
              (try simp only [Act.put, List.setIfInBounds_toArray, List.set_cons_zero, List.set_cons_succ])
              refine anyH_listed (l2 := #[true, true, true, true, true, true, true, true, true, true, true, true, true, true, true, true, true, true, true, false, false, false]) (by kernel_rfl) ?_
              revert g9
              revert hZ
              revert hY
              revert hX
              revert TZxyzc
              revert TYxyzc
              revert TXxyzc
              revert Rxyzc
              revert Qxyzc
              revert Exyzc
              revert NZ
              revert NY
              revert NX
              revert c2
              revert n2
              revert A2
              revert vxyzc
              exact key
          · go_simp
            have hZ : C < vx.heap.size := Ex.lt
            have Exz := PW.alloc Ex (.cells #[.int .i64 0, .int .i64 0] 27)
            have TXxz := TXx.alloc (.cells #[.int .i64 0, .int .i64 0] 27)
            have TZxz := Two.new vx 27 (.int .i64 0) (.int .i64 0)
            generalize vx.alloc (.cells #[.int .i64 0, .int .i64 0] 27) = vxz at Exz TXxz TZxz ⊢
            obtain ⟨NZ, hNZ⟩ : ∃ N, N = vx.heap.size := ⟨_, rfl⟩
            rw [← hNZ] at hZ TZxz ⊢
            clear hNZ
            have Qxz : vxz.cell? ⟨g, off + k * 2, none⟩ = some (.int .i64 xb) ∧ vxz.cell? ⟨g, off + k * 2 + 1, none⟩ = some (.int .i64 xp) ∧ vxz.cell? ⟨C, 0, none⟩ = some (.int .i64 l) ∧ vxz.cell? ⟨C, 1, none⟩ = some (.int .i64 u) ∧ vxz.cell? ⟨C, 2, none⟩ = some (.int .i64 (q : Nat)) := And.intro (RdC.held HW.out Exz.bel0 rfl HXX.out).1 (And.intro (RdC.held HW.out Exz.bel0 rfl HXX.out).2 (PW.cells Exz))
            refine hK.out _ _ ?_ (fun hSx => ?_)
            · first | exact Qxz | ((try dsimp only); go_keep)
            clear hK K hSx Ex Qx TXx
            (try simp only [Act.put, List.setIfInBounds_toArray, List.set_cons_zero, List.set_cons_succ])
            refine wpAnyH_ready (rs := [11, 17]) (by kernel_rfl) (by simp) ?_
            refine (AllReadyH.cons rfl (fun K hK => ?_) (AllReadyH.cons rfl (fun K hK => ?_) AllReadyH.nil))
            · go_simp
              refine (HST.out _).mono ?_
              rintro e vxzc ⟨A2, n2, c2, rfl, o2, y2⟩
              have hsz : C + 1 ≤ vxz.heap.size := Exz.lt
              have Exzc := PW.on Exz y2
              have Rxzc := own_base hsz o2
              have TXxzc := TXxz.on y2
              have TZxzc := TZxz.on y2
              have Qxzc : vxzc.cell? ⟨g, off + k * 2, none⟩ = some (.int .i64 xb) ∧ vxzc.cell? ⟨g, off + k * 2 + 1, none⟩ = some (.int .i64 xp) ∧ vxzc.cell? ⟨C, 0, none⟩ = some (.int .i64 l) ∧ vxzc.cell? ⟨C, 1, none⟩ = some (.int .i64 u) ∧ vxzc.cell? ⟨C, 2, none⟩ = some (.int .i64 (q : Nat)) := And.intro (RdC.held HW.out Exzc.bel0 rfl HXX.out).1 (And.intro (RdC.held HW.out Exzc.bel0 rfl HXX.out).2 (PW.cells Exzc))
              clear o2 y2 hsz
              (try go_wp2_with fail)
              refine hK.out _ _ ?_ (fun hSx => ?_)
              · first | exact Qxzc | ((try dsimp only); go_keep)
              clear hK K hSx Exz Qxz TXxz TZxz
              (try simp only [Act.put, List.setIfInBounds_toArray, List.set_cons_zero, List.set_cons_succ])
              refine wpAnyH_take (i := 12) (v := ?_) rfl (by kernel_rfl) (by kernel_rfl) (by kernel_rfl) (fun _ _ _ h => h) (Or.inl ⟨by rfl, ?_⟩) Qxzc ?_
              rotate_left 1
              focus (intro wS hSw; (try dsimp only at hSw); go_simp; try with_reducible rfl)
              (try simp only [Act.put, List.setIfInBounds_toArray, List.set_cons_zero, List.set_cons_succ])
              refine wpAnyH_take (i := 13) (v := ?_) rfl (by kernel_rfl) (by kernel_rfl) (by kernel_rfl) (fun _ _ _ h => h) (Or.inl ⟨by rfl, ?_⟩) Qxzc ?_
              rotate_left 1
              focus (intro wS hSw; (try dsimp only at hSw); go_simp; try with_reducible rfl)
              (try simp only [Act.put, List.setIfInBounds_toArray, List.set_cons_zero, List.set_cons_succ])
              refine wpAnyH_take (i := 14) (v := ?_) rfl (by kernel_rfl) (by kernel_rfl) (by kernel_rfl) (fun _ _ _ h => h) (Or.inl ⟨by rfl, ?_⟩) Qxzc ?_
              rotate_left 1
              focus (intro wS hSw; (try dsimp only at hSw); go_simp; try with_reducible rfl)
              (try simp only [Act.put, List.setIfInBounds_toArray, List.set_cons_zero, List.set_cons_succ])
              refine wpAnyH_take (i := 15) (v := ?_) rfl (by kernel_rfl) (by kernel_rfl) (by kernel_rfl) (fun _ _ _ h => h) (Or.inl ⟨by rfl, ?_⟩) Qxzc ?_
              rotate_left 1
              focus (intro wS hSw; (try dsimp only at hSw); go_simp; try with_reducible rfl)
              (try simp only [Act.put, List.setIfInBounds_toArray, List.set_cons_zero, List.set_cons_succ])
              refine wpAnyH_ready (rs := [17]) (by kernel_rfl) (by simp) ?_
              refine (AllReadyH.cons rfl (fun K hK => ?_) AllReadyH.nil)
              go_simp
              have hY : C < vxzc.heap.size := Exzc.lt
              have g9 := Exzc.rowne
              have Exzcy := PW.alloc Exzc (.cells #[.slice none 0 0, .int .i64 0] 25)
              have Rxzcy := own_on Rxzc ((Below.refl _ _).alloc (Nat.le_refl _) (.cells #[.slice none 0 0, .int .i64 0] 25))
              have TXxzcy := TXxzc.alloc (.cells #[.slice none 0 0, .int .i64 0] 25)
              have TZxzcy := TZxzc.alloc (.cells #[.slice none 0 0, .int .i64 0] 25)
              have TYxzcy := Two.new vxzc 25 (.slice none 0 0) (.int .i64 0)
              generalize vxzc.alloc (.cells #[.slice none 0 0, .int .i64 0] 25) = vxzcy at Exzcy Rxzcy TXxzcy TYxzcy TZxzcy ⊢
              obtain ⟨NY, hNY⟩ : ∃ N, N = vxzc.heap.size := ⟨_, rfl⟩
              rw [← hNY] at hY TYxzcy g9 ⊢
              clear hNY
              have Qxzcy : vxzcy.cell? ⟨g, off + k * 2, none⟩ = some (.int .i64 xb) ∧ vxzcy.cell? ⟨g, off + k * 2 + 1, none⟩ = some (.int .i64 xp) ∧ vxzcy.cell? ⟨C, 0, none⟩ = some (.int .i64 l) ∧ vxzcy.cell? ⟨C, 1, none⟩ = some (.int .i64 u) ∧ vxzcy.cell? ⟨C, 2, none⟩ = some (.int .i64 (q : Nat)) := And.intro (RdC.held HW.out Exzcy.bel0 rfl HXX.out).1 (And.intro (RdC.held HW.out Exzcy.bel0 rfl HXX.out).2 (PW.cells Exzcy))
              refine hK.out _ _ ?_ (fun hSx => ?_)
              · first | exact Qxzcy | ((try dsimp only); go_keep)
              clear hK K hSx Exzc Qxzc Rxzc TXxzc TZxzc
              (try simp only [Act.put, List.setIfInBounds_toArray, List.set_cons_zero, List.set_cons_succ])
              refine anyH_listed (l2 := #[true, true, true, true, true, true, true, true, true, true, true, true, true, true, true, true, true, true, true, false, false, false]) (by kernel_rfl) ?_
              revert g9
              revert hZ
              revert hY
              revert hX
              revert TZxzcy
              revert TYxzcy
              revert TXxzcy
              revert Rxzcy
              revert Qxzcy
              revert Exzcy
              revert NZ
              revert NY
              revert NX
              revert c2
              revert n2
              revert A2
              revert vxzcy
              exact key
            · go_simp
              have hY : C < vxz.heap.size := Exz.lt
              have g9 := Exz.rowne
              have Exzy := PW.alloc Exz (.cells #[.slice none 0 0, .int .i64 0] 25)
              have TXxzy := TXxz.alloc (.cells #[.slice none 0 0, .int .i64 0] 25)
              have TZxzy := TZxz.alloc (.cells #[.slice none 0 0, .int .i64 0] 25)
              have TYxzy := Two.new vxz 25 (.slice none 0 0) (.int .i64 0)
              generalize vxz.alloc (.cells #[.slice none 0 0, .int .i64 0] 25) = vxzy at Exzy TXxzy TYxzy TZxzy ⊢
              obtain ⟨NY, hNY⟩ : ∃ N, N = vxz.heap.size := ⟨_, rfl⟩
              rw [← hNY] at hY TYxzy g9 ⊢
              clear hNY
              have Qxzy : vxzy.cell? ⟨g, off + k * 2, none⟩ = some (.int .i64 xb) ∧ vxzy.cell? ⟨g, off + k * 2 + 1, none⟩ = some (.int .i64 xp) ∧ vxzy.cell? ⟨C, 0, none⟩ = some (.int .i64 l) ∧ vxzy.cell? ⟨C, 1, none⟩ = some (.int .i64 u) ∧ vxzy.cell? ⟨C, 2, none⟩ = some (.int .i64 (q : Nat)) := And.intro (RdC.held HW.out Exzy.bel0 rfl HXX.out).1 (And.intro (RdC.held HW.out Exzy.bel0 rfl HXX.out).2 (PW.cells Exzy))
              refine hK.out _ _ ?_ (fun hSx => ?_)
              · first | exact Qxzy | ((try dsimp only); go_keep)
              clear hK K hSx Exz Qxz TXxz TZxz
              (try simp only [Act.put, List.setIfInBounds_toArray, List.set_cons_zero, List.set_cons_succ])
              refine wpAnyH_ready (rs := [11]) (by kernel_rfl) (by simp) ?_
              refine (AllReadyH.cons rfl (fun K hK => ?_) AllReadyH.nil)
              go_simp
              refine (HST.out _).mono ?_
              rintro e vxzyc ⟨A2, n2, c2, rfl, o2, y2⟩
              have hsz : C + 1 ≤ vxzy.heap.size := Exzy.lt
              have Exzyc := PW.on Exzy y2
              have Rxzyc := own_base hsz o2
              have TXxzyc := TXxzy.on y2
              have TYxzyc := TYxzy.on y2
              have TZxzyc := TZxzy.on y2
              have Qxzyc : vxzyc.cell? ⟨g, off + k * 2, none⟩ = some (.int .i64 xb) ∧ vxzyc.cell? ⟨g, off + k * 2 + 1, none⟩ = some (.int .i64 xp) ∧ vxzyc.cell? ⟨C, 0, none⟩ = some (.int .i64 l) ∧ vxzyc.cell? ⟨C, 1, none⟩ = some (.int .i64 u) ∧ vxzyc.cell? ⟨C, 2, none⟩ = some (.int .i64 (q : Nat)) := And.intro (RdC.held HW.out Exzyc.bel0 rfl HXX.out).1 (And.intro (RdC.held HW.out Exzyc.bel0 rfl HXX.out).2 (PW.cells Exzyc))
              clear o2 y2 hsz
              (try go_wp2_with fail)
              refine hK.out _ _ ?_ (fun hSx => ?_)
              · first | exact Qxzyc | ((try dsimp only); go_keep)
              clear hK K hSx Exzy Qxzy TXxzy TYxzy TZxzy
              (try simp only [Act.put, List.setIfInBounds_toArray, List.set_cons_zero, List.set_cons_succ])
              refine wpAnyH_take (i := 12) (v := ?_) rfl (by kernel_rfl) (by kernel_rfl) (by kernel_rfl) (fun _ _ _ h => h) (Or.inl ⟨by rfl, ?_⟩) Qxzyc ?_
              rotate_left 1
              focus (intro wS hSw; (try dsimp only at hSw); go_simp; try with_reducible rfl)
              (try simp only [Act.put, List.setIfInBounds_toArray, List.set_cons_zero, List.set_cons_succ])
              refine wpAnyH_take (i := 13) (v := ?_) rfl (by kernel_rfl) (by kernel_rfl) (by kernel_rfl) (fun _ _ _ h => h) (Or.inl ⟨by rfl, ?_⟩) Qxzyc ?_
              rotate_left 1
              focus (intro wS hSw; (try dsimp only at hSw); go_simp; try with_reducible rfl)
              (try simp only [Act.put, List.setIfInBounds_toArray, List.set_cons_zero, List.set_cons_succ])
              refine wpAnyH_take (i := 14) (v := ?_) rfl (by kernel_rfl) (by kernel_rfl) (by kernel_rfl) (fun _ _ _ h => h) (Or.inl ⟨by rfl, ?_⟩) Qxzyc ?_
              rotate_left 1
              focus (intro wS hSw; (try dsimp only at hSw); go_simp; try with_reducible rfl)
              (try simp only [Act.put, List.setIfInBounds_toArray, List.set_cons_zero, List.set_cons_succ])
              refine wpAnyH_take (i := 15) (v := ?_) rfl (by kernel_rfl) (by kernel_rfl) (by kernel_rfl) (fun _ _ _ h => h) (Or.inl ⟨by rfl, ?_⟩) Qxzyc ?_
              rotate_left 1
              focus (intro wS hSw; (try dsimp only at hSw); go_simp; try with_reducible rfl)
              (try simp only [Act.put, List.setIfInBounds_toArray, List.set_cons_zero, List.set_cons_succ])
              refine anyH_listed (l2 := #[true, true, true, true, true, true, true, true, true, true, true, true, true, true, true, true, true, true, true, false, false, false]) (by kernel_rfl) ?_
              revert g9
              revert hZ
              revert hY
              revert hX
              revert TZxzyc
              revert TYxzyc
              revert TXxzyc
              revert Rxzyc
              revert Qxzyc
              revert Exzyc
              revert NZ
              revert NY
              revert NX
              revert c2
              revert n2
              revert A2
              revert vxzyc
              exact key
        · go_simp
          have hY : C < v0.heap.size := E0.lt
          have g9 := E0.rowne
          have Ey := PW.alloc E0 (.cells #[.slice none 0 0, .int .i64 0] 25)
          have TYy := Two.new v0 25 (.slice none 0 0) (.int .i64 0)
          generalize v0.alloc (.cells #[.slice none 0 0, .int .i64 0] 25) = vy at Ey TYy ⊢
          obtain ⟨NY, hNY⟩ : ∃ N, N = v0.heap.size := ⟨_, rfl⟩
          rw [← hNY] at hY TYy g9 ⊢
          clear hNY
          have Qy : vy.cell? ⟨g, off + k * 2, none⟩ = some (.int .i64 xb) ∧ vy.cell? ⟨g, off + k * 2 + 1, none⟩ = some (.int .i64 xp) ∧ vy.cell? ⟨C, 0, none⟩ = some (.int .i64 l) ∧ vy.cell? ⟨C, 1, none⟩ = some (.int .i64 u) ∧ vy.cell? ⟨C, 2, none⟩ = some (.int .i64 (q : Nat)) := And.intro (RdC.held HW.out Ey.bel0 rfl HXX.out).1 (And.intro (RdC.held HW.out Ey.bel0 rfl HXX.out).2 (PW.cells Ey))
          refine hK.out _ _ ?_ (fun hSx => ?_)
          · first | exact Qy | ((try dsimp only); go_keep)
          clear hK K hSx
          (try simp only [Act.put, List.setIfInBounds_toArray, List.set_cons_zero, List.set_cons_succ])
          refine wpAnyH_ready (rs := [11, 16, 18]) (by kernel_rfl) (by simp) ?_
          refine (AllReadyH.cons rfl (fun K hK => ?_) (AllReadyH.cons rfl (fun K hK => ?_) (AllReadyH.cons rfl (fun K hK => ?_) AllReadyH.nil)))
          · go_simp
            refine (HST.out _).mono ?_
            rintro e vyc ⟨A2, n2, c2, rfl, o2, y2⟩
            have hsz : C + 1 ≤ vy.heap.size := Ey.lt
            have Eyc := PW.on Ey y2
            have Ryc := own_base hsz o2
            have TYyc := TYy.on y2
            have Qyc : vyc.cell? ⟨g, off + k * 2, none⟩ = some (.int .i64 xb) ∧ vyc.cell? ⟨g, off + k * 2 + 1, none⟩ = some (.int .i64 xp) ∧ vyc.cell? ⟨C, 0, none⟩ = some (.int .i64 l) ∧ vyc.cell? ⟨C, 1, none⟩ = some (.int .i64 u) ∧ vyc.cell? ⟨C, 2, none⟩ = some (.int .i64 (q : Nat)) := And.intro (RdC.held HW.out Eyc.bel0 rfl HXX.out).1 (And.intro (RdC.held HW.out Eyc.bel0 rfl HXX.out).2 (PW.cells Eyc))
            clear o2 y2 hsz
            (try go_wp2_with fail)
            refine hK.out _ _ ?_ (fun hSx => ?_)
            · first | exact Qyc | ((try dsimp only); go_keep)
            clear hK K hSx Ey Qy TYy
            (try simp only [Act.put, List.setIfInBounds_toArray, List.set_cons_zero, List.set_cons_succ])
            refine wpAnyH_take (i := 12) (v := ?_) rfl (by kernel_rfl) (by kernel_rfl) (by kernel_rfl) (fun _ _ _ h => h) (Or.inl ⟨by rfl, ?_⟩) Qyc ?_
            rotate_left 1
            focus (intro wS hSw; (try dsimp only at hSw); go_simp; try with_reducible rfl)
            (try simp only [Act.put, List.setIfInBounds_toArray, List.set_cons_zero, List.set_cons_succ])
            refine wpAnyH_take (i := 13) (v := ?_) rfl (by kernel_rfl) (by kernel_rfl) (by kernel_rfl) (fun _ _ _ h => h) (Or.inl ⟨by rfl, ?_⟩) Qyc ?_
            rotate_left 1
            focus (intro wS hSw; (try dsimp only at hSw); go_simp; try with_reducible rfl)
            (try simp only [Act.put, List.setIfInBounds_toArray, List.set_cons_zero, List.set_cons_succ])
            refine wpAnyH_take (i := 14) (v := ?_) rfl (by kernel_rfl) (by kernel_rfl) (by kernel_rfl) (fun _ _ _ h => h) (Or.inl ⟨by rfl, ?_⟩) Qyc ?_
            rotate_left 1
            focus (intro wS hSw; (try dsimp only at hSw); go_simp; try with_reducible rfl)
            (try simp only [Act.put, List.setIfInBounds_toArray, List.set_cons_zero, List.set_cons_succ])
            refine wpAnyH_take (i := 15) (v := ?_) rfl (by kernel_rfl) (by kernel_rfl) (by kernel_rfl) (fun _ _ _ h => h) (Or.inl ⟨by rfl, ?_⟩) Qyc ?_
            rotate_left 1
            focus (intro wS hSw; (try dsimp only at hSw); go_simp; try with_reducible rfl)
            (try simp only [Act.put, List.setIfInBounds_toArray, List.set_cons_zero, List.set_cons_succ])
            refine wpAnyH_ready (rs := [16, 18]) (by kernel_rfl) (by simp) ?_
            refine (AllReadyH.cons rfl (fun K hK => ?_) (AllReadyH.cons rfl (fun K hK => ?_) AllReadyH.nil))
            · go_simp
              have hX : C < vyc.heap.size := Eyc.lt
              have Eycx := PW.alloc Eyc (.cells #[.int .i64 0, .int .i64 0, .int .i64 0] 50)
              have Rycx := own_on Ryc ((Below.refl _ _).alloc (Nat.le_refl _) (.cells #[.int .i64 0, .int .i64 0, .int .i64 0] 50))
              have TYycx := TYyc.alloc (.cells #[.int .i64 0, .int .i64 0, .int .i64 0] 50)
              have TXycx := Three.new vyc 50 (.int .i64 0) (.int .i64 0) (.int .i64 0)
              generalize vyc.alloc (.cells #[.int .i64 0, .int .i64 0, .int .i64 0] 50) = vycx at Eycx Rycx TXycx TYycx ⊢
              obtain ⟨NX, hNX⟩ : ∃ N, N = vyc.heap.size := ⟨_, rfl⟩
              rw [← hNX] at hX TXycx ⊢
              clear hNX
              have Qycx : vycx.cell? ⟨g, off + k * 2, none⟩ = some (.int .i64 xb) ∧ vycx.cell? ⟨g, off + k * 2 + 1, none⟩ = some (.int .i64 xp) ∧ vycx.cell? ⟨C, 0, none⟩ = some (.int .i64 l) ∧ vycx.cell? ⟨C, 1, none⟩ = some (.int .i64 u) ∧ vycx.cell? ⟨C, 2, none⟩ = some (.int .i64 (q : Nat)) := And.intro (RdC.held HW.out Eycx.bel0 rfl HXX.out).1 (And.intro (RdC.held HW.out Eycx.bel0 rfl HXX.out).2 (PW.cells Eycx))
              refine hK.out _ _ ?_ (fun hSx => ?_)
              · first | exact Qycx | ((try dsimp only); go_keep)
              clear hK K hSx Eyc Qyc Ryc TYyc
              (try simp only [Act.put, List.setIfInBounds_toArray, List.set_cons_zero, List.set_cons_succ])
              refine wpAnyH_ready (rs := [18]) (by kernel_rfl) (by simp) ?_
              refine (AllReadyH.cons rfl (fun K hK => ?_) AllReadyH.nil)
              go_simp
              have hZ : C < vycx.heap.size := Eycx.lt
              have Eycxz := PW.alloc Eycx (.cells #[.int .i64 0, .int .i64 0] 27)
              have Rycxz := own_on Rycx ((Below.refl _ _).alloc (Nat.le_refl _) (.cells #[.int .i64 0, .int .i64 0] 27))
              have TXycxz := TXycx.alloc (.cells #[.int .i64 0, .int .i64 0] 27)
              have TYycxz := TYycx.alloc (.cells #[.int .i64 0, .int .i64 0] 27)
              have TZycxz := Two.new vycx 27 (.int .i64 0) (.int .i64 0)
              generalize vycx.alloc (.cells #[.int .i64 0, .int .i64 0] 27) = vycxz at Eycxz Rycxz TXycxz TYycxz TZycxz ⊢
              obtain ⟨NZ, hNZ⟩ : ∃ N, N = vycx.heap.size := ⟨_, rfl⟩
              rw [← hNZ] at hZ TZycxz ⊢
              clear hNZ
              have Qycxz : vycxz.cell? ⟨g, off + k * 2, none⟩ = some (.int .i64 xb) ∧ vycxz.cell? ⟨g, off + k * 2 + 1, none⟩ = some (.int .i64 xp) ∧ vycxz.cell? ⟨C, 0, none⟩ = some (.int .i64 l) ∧ vycxz.cell? ⟨C, 1, none⟩ = some (.int .i64 u) ∧ vycxz.cell? ⟨C, 2, none⟩ = some (.int .i64 (q : Nat)) := And.intro (RdC.held HW.out Eycxz.bel0 rfl HXX.out).1 (And.intro (RdC.held HW.out Eycxz.bel0 rfl HXX.out).2 (PW.cells Eycxz))
              refine hK.out _ _ ?_ (fun hSx => ?_)
              · first | exact Qycxz | ((try dsimp only); go_keep)
              clear hK K hSx Eycx Qycx Rycx TXycx TYycx
              (try simp only [Act.put, List.setIfInBounds_toArray, List.set_cons_zero, List.set_cons_succ])
              refine anyH_listed (l2 := #[true, true, true, true, true, true, true, true, true, true, true, true, true, true, true, true, true, true, true, false, false, false]) (by kernel_rfl) ?_
              revert g9
              revert hZ
              revert hY
              revert hX
              revert TZycxz
              revert TYycxz
              revert TXycxz
              revert Rycxz
              revert Qycxz
              revert Eycxz
              revert NZ
              revert NY
              revert NX
              revert c2
              revert n2
              revert A2
              revert vycxz
              exact key
            · go_simp
              have hZ : C < vyc.heap.size := Eyc.lt
              have Eycz := PW.alloc Eyc (.cells #[.int .i64 0, .int .i64 0] 27)
              have Rycz := own_on Ryc ((Below.refl _ _).alloc (Nat.le_refl _) (.cells #[.int .i64 0, .int .i64 0] 27))
              have TYycz := TYyc.alloc (.cells #[.int .i64 0, .int .i64 0] 27)
              have TZycz := Two.new vyc 27 (.int .i64 0) (.int .i64 0)
              generalize vyc.alloc (.cells #[.int .i64 0, .int .i64 0] 27) = vycz at Eycz Rycz TYycz TZycz ⊢
              obtain ⟨NZ, hNZ⟩ : ∃ N, N = vyc.heap.size := ⟨_, rfl⟩
              rw [← hNZ] at hZ TZycz ⊢
              clear hNZ
              have Qycz : vycz.cell? ⟨g, off + k * 2, none⟩ = some (.int .i64 xb) ∧ vycz.cell? ⟨g, off + k * 2 + 1, none⟩ = some (.int .i64 xp) ∧ vycz.cell? ⟨C, 0, none⟩ = some (.int .i64 l) ∧ vycz.cell? ⟨C, 1, none⟩ = some (.int .i64 u) ∧ vycz.cell? ⟨C, 2, none⟩ = some (.int .i64 (q : Nat)) := And.intro (RdC.held HW.out Eycz.bel0 rfl HXX.out).1 (And.intro (RdC.held HW.out Eycz.bel0 rfl HXX.out).2 (PW.cells Eycz))
              refine hK.out _ _ ?_ (fun hSx => ?_)
              · first | exact Qycz | ((try dsimp only); go_keep)
              clear hK K hSx Eyc Qyc Ryc TYyc
              (try simp only [Act.put, List.setIfInBounds_toArray, List.set_cons_zero, List.set_cons_succ])
              refine wpAnyH_ready (rs := [16]) (by kernel_rfl) (by simp) ?_
              refine (AllReadyH.cons rfl (fun K hK => ?_) AllReadyH.nil)
              go_simp
              have hX : C < vycz.heap.size := Eycz.lt
              have Eyczx := PW.alloc Eycz (.cells #[.int .i64 0, .int .i64 0, .int .i64 0] 50)
              have Ryczx := own_on Rycz ((Below.refl _ _).alloc (Nat.le_refl _) (.cells #[.int .i64 0, .int .i64 0, .int .i64 0] 50))
              have TYyczx := TYycz.alloc (.cells #[.int .i64 0, .int .i64 0, .int .i64 0] 50)
              have TZyczx := TZycz.alloc (.cells #[.int .i64 0, .int .i64 0, .int .i64 0] 50)
              have TXyczx := Three.new vycz 50 (.int .i64 0) (.int .i64 0) (.int .i64 0)
              generalize vycz.alloc (.cells #[.int .i64 0, .int .i64 0, .int .i64 0] 50) = vyczx at Eyczx Ryczx TXyczx TYyczx TZyczx ⊢
              obtain ⟨NX, hNX⟩ : ∃ N, N = vycz.heap.size := ⟨_, rfl⟩
              rw [← hNX] at hX TXyczx ⊢
              clear hNX
              have Qyczx : vyczx.cell? ⟨g, off + k * 2, none⟩ = some (.int .i64 xb) ∧ vyczx.cell? ⟨g, off + k * 2 + 1, none⟩ = some (.int .i64 xp) ∧ vyczx.cell? ⟨C, 0, none⟩ = some (.int .i64 l) ∧ vyczx.cell? ⟨C, 1, none⟩ = some (.int .i64 u) ∧ vyczx.cell? ⟨C, 2, none⟩ = some (.int .i64 (q : Nat)) := And.intro (RdC.held HW.out Eyczx.bel0 rfl HXX.out).1 (And.intro (RdC.held HW.out Eyczx.bel0 rfl HXX.out).2 (PW.cells Eyczx))
              refine hK.out _ _ ?_ (fun hSx => ?_)
              · first | exact Qyczx | ((try dsimp only); go_keep)
              clear hK K hSx Eycz Qycz Rycz TYycz TZycz
              (try simp only [Act.put, List.setIfInBounds_toArray, List.set_cons_zero, List.set_cons_succ])
              refine anyH_listed (l2 := #[true, true, true, true, true, true, true, true, true, true, true, true, true, true, true, true, true, true, true, false, false, false]) (by kernel_rfl) ?_
              revert g9
              revert hZ
              revert hY
              revert hX
              revert TZyczx
              revert TYyczx
              revert TXyczx
              revert Ryczx
              revert Qyczx
              revert Eyczx
              revert NZ
              revert NY
              revert NX
              revert c2
              revert n2
              revert A2
              revert vyczx
              exact key
          · go_simp
            have hX : C < vy.heap.size := Ey.lt
            have Eyx := PW.alloc Ey (.cells #[.int .i64 0, .int .i64 0, .int .i64 0] 50)
            have TYyx := TYy.alloc (.cells #[.int .i64 0, .int .i64 0, .int .i64 0] 50)
            have TXyx := Three.new vy 50 (.int .i64 0) (.int .i64 0) (.int .i64 0)
            generalize vy.alloc (.cells #[.int .i64 0, .int .i64 0, .int .i64 0] 50) = vyx at Eyx TXyx TYyx ⊢
            obtain ⟨NX, hNX⟩ : ∃ N, N = vy.heap.size := ⟨_, rfl⟩
            rw [← hNX] at hX TXyx ⊢
            clear hNX
            have Qyx : vyx.cell? ⟨g, off + k * 2, none⟩ = some (.int .i64 xb) ∧ vyx.cell? ⟨g, off + k * 2 + 1, none⟩ = some (.int .i64 xp) ∧ vyx.cell? ⟨C, 0, none⟩ = some (.int .i64 l) ∧ vyx.cell? ⟨C, 1, none⟩ = some (.int .i64 u) ∧ vyx.cell? ⟨C, 2, none⟩ = some (.int .i64 (q : Nat)) := And.intro (RdC.held HW.out Eyx.bel0 rfl HXX.out).1 (And.intro (RdC.held HW.out Eyx.bel0 rfl HXX.out).2 (PW.cells Eyx))
            refine hK.out _ _ ?_ (fun hSx => ?_)
            · first | exact Qyx | ((try dsimp only); go_keep)
            clear hK K hSx Ey Qy TYy
            (try simp only [Act.put, List.setIfInBounds_toArray, List.set_cons_zero, List.set_cons_succ])
            refine wpAnyH_ready (rs := [11, 18]) (by kernel_rfl) (by simp) ?_
            refine (AllReadyH.cons rfl (fun K hK => ?_) (AllReadyH.cons rfl (fun K hK => ?_) AllReadyH.nil))
            · go_simp
              refine (HST.out _).mono ?_
              rintro e vyxc ⟨A2, n2, c2, rfl, o2, y2⟩
              have hsz : C + 1 ≤ vyx.heap.size := Eyx.lt
              have Eyxc := PW.on Eyx y2
              have Ryxc := own_base hsz o2
              have TXyxc := TXyx.on y2
              have TYyxc := TYyx.on y2
              have Qyxc : vyxc.cell? ⟨g, off + k * 2, none⟩ = some (.int .i64 xb) ∧ vyxc.cell? ⟨g, off + k * 2 + 1, none⟩ = some (.int .i64 xp) ∧ vyxc.cell? ⟨C, 0, none⟩ = some (.int .i64 l) ∧ vyxc.cell? ⟨C, 1, none⟩ = some (.int .i64 u) ∧ vyxc.cell? ⟨C, 2, none⟩ = some (.int .i64 (q : Nat)) := And.intro (RdC.held HW.out Eyxc.bel0 rfl HXX.out).1 (And.intro (RdC.held HW.out Eyxc.bel0 rfl HXX.out).2 (PW.cells Eyxc))
              clear o2 y2 hsz
              (try go_wp2_with fail)
              refine hK.out _ _ ?_ (fun hSx => ?_)
              · first | exact Qyxc | ((try dsimp only); go_keep)
              clear hK K hSx Eyx Qyx TXyx TYyx
              (try simp only [Act.put, List.setIfInBounds_toArray, List.set_cons_zero, List.set_cons_succ])
              refine wpAnyH_take (i := 12) (v := ?_) rfl (by kernel_rfl) (by kernel_rfl) (by kernel_rfl) (fun _ _ _ h => h) (Or.inl ⟨by rfl, ?_⟩) Qyxc ?_
              rotate_left 1
              focus (intro wS hSw; (try dsimp only at hSw); go_simp; try with_reducible rfl)
              (try simp only [Act.put, List.setIfInBounds_toArray, List.set_cons_zero, List.set_cons_succ])
              refine wpAnyH_take (i := 13) (v := ?_) rfl (by kernel_rfl) (by kernel_rfl) (by kernel_rfl) (fun _ _ _ h => h) (Or.inl ⟨by rfl, ?_⟩) Qyxc ?_
              rotate_left 1
              focus (intro wS hSw; (try dsimp only at hSw); go_simp; try with_reducible rfl)
              (try simp only [Act.put, List.setIfInBounds_toArray, List.set_cons_zero, List.set_cons_succ])
              refine wpAnyH_take (i := 14) (v := ?_) rfl (by kernel_rfl) (by kernel_rfl) (by kernel_rfl) (fun _ _ _ h => h) (Or.inl ⟨by rfl, ?_⟩) Qyxc ?_
              rotate_left 1
              focus (intro wS hSw; (try dsimp only at hSw); go_simp; try with_reducible rfl)
              (try simp only [Act.put, List.setIfInBounds_toArray, List.set_cons_zero, List.set_cons_succ])
              refine wpAnyH_take (i := 15) (v := ?_) rfl (by kernel_rfl) (by kernel_rfl) (by kernel_rfl) (fun _ _ _ h => h) (Or.inl ⟨by rfl, ?_⟩) Qyxc ?_
              rotate_left 1
              focus (intro wS hSw; (try dsimp only at hSw); go_simp; try with_reducible rfl)
              (try simp only [Act.put, List.setIfInBounds_toArray, List.set_cons_zero, List.set_cons_succ])
              refine wpAnyH_ready (rs := [18]) (by kernel_rfl) (by simp) ?_
              refine (AllReadyH.cons rfl (fun K hK => ?_) AllReadyH.nil)
              go_simp
              have hZ : C < vyxc.heap.size := Eyxc.lt
              have Eyxcz := PW.alloc Eyxc (.cells #[.int .i64 0, .int .i64 0] 27)
              have Ryxcz := own_on Ryxc ((Below.refl _ _).alloc (Nat.le_refl _) (.cells #[.int .i64 0, .int .i64 0] 27))
              have TXyxcz := TXyxc.alloc (.cells #[.int .i64 0, .int .i64 0] 27)
              have TYyxcz := TYyxc.alloc (.cells #[.int .i64 0, .int .i64 0] 27)
              have TZyxcz := Two.new vyxc 27 (.int .i64 0) (.int .i64 0)
              generalize vyxc.alloc (.cells #[.int .i64 0, .int .i64 0] 27) = vyxcz at Eyxcz Ryxcz TXyxcz TYyxcz TZyxcz ⊢
              obtain ⟨NZ, hNZ⟩ : ∃ N, N = vyxc.heap.size := ⟨_, rfl⟩
              rw [← hNZ] at hZ TZyxcz ⊢
              clear hNZ
              have Qyxcz : vyxcz.cell? ⟨g, off + k * 2, none⟩ = some (.int .i64 xb) ∧ vyxcz.cell? ⟨g, off + k * 2 + 1, none⟩ = some (.int .i64 xp) ∧ vyxcz.cell? ⟨C, 0, none⟩ = some (.int .i64 l) ∧ vyxcz.cell? ⟨C, 1, none⟩ = some (.int .i64 u) ∧ vyxcz.cell? ⟨C, 2, none⟩ = some (.int .i64 (q : Nat)) := And.intro (RdC.held HW.out Eyxcz.bel0 rfl HXX.out).1 (And.intro (RdC.held HW.out Eyxcz.bel0 rfl HXX.out).2 (PW.cells Eyxcz))
              refine hK.out _ _ ?_ (fun hSx => ?_)
              · first | exact Qyxcz | ((try dsimp only); go_keep)
              clear hK K hSx Eyxc Qyxc Ryxc TXyxc TYyxc
              (try simp only [Act.put, List.setIfInBounds_toArray, List.set_cons_zero, List.set_cons_succ])
              refine anyH_listed (l2 := #[true, true, true, true, true, true, true, true, true, true, true, true, true, true, true, true, true, true, true, false, false, false]) (by kernel_rfl) ?_
              revert g9
              revert hZ
              revert hY
              revert hX
              revert TZyxcz
              revert TYyxcz
              revert TXyxcz
              revert Ryxcz
              revert Qyxcz
              revert Eyxcz
              revert NZ
              revert NY
              revert NX
              revert c2
              revert n2
              revert A2
              revert vyxcz
              exact key
            · go_simp
              have hZ : C < vyx.heap.size := Eyx.lt
              have Eyxz := PW.alloc Eyx (.cells #[.int .i64 0, .int .i64 0] 27)
              have TXyxz := TXyx.alloc (.cells #[.int .i64 0, .int .i64 0] 27)
              have TYyxz := TYyx.alloc (.cells #[.int .i64 0, .int .i64 0] 27)
              have TZyxz := Two.new vyx 27 (.int .i64 0) (.int .i64 0)
              generalize vyx.alloc (.cells #[.int .i64 0, .int .i64 0] 27) = vyxz at Eyxz TXyxz TYyxz TZyxz ⊢
              obtain ⟨NZ, hNZ⟩ : ∃ N, N = vyx.heap.size := ⟨_, rfl⟩
              rw [← hNZ] at hZ TZyxz ⊢
              clear hNZ
              have Qyxz : vyxz.cell? ⟨g, off + k * 2, none⟩ = some (.int .i64 xb) ∧ vyxz.cell? ⟨g, off + k * 2 + 1, none⟩ = some (.int .i64 xp) ∧ vyxz.cell? ⟨C, 0, none⟩ = some (.int .i64 l) ∧ vyxz.cell? ⟨C, 1, none⟩ = some (.int .i64 u) ∧ vyxz.cell? ⟨C, 2, none⟩ = some (.int .i64 (q : Nat)) := And.intro (RdC.held HW.out Eyxz.bel0 rfl HXX.out).1 (And.intro (RdC.held HW.out Eyxz.bel0 rfl HXX.out).2 (PW.cells Eyxz))
              refine hK.out _ _ ?_ (fun hSx => ?_)
              · first | exact Qyxz | ((try dsimp only); go_keep)
              clear hK K hSx Eyx Qyx TXyx TYyx
              (try simp only [Act.put, List.setIfInBounds_toArray, List.set_cons_zero, List.set_cons_succ])
              refine wpAnyH_ready (rs := [11]) (by kernel_rfl) (by simp) ?_
              refine (AllReadyH.cons rfl (fun K hK => ?_) AllReadyH.nil)
              go_simp
              refine (HST.out _).mono ?_
              rintro e vyxzc ⟨A2, n2, c2, rfl, o2, y2⟩
              have hsz : C + 1 ≤ vyxz.heap.size := Eyxz.lt
              have Eyxzc := PW.on Eyxz y2
              have Ryxzc := own_base hsz o2
              have TXyxzc := TXyxz.on y2
              have TYyxzc := TYyxz.on y2
              have TZyxzc := TZyxz.on y2
              have Qyxzc : vyxzc.cell? ⟨g, off + k * 2, none⟩ = some (.int .i64 xb) ∧ vyxzc.cell? ⟨g, off + k * 2 + 1, none⟩ = some (.int .i64 xp) ∧ vyxzc.cell? ⟨C, 0, none⟩ = some (.int .i64 l) ∧ vyxzc.cell? ⟨C, 1, none⟩ = some (.int .i64 u) ∧ vyxzc.cell? ⟨C, 2, none⟩ = some (.int .i64 (q : Nat)) := And.intro (RdC.held HW.out Eyxzc.bel0 rfl HXX.out).1 (And.intro (RdC.held HW.out Eyxzc.bel0 rfl HXX.out).2 (PW.cells Eyxzc))
              clear o2 y2 hsz
              (try go_wp2_with fail)
              refine hK.out _ _ ?_ (fun hSx => ?_)
              · first | exact Qyxzc | ((try dsimp only); go_keep)
              clear hK K hSx Eyxz Qyxz TXyxz TYyxz TZyxz
              (try simp only [Act.put, List.setIfInBounds_toArray, List.set_cons_zero, List.set_cons_succ])
              refine wpAnyH_take (i := 12) (v := ?_) rfl (by kernel_rfl) (by kernel_rfl) (by kernel_rfl) (fun _ _ _ h => h) (Or.inl ⟨by rfl, ?_⟩) Qyxzc ?_
              rotate_left 1
              focus (intro wS hSw; (try dsimp only at hSw); go_simp; try with_reducible rfl)
              (try simp only [Act.put, List.setIfInBounds_toArray, List.set_cons_zero, List.set_cons_succ])
              refine wpAnyH_take (i := 13) (v := ?_) rfl (by kernel_rfl) (by kernel_rfl) (by kernel_rfl) (fun _ _ _ h => h) (Or.inl ⟨by rfl, ?_⟩) Qyxzc ?_
              rotate_left 1
              focus (intro wS hSw; (try dsimp only at hSw); go_simp; try with_reducible rfl)
              (try simp only [Act.put, List.setIfInBounds_toArray, List.set_cons_zero, List.set_cons_succ])
              refine wpAnyH_take (i := 14) (v := ?_) rfl (by kernel_rfl) (by kernel_rfl) (by kernel_rfl) (fun _ _ _ h => h) (Or.inl ⟨by rfl, ?_⟩) Qyxzc ?_
              rotate_left 1
              focus (intro wS hSw; (try dsimp only at hSw); go_simp; try with_reducible rfl)
              (try simp only [Act.put, List.setIfInBounds_toArray, List.set_cons_zero, List.set_cons_succ])
              refine wpAnyH_take (i := 15) (v := ?_) rfl (by kernel_rfl) (by kernel_rfl) (by kernel_rfl) (fun _ _ _ h => h) (Or.inl ⟨by rfl, ?_⟩) Qyxzc ?_
              rotate_left 1
              focus (intro wS hSw; (try dsimp only at hSw); go_simp; try with_reducible rfl)
              (try simp only [Act.put, List.setIfInBounds_toArray, List.set_cons_zero, List.set_cons_succ])
              refine anyH_listed (l2 := #[true, true, true, true, true, true, true, true, true, true, true, true, true, true, true, true, true, true, true, false, false, false]) (by kernel_rfl) ?_
              revert g9
              revert hZ
              revert hY
              revert hX
              revert TZyxzc
              revert TYyxzc
              revert TXyxzc
              revert Ryxzc
              revert Qyxzc
              revert Eyxzc
              revert NZ
              revert NY
              revert NX
              revert c2
              revert n2
              revert A2
              revert vyxzc
              exact key
          · go_simp
            have hZ : C < vy.heap.size := Ey.lt
            have Eyz := PW.alloc Ey (.cells #[.int .i64 0, .int .i64 0] 27)
            have TYyz := TYy.alloc (.cells #[.int .i64 0, .int .i64 0] 27)
            have TZyz := Two.new vy 27 (.int .i64 0) (.int .i64 0)
            generalize vy.alloc (.cells #[.int .i64 0, .int .i64 0] 27) = vyz at Eyz TYyz TZyz ⊢
            obtain ⟨NZ, hNZ⟩ : ∃ N, N = vy.heap.size := ⟨_, rfl⟩
            rw [← hNZ] at hZ TZyz ⊢
            clear hNZ
            have Qyz : vyz.cell? ⟨g, off + k * 2, none⟩ = some (.int .i64 xb) ∧ vyz.cell? ⟨g, off + k * 2 + 1, none⟩ = some (.int .i64 xp) ∧ vyz.cell? ⟨C, 0, none⟩ = some (.int .i64 l) ∧ vyz.cell? ⟨C, 1, none⟩ = some (.int .i64 u) ∧ vyz.cell? ⟨C, 2, none⟩ = some (.int .i64 (q : Nat)) := And.intro (RdC.held HW.out Eyz.bel0 rfl HXX.out).1 (And.intro (RdC.held HW.out Eyz.bel0 rfl HXX.out).2 (PW.cells Eyz))
            refine hK.out _ _ ?_ (fun hSx => ?_)
            · first | exact Qyz | ((try dsimp only); go_keep)
            clear hK K hSx Ey Qy TYy
            (try simp only [Act.put, List.setIfInBounds_toArray, List.set_cons_zero, List.set_cons_succ])
            refine wpAnyH_ready (rs := [11, 16]) (by kernel_rfl) (by simp) ?_
            refine (AllReadyH.cons rfl (fun K hK => ?_) (AllReadyH.cons rfl (fun K hK => ?_) AllReadyH.nil))
            · go_simp
              refine (HST.out _).mono ?_
              rintro e vyzc ⟨A2, n2, c2, rfl, o2, y2⟩
              have hsz : C + 1 ≤ vyz.heap.size := Eyz.lt
              have Eyzc := PW.on Eyz y2
              have Ryzc := own_base hsz o2
              have TYyzc := TYyz.on y2
              have TZyzc := TZyz.on y2
              have Qyzc : vyzc.cell? ⟨g, off + k * 2, none⟩ = some (.int .i64 xb) ∧ vyzc.cell? ⟨g, off + k * 2 + 1, none⟩ = some (.int .i64 xp) ∧ vyzc.cell? ⟨C, 0, none⟩ = some (.int .i64 l) ∧ vyzc.cell? ⟨C, 1, none⟩ = some (.int .i64 u) ∧ vyzc.cell? ⟨C, 2, none⟩ = some (.int .i64 (q : Nat)) := And.intro (RdC.held HW.out Eyzc.bel0 rfl HXX.out).1 (And.intro (RdC.held HW.out Eyzc.bel0 rfl HXX.out).2 (PW.cells Eyzc))
              clear o2 y2 hsz
              (try go_wp2_with fail)
              refine hK.out _ _ ?_ (fun hSx => ?_)
              · first | exact Qyzc | ((try dsimp only); go_keep)
              clear hK K hSx Eyz Qyz TYyz TZyz
              (try simp only [Act.put, List.setIfInBounds_toArray, List.set_cons_zero, List.set_cons_succ])
              refine wpAnyH_take (i := 12) (v := ?_) rfl (by kernel_rfl) (by kernel_rfl) (by kernel_rfl) (fun _ _ _ h => h) (Or.inl ⟨by rfl, ?_⟩) Qyzc ?_
              rotate_left 1
              focus (intro wS hSw; (try dsimp only at hSw); go_simp; try with_reducible rfl)
              (try simp only [Act.put, List.setIfInBounds_toArray, List.set_cons_zero, List.set_cons_succ])
              refine wpAnyH_take (i := 13) (v := ?_) rfl (by kernel_rfl) (by kernel_rfl) (by kernel_rfl) (fun _ _ _ h => h) (Or.inl ⟨by rfl, ?_⟩) Qyzc ?_
              rotate_left 1
              focus (intro wS hSw; (try dsimp only at hSw); go_simp; try with_reducible rfl)
              (try simp only [Act.put, List.setIfInBounds_toArray, List.set_cons_zero, List.set_cons_succ])
              refine wpAnyH_take (i := 14) (v := ?_) rfl (by kernel_rfl) (by kernel_rfl) (by kernel_rfl) (fun _ _ _ h => h) (Or.inl ⟨by rfl, ?_⟩) Qyzc ?_
              rotate_left 1
              focus (intro wS hSw; (try dsimp only at hSw); go_simp; try with_reducible rfl)
              (try simp only [Act.put, List.setIfInBounds_toArray, List.set_cons_zero, List.set_cons_succ])
              refine wpAnyH_take (i := 15) (v := ?_) rfl (by kernel_rfl) (by kernel_rfl) (by kernel_rfl) (fun _ _ _ h => h) (Or.inl ⟨by rfl, ?_⟩) Qyzc ?_
              rotate_left 1
              focus (intro wS hSw; (try dsimp only at hSw); go_simp; try with_reducible rfl)
              (try simp only [Act.put, List.setIfInBounds_toArray, List.set_cons_zero, List.set_cons_succ])
              refine wpAnyH_ready (rs := [16]) (by kernel_rfl) (by simp) ?_
              refine (AllReadyH.cons rfl (fun K hK => ?_) AllReadyH.nil)
              go_simp
              have hX : C < vyzc.heap.size := Eyzc.lt
              have Eyzcx := PW.alloc Eyzc (.cells #[.int .i64 0, .int .i64 0, .int .i64 0] 50)
              have Ryzcx := own_on Ryzc ((Below.refl _ _).alloc (Nat.le_refl _) (.cells #[.int .i64 0, .int .i64 0, .int .i64 0] 50))
              have TYyzcx := TYyzc.alloc (.cells #[.int .i64 0, .int .i64 0, .int .i64 0] 50)
              have TZyzcx := TZyzc.alloc (.cells #[.int .i64 0, .int .i64 0, .int .i64 0] 50)
              have TXyzcx := Three.new vyzc 50 (.int .i64 0) (.int .i64 0) (.int .i64 0)
              generalize vyzc.alloc (.cells #[.int .i64 0, .int .i64 0, .int .i64 0] 50) = vyzcx at Eyzcx Ryzcx TXyzcx TYyzcx TZyzcx ⊢
              obtain ⟨NX, hNX⟩ : ∃ N, N = vyzc.heap.size := ⟨_, rfl⟩
              rw [← hNX] at hX TXyzcx ⊢
              clear hNX
              have Qyzcx : vyzcx.cell? ⟨g, off + k * 2, none⟩ = some (.int .i64 xb) ∧ vyzcx.cell? ⟨g, off + k * 2 + 1, none⟩ = some (.int .i64 xp) ∧ vyzcx.cell? ⟨C, 0, none⟩ = some (.int .i64 l) ∧ vyzcx.cell? ⟨C, 1, none⟩ = some (.int .i64 u) ∧ vyzcx.cell? ⟨C, 2, none⟩ = some (.int .i64 (q : Nat)) := And.intro (RdC.held HW.out Eyzcx.bel0 rfl HXX.out).1 (And.intro (RdC.held HW.out Eyzcx.bel0 rfl HXX.out).2 (PW.cells Eyzcx))
              refine hK.out _ _ ?_ (fun hSx => ?_)
              · first | exact Qyzcx | ((try dsimp only); go_keep)
              clear hK K hSx Eyzc Qyzc Ryzc TYyzc TZyzc
              (try simp only [Act.put, List.setIfInBounds_toArray, List.set_cons_zero, List.set_cons_succ])
              refine anyH_listed (l2 := #[true, true, true, true, true, true, true, true, true, true, true, true, true, true, true, true, true, true, true, false, false, false]) (by kernel_rfl) ?_
              revert g9
              revert hZ
              revert hY
              revert hX
              revert TZyzcx
              revert TYyzcx
              revert TXyzcx
              revert Ryzcx
              revert Qyzcx
              revert Eyzcx
              revert NZ
              revert NY
              revert NX
              revert c2
              revert n2
              revert A2
              revert vyzcx
              exact key
            · go_simp
              have hX : C < vyz.heap.size := Eyz.lt
              have Eyzx := PW.alloc Eyz (.cells #[.int .i64 0, .int .i64 0, .int .i64 0] 50)
              have TYyzx := TYyz.alloc (.cells #[.int .i64 0, .int .i64 0, .int .i64 0] 50)
              have TZyzx := TZyz.alloc (.cells #[.int .i64 0, .int .i64 0, .int .i64 0] 50)
              have TXyzx := Three.new vyz 50 (.int .i64 0) (.int .i64 0) (.int .i64 0)
              generalize vyz.alloc (.cells #[.int .i64 0, .int .i64 0, .int .i64 0] 50) = vyzx at Eyzx TXyzx TYyzx TZyzx ⊢
              obtain ⟨NX, hNX⟩ : ∃ N, N = vyz.heap.size := ⟨_, rfl⟩
              rw [← hNX] at hX TXyzx ⊢
              clear hNX
              have Qyzx : vyzx.cell? ⟨g, off + k * 2, none⟩ = some (.int .i64 xb) ∧ vyzx.cell? ⟨g, off + k * 2 + 1, none⟩ = some (.int .i64 xp) ∧ vyzx.cell? ⟨C, 0, none⟩ = some (.int .i64 l) ∧ vyzx.cell? ⟨C, 1, none⟩ = some (.int .i64 u) ∧ vyzx.cell? ⟨C, 2, none⟩ = some (.int .i64 (q : Nat)) := And.intro (RdC.held HW.out Eyzx.bel0 rfl HXX.out).1 (And.intro (RdC.held HW.out Eyzx.bel0 rfl HXX.out).2 (PW.cells Eyzx))
              refine hK.out _ _ ?_ (fun hSx => ?_)
              · first | exact Qyzx | ((try dsimp only); go_keep)
              clear hK K hSx Eyz Qyz TYyz TZyz
              (try simp only [Act.put, List.setIfInBounds_toArray, List.set_cons_zero, List.set_cons_succ])
              refine wpAnyH_ready (rs := [11]) (by kernel_rfl) (by simp) ?_
              refine (AllReadyH.cons rfl (fun K hK => ?_) AllReadyH.nil)
              go_simp
              refine (HST.out _).mono ?_
              rintro e vyzxc ⟨A2, n2, c2, rfl, o2, y2⟩
              have hsz : C + 1 ≤ vyzx.heap.size := Eyzx.lt
              have Eyzxc := PW.on Eyzx y2
              have Ryzxc := own_base hsz o2
              have TXyzxc := TXyzx.on y2
              have TYyzxc := TYyzx.on y2
              have TZyzxc := TZyzx.on y2
              have Qyzxc : vyzxc.cell? ⟨g, off + k * 2, none⟩ = some (.int .i64 xb) ∧ vyzxc.cell? ⟨g, off + k * 2 + 1, none⟩ = some (.int .i64 xp) ∧ vyzxc.cell? ⟨C, 0, none⟩ = some (.int .i64 l) ∧ vyzxc.cell? ⟨C, 1, none⟩ = some (.int .i64 u) ∧ vyzxc.cell? ⟨C, 2, none⟩ = some (.int .i64 (q : Nat)) := And.intro (RdC.held HW.out Eyzxc.bel0 rfl HXX.out).1 (And.intro (RdC.held HW.out Eyzxc.bel0 rfl HXX.out).2 (PW.cells Eyzxc))
              clear o2 y2 hsz
              (try go_wp2_with fail)
              refine hK.out _ _ ?_ (fun hSx => ?_)
              · first | exact Qyzxc | ((try dsimp only); go_keep)
              clear hK K hSx Eyzx Qyzx TXyzx TYyzx TZyzx
              (try simp only [Act.put, List.setIfInBounds_toArray, List.set_cons_zero, List.set_cons_succ])
              refine wpAnyH_take (i := 12) (v := ?_) rfl (by kernel_rfl) (by kernel_rfl) (by kernel_rfl) (fun _ _ _ h => h) (Or.inl ⟨by rfl, ?_⟩) Qyzxc ?_
              rotate_left 1
              focus (intro wS hSw; (try dsimp only at hSw); go_simp; try with_reducible rfl)
              (try simp only [Act.put, List.setIfInBounds_toArray, List.set_cons_zero, List.set_cons_succ])
              refine wpAnyH_take (i := 13) (v := ?_) rfl (by kernel_rfl) (by kernel_rfl) (by kernel_rfl) (fun _ _ _ h => h) (Or.inl ⟨by rfl, ?_⟩) Qyzxc ?_
              rotate_left 1
              focus (intro wS hSw; (try dsimp only at hSw); go_simp; try with_reducible rfl)
              (try simp only [Act.put, List.setIfInBounds_toArray, List.set_cons_zero, List.set_cons_succ])
              refine wpAnyH_take (i := 14) (v := ?_) rfl (by kernel_rfl) (by kernel_rfl) (by kernel_rfl) (fun _ _ _ h => h) (Or.inl ⟨by rfl, ?_⟩) Qyzxc ?_
              rotate_left 1
              focus (intro wS hSw; (try dsimp only at hSw); go_simp; try with_reducible rfl)
              (try simp only [Act.put, List.setIfInBounds_toArray, List.set_cons_zero, List.set_cons_succ])
              refine wpAnyH_take (i := 15) (v := ?_) rfl (by kernel_rfl) (by kernel_rfl) (by kernel_rfl) (fun _ _ _ h => h) (Or.inl ⟨by rfl, ?_⟩) Qyzxc ?_
              rotate_left 1
              focus (intro wS hSw; (try dsimp only at hSw); go_simp; try with_reducible rfl)
              (try simp only [Act.put, List.setIfInBounds_toArray, List.set_cons_zero, List.set_cons_succ])
              refine anyH_listed (l2 := #[true, true, true, true, true, true, true, true, true, true, true, true, true, true, true, true, true, true, true, false, false, false]) (by kernel_rfl) ?_
              revert g9
              revert hZ
              revert hY
              revert hX
              revert TZyzxc
              revert TYyzxc
              revert TXyzxc
              revert Ryzxc
              revert Qyzxc
              revert Eyzxc
              revert NZ
              revert NY
              revert NX
              revert c2
              revert n2
              revert A2
              revert vyzxc
              exact key
        · go_simp
          have hZ : C < v0.heap.size := E0.lt
          have Ez := PW.alloc E0 (.cells #[.int .i64 0, .int .i64 0] 27)
          have TZz := Two.new v0 27 (.int .i64 0) (.int .i64 0)
          generalize v0.alloc (.cells #[.int .i64 0, .int .i64 0] 27) = vz at Ez TZz ⊢
          obtain ⟨NZ, hNZ⟩ : ∃ N, N = v0.heap.size := ⟨_, rfl⟩
          rw [← hNZ] at hZ TZz ⊢
          clear hNZ
          have Qz : vz.cell? ⟨g, off + k * 2, none⟩ = some (.int .i64 xb) ∧ vz.cell? ⟨g, off + k * 2 + 1, none⟩ = some (.int .i64 xp) ∧ vz.cell? ⟨C, 0, none⟩ = some (.int .i64 l) ∧ vz.cell? ⟨C, 1, none⟩ = some (.int .i64 u) ∧ vz.cell? ⟨C, 2, none⟩ = some (.int .i64 (q : Nat)) := And.intro (RdC.held HW.out Ez.bel0 rfl HXX.out).1 (And.intro (RdC.held HW.out Ez.bel0 rfl HXX.out).2 (PW.cells Ez))
          refine hK.out _ _ ?_ (fun hSx => ?_)
          · first | exact Qz | ((try dsimp only); go_keep)
          clear hK K hSx
          (try simp only [Act.put, List.setIfInBounds_toArray, List.set_cons_zero, List.set_cons_succ])
          refine wpAnyH_ready (rs := [11, 16, 17]) (by kernel_rfl) (by simp) ?_
          refine (AllReadyH.cons rfl (fun K hK => ?_) (AllReadyH.cons rfl (fun K hK => ?_) (AllReadyH.cons rfl (fun K hK => ?_) AllReadyH.nil)))
          · go_simp
            refine (HST.out _).mono ?_
            rintro e vzc ⟨A2, n2, c2, rfl, o2, y2⟩
            have hsz : C + 1 ≤ vz.heap.size := Ez.lt
            have Ezc := PW.on Ez y2
            have Rzc := own_base hsz o2
            have TZzc := TZz.on y2
            have Qzc : vzc.cell? ⟨g, off + k * 2, none⟩ = some (.int .i64 xb) ∧ vzc.cell? ⟨g, off + k * 2 + 1, none⟩ = some (.int .i64 xp) ∧ vzc.cell? ⟨C, 0, none⟩ = some (.int .i64 l) ∧ vzc.cell? ⟨C, 1, none⟩ = some (.int .i64 u) ∧ vzc.cell? ⟨C, 2, none⟩ = some (.int .i64 (q : Nat)) := And.intro (RdC.held HW.out Ezc.bel0 rfl HXX.out).1 (And.intro (RdC.held HW.out Ezc.bel0 rfl HXX.out).2 (PW.cells Ezc))
            clear o2 y2 hsz
            (try go_wp2_with fail)
            refine hK.out _ _ ?_ (fun hSx => ?_)
            · first | exact Qzc | ((try dsimp only); go_keep)
            clear hK K hSx Ez Qz TZz
            (try simp only [Act.put, List.setIfInBounds_toArray, List.set_cons_zero, List.set_cons_succ])
            refine wpAnyH_take (i := 12) (v := ?_) rfl (by kernel_rfl) (by kernel_rfl) (by kernel_rfl) (fun _ _ _ h => h) (Or.inl ⟨by rfl, ?_⟩) Qzc ?_
            rotate_left 1
            focus (intro wS hSw; (try dsimp only at hSw); go_simp; try with_reducible rfl)
            (try simp only [Act.put, List.setIfInBounds_toArray, List.set_cons_zero, List.set_cons_succ])
            refine wpAnyH_take (i := 13) (v := ?_) rfl (by kernel_rfl) (by kernel_rfl) (by kernel_rfl) (fun _ _ _ h => h) (Or.inl ⟨by rfl, ?_⟩) Qzc ?_
            rotate_left 1
            focus (intro wS hSw; (try dsimp only at hSw); go_simp; try with_reducible rfl)
            (try simp only [Act.put, List.setIfInBounds_toArray, List.set_cons_zero, List.set_cons_succ])
            refine wpAnyH_take (i := 14) (v := ?_) rfl (by kernel_rfl) (by kernel_rfl) (by kernel_rfl) (fun _ _ _ h => h) (Or.inl ⟨by rfl, ?_⟩) Qzc ?_
            rotate_left 1
            focus (intro wS hSw; (try dsimp only at hSw); go_simp; try with_reducible rfl)
            (try simp only [Act.put, List.setIfInBounds_toArray, List.set_cons_zero, List.set_cons_succ])
            refine wpAnyH_take (i := 15) (v := ?_) rfl (by kernel_rfl) (by kernel_rfl) (by kernel_rfl) (fun _ _ _ h => h) (Or.inl ⟨by rfl, ?_⟩) Qzc ?_
            rotate_left 1
            focus (intro wS hSw; (try dsimp only at hSw); go_simp; try with_reducible rfl)
            (try simp only [Act.put, List.setIfInBounds_toArray, List.set_cons_zero, List.set_cons_succ])
            refine wpAnyH_ready (rs := [16, 17]) (by kernel_rfl) (by simp) ?_
            refine (AllReadyH.cons rfl (fun K hK => ?_) (AllReadyH.cons rfl (fun K hK => ?_) AllReadyH.nil))
            · go_simp
              have hX : C < vzc.heap.size := Ezc.lt
              have Ezcx := PW.alloc Ezc (.cells #[.int .i64 0, .int .i64 0, .int .i64 0] 50)
              have Rzcx := own_on Rzc ((Below.refl _ _).alloc (Nat.le_refl _) (.cells #[.int .i64 0, .int .i64 0, .int .i64 0] 50))
              have TZzcx := TZzc.alloc (.cells #[.int .i64 0, .int .i64 0, .int .i64 0] 50)
              have TXzcx := Three.new vzc 50 (.int .i64 0) (.int .i64 0) (.int .i64 0)
              generalize vzc.alloc (.cells #[.int .i64 0, .int .i64 0, .int .i64 0] 50) = vzcx at Ezcx Rzcx TXzcx TZzcx ⊢
              obtain ⟨NX, hNX⟩ : ∃ N, N = vzc.heap.size := ⟨_, rfl⟩
              rw [← hNX] at hX TXzcx ⊢
              clear hNX
              have Qzcx : vzcx.cell? ⟨g, off + k * 2, none⟩ = some (.int .i64 xb) ∧ vzcx.cell? ⟨g, off + k * 2 + 1, none⟩ = some (.int .i64 xp) ∧ vzcx.cell? ⟨C, 0, none⟩ = some (.int .i64 l) ∧ vzcx.cell? ⟨C, 1, none⟩ = some (.int .i64 u) ∧ vzcx.cell? ⟨C, 2, none⟩ = some (.int .i64 (q : Nat)) := And.intro (RdC.held HW.out Ezcx.bel0 rfl HXX.out).1 (And.intro (RdC.held HW.out Ezcx.bel0 rfl HXX.out).2 (PW.cells Ezcx))
              refine hK.out _ _ ?_ (fun hSx => ?_)
              · first | exact Qzcx | ((try dsimp only); go_keep)
              clear hK K hSx Ezc Qzc Rzc TZzc
              (try simp only [Act.put, List.setIfInBounds_toArray, List.set_cons_zero, List.set_cons_succ])
              refine wpAnyH_ready (rs := [17]) (by kernel_rfl) (by simp) ?_
              refine (AllReadyH.cons rfl (fun K hK => ?_) AllReadyH.nil)
              go_simp
              have hY : C < vzcx.heap.size := Ezcx.lt
              have g9 := Ezcx.rowne
              have Ezcxy := PW.alloc Ezcx (.cells #[.slice none 0 0, .int .i64 0] 25)
              have Rzcxy := own_on Rzcx ((Below.refl _ _).alloc (Nat.le_refl _) (.cells #[.slice none 0 0, .int .i64 0] 25))
              have TXzcxy := TXzcx.alloc (.cells #[.slice none 0 0, .int .i64 0] 25)
              have TZzcxy := TZzcx.alloc (.cells #[.slice none 0 0, .int .i64 0] 25)
              have TYzcxy := Two.new vzcx 25 (.slice none 0 0) (.int .i64 0)
              generalize vzcx.alloc (.cells #[.slice none 0 0, .int .i64 0] 25) = vzcxy at Ezcxy Rzcxy TXzcxy TYzcxy TZzcxy ⊢
              obtain ⟨NY, hNY⟩ : ∃ N, N = vzcx.heap.size := ⟨_, rfl⟩
              rw [← hNY] at hY TYzcxy g9 ⊢
              clear hNY
              have Qzcxy : vzcxy.cell? ⟨g, off + k * 2, none⟩ = some (.int .i64 xb) ∧ vzcxy.cell? ⟨g, off + k * 2 + 1, none⟩ = some (.int .i64 xp) ∧ vzcxy.cell? ⟨C, 0, none⟩ = some (.int .i64 l) ∧ vzcxy.cell? ⟨C, 1, none⟩ = some (.int .i64 u) ∧ vzcxy.cell? ⟨C, 2, none⟩ = some (.int .i64 (q : Nat)) := And.intro (RdC.held HW.out Ezcxy.bel0 rfl HXX.out).1 (And.intro (RdC.held HW.out Ezcxy.bel0 rfl HXX.out).2 (PW.cells Ezcxy))
              refine hK.out _ _ ?_ (fun hSx => ?_)
              · first | exact Qzcxy | ((try dsimp only); go_keep)
              clear hK K hSx Ezcx Qzcx Rzcx TXzcx TZzcx
              (try simp only [Act.put, List.setIfInBounds_toArray, List.set_cons_zero, List.set_cons_succ])
              refine anyH_listed (l2 := #[true, true, true, true, true, true, true, true, true, true, true, true, true, true, true, true, true, true, true, false, false, false]) (by kernel_rfl) ?_
              revert g9
              revert hZ
              revert hY
              revert hX
              revert TZzcxy
              revert TYzcxy
              revert TXzcxy
              revert Rzcxy
              revert Qzcxy
              revert Ezcxy
              revert NZ
              revert NY
              revert NX
              revert c2
              revert n2
              revert A2
              revert vzcxy
              exact key
            · go_simp
              have hY : C < vzc.heap.size := Ezc.lt
              have g9 := Ezc.rowne
              have Ezcy := PW.alloc Ezc (.cells #[.slice none 0 0, .int .i64 0] 25)
              have Rzcy := own_on Rzc ((Below.refl _ _).alloc (Nat.le_refl _) (.cells #[.slice none 0 0, .int .i64 0] 25))
              have TZzcy := TZzc.alloc (.cells #[.slice none 0 0, .int .i64 0] 25)
              have TYzcy := Two.new vzc 25 (.slice none 0 0) (.int .i64 0)
              generalize vzc.alloc (.cells #[.slice none 0 0, .int .i64 0] 25) = vzcy at Ezcy Rzcy TYzcy TZzcy ⊢
              obtain ⟨NY, hNY⟩ : ∃ N, N = vzc.heap.size := ⟨_, rfl⟩
              rw [← hNY] at hY TYzcy g9 ⊢
              clear hNY
              have Qzcy : vzcy.cell? ⟨g, off + k * 2, none⟩ = some (.int .i64 xb) ∧ vzcy.cell? ⟨g, off + k * 2 + 1, none⟩ = some (.int .i64 xp) ∧ vzcy.cell? ⟨C, 0, none⟩ = some (.int .i64 l) ∧ vzcy.cell? ⟨C, 1, none⟩ = some (.int .i64 u) ∧ vzcy.cell? ⟨C, 2, none⟩ = some (.int .i64 (q : Nat)) := And.intro (RdC.held HW.out Ezcy.bel0 rfl HXX.out).1 (And.intro (RdC.held HW.out Ezcy.bel0 rfl HXX.out).2 (PW.cells Ezcy))
              refine hK.out _ _ ?_ (fun hSx => ?_)
              · first | exact Qzcy | ((try dsimp only); go_keep)
              clear hK K hSx Ezc Qzc Rzc TZzc
              (try simp only [Act.put, List.setIfInBounds_toArray, List.set_cons_zero, List.set_cons_succ])
              refine wpAnyH_ready (rs := [16]) (by kernel_rfl) (by simp) ?_
              refine (AllReadyH.cons rfl (fun K hK => ?_) AllReadyH.nil)
              go_simp
              have hX : C < vzcy.heap.size := Ezcy.lt
              have Ezcyx := PW.alloc Ezcy (.cells #[.int .i64 0, .int .i64 0, .int .i64 0] 50)
              have Rzcyx := own_on Rzcy ((Below.refl _ _).alloc (Nat.le_refl _) (.cells #[.int .i64 0, .int .i64 0, .int .i64 0] 50))
              have TYzcyx := TYzcy.alloc (.cells #[.int .i64 0, .int .i64 0, .int .i64 0] 50)
              have TZzcyx := TZzcy.alloc (.cells #[.int .i64 0, .int .i64 0, .int .i64 0] 50)
              have TXzcyx := Three.new vzcy 50 (.int .i64 0) (.int .i64 0) (.int .i64 0)
              generalize vzcy.alloc (.cells #[.int .i64 0, .int .i64 0, .int .i64 0] 50) = vzcyx at Ezcyx Rzcyx TXzcyx TYzcyx TZzcyx ⊢
              obtain ⟨NX, hNX⟩ : ∃ N, N = vzcy.heap.size := ⟨_, rfl⟩
              rw [← hNX] at hX TXzcyx ⊢
              clear hNX
              have Qzcyx : vzcyx.cell? ⟨g, off + k * 2, none⟩ = some (.int .i64 xb) ∧ vzcyx.cell? ⟨g, off + k * 2 + 1, none⟩ = some (.int .i64 xp) ∧ vzcyx.cell? ⟨C, 0, none⟩ = some (.int .i64 l) ∧ vzcyx.cell? ⟨C, 1, none⟩ = some (.int .i64 u) ∧ vzcyx.cell? ⟨C, 2, none⟩ = some (.int .i64 (q : Nat)) := And.intro (RdC.held HW.out Ezcyx.bel0 rfl HXX.out).1 (And.intro (RdC.held HW.out Ezcyx.bel0 rfl HXX.out).2 (PW.cells Ezcyx))
              refine hK.out _ _ ?_ (fun hSx => ?_)
              · first | exact Qzcyx | ((try dsimp only); go_keep)
              clear hK K hSx Ezcy Qzcy Rzcy TYzcy TZzcy
              (try simp only [Act.put, List.setIfInBounds_toArray, List.set_cons_zero, List.set_cons_succ])
              refine anyH_listed (l2 := #[true, true, true, true, true, true, true, true, true, true, true, true, true, true, true, true, true, true, true, false, false, false]) (by kernel_rfl) ?_
              revert g9
              revert hZ
              revert hY
              revert hX
              revert TZzcyx
              revert TYzcyx
              revert TXzcyx
              revert Rzcyx
              revert Qzcyx
              revert Ezcyx
              revert NZ
              revert NY
              revert NX
              revert c2
              revert n2
              revert A2
              revert vzcyx
              exact key
          · go_simp
            have hX : C < vz.heap.size := Ez.lt
            have Ezx := PW.alloc Ez (.cells #[.int .i64 0, .int .i64 0, .int .i64 0] 50)
            have TZzx := TZz.alloc (.cells #[.int .i64 0, .int .i64 0, .int .i64 0] 50)
            have TXzx := Three.new vz 50 (.int .i64 0) (.int .i64 0) (.int .i64 0)
            generalize vz.alloc (.cells #[.int .i64 0, .int .i64 0, .int .i64 0] 50) = vzx at Ezx TXzx TZzx ⊢
            obtain ⟨NX, hNX⟩ : ∃ N, N = vz.heap.size := ⟨_, rfl⟩
            rw [← hNX] at hX TXzx ⊢
            clear hNX
            have Qzx : vzx.cell? ⟨g, off + k * 2, none⟩ = some (.int .i64 xb) ∧ vzx.cell? ⟨g, off + k * 2 + 1, none⟩ = some (.int .i64 xp) ∧ vzx.cell? ⟨C, 0, none⟩ = some (.int .i64 l) ∧ vzx.cell? ⟨C, 1, none⟩ = some (.int .i64 u) ∧ vzx.cell? ⟨C, 2, none⟩ = some (.int .i64 (q : Nat)) := And.intro (RdC.held HW.out Ezx.bel0 rfl HXX.out).1 (And.intro (RdC.held HW.out Ezx.bel0 rfl HXX.out).2 (PW.cells Ezx))
            refine hK.out _ _ ?_ (fun hSx => ?_)
            · first | exact Qzx | ((try dsimp only); go_keep)
            clear hK K hSx Ez Qz TZz
            (try simp only [Act.put, List.setIfInBounds_toArray, List.set_cons_zero, List.set_cons_succ])
            refine wpAnyH_ready (rs := [11, 17]) (by kernel_rfl) (by simp) ?_
            refine (AllReadyH.cons rfl (fun K hK => ?_) (AllReadyH.cons rfl (fun K hK => ?_) AllReadyH.nil))
            · go_simp
              refine (HST.out _).mono ?_
              rintro e vzxc ⟨A2, n2, c2, rfl, o2, y2⟩
              have hsz : C + 1 ≤ vzx.heap.size := Ezx.lt
              have Ezxc := PW.on Ezx y2
              have Rzxc := own_base hsz o2
              have TXzxc := TXzx.on y2
              have TZzxc := TZzx.on y2
              have Qzxc : vzxc.cell? ⟨g, off + k * 2, none⟩ = some (.int .i64 xb) ∧ vzxc.cell? ⟨g, off + k * 2 + 1, none⟩ = some (.int .i64 xp) ∧ vzxc.cell? ⟨C, 0, none⟩ = some (.int .i64 l) ∧ vzxc.cell? ⟨C, 1, none⟩ = some (.int .i64 u) ∧ vzxc.cell? ⟨C, 2, none⟩ = some (.int .i64 (q : Nat)) := And.intro (RdC.held HW.out Ezxc.bel0 rfl HXX.out).1 (And.intro (RdC.held HW.out Ezxc.bel0 rfl HXX.out).2 (PW.cells Ezxc))
              clear o2 y2 hsz
              (try go_wp2_with fail)
              refine hK.out _ _ ?_ (fun hSx => ?_)
              · first | exact Qzxc | ((try dsimp only); go_keep)
              clear hK K hSx Ezx Qzx TXzx TZzx
              (try simp only [Act.put, List.setIfInBounds_toArray, List.set_cons_zero, List.set_cons_succ])
              refine wpAnyH_take (i := 12) (v := ?_) rfl (by kernel_rfl) (by kernel_rfl) (by kernel_rfl) (fun _ _ _ h => h) (Or.inl ⟨by rfl, ?_⟩) Qzxc ?_
              rotate_left 1
              focus (intro wS hSw; (try dsimp only at hSw); go_simp; try with_reducible rfl)
              (try simp only [Act.put, List.setIfInBounds_toArray, List.set_cons_zero, List.set_cons_succ])
              refine wpAnyH_take (i := 13) (v := ?_) rfl (by kernel_rfl) (by kernel_rfl) (by kernel_rfl) (fun _ _ _ h => h) (Or.inl ⟨by rfl, ?_⟩) Qzxc ?_
              rotate_left 1
              focus (intro wS hSw; (try dsimp only at hSw); go_simp; try with_reducible rfl)
              (try simp only [Act.put, List.setIfInBounds_toArray, List.set_cons_zero, List.set_cons_succ])
              refine wpAnyH_take (i := 14) (v := ?_) rfl (by kernel_rfl) (by kernel_rfl) (by kernel_rfl) (fun _ _ _ h => h) (Or.inl ⟨by rfl, ?_⟩) Qzxc ?_
              rotate_left 1
              focus (intro wS hSw; (try dsimp only at hSw); go_simp; try with_reducible rfl)
              (try simp only [Act.put, List.setIfInBounds_toArray, List.set_cons_zero, List.set_cons_succ])
              refine wpAnyH_take (i := 15) (v := ?_) rfl (by kernel_rfl) (by kernel_rfl) (by kernel_rfl) (fun _ _ _ h => h) (Or.inl ⟨by rfl, ?_⟩) Qzxc ?_
              rotate_left 1
              focus (intro wS hSw; (try dsimp only at hSw); go_simp; try with_reducible rfl)
              (try simp only [Act.put, List.setIfInBounds_toArray, List.set_cons_zero, List.set_cons_succ])
              refine wpAnyH_ready (rs := [17]) (by kernel_rfl) (by simp) ?_
              refine (AllReadyH.cons rfl (fun K hK => ?_) AllReadyH.nil)
              go_simp
              have hY : C < vzxc.heap.size := Ezxc.lt
              have g9 := Ezxc.rowne
              have Ezxcy := PW.alloc Ezxc (.cells #[.slice none 0 0, .int .i64 0] 25)
              have Rzxcy := own_on Rzxc ((Below.refl _ _).alloc (Nat.le_refl _) (.cells #[.slice none 0 0, .int .i64 0] 25))
              have TXzxcy := TXzxc.alloc (.cells #[.slice none 0 0, .int .i64 0] 25)
              have TZzxcy := TZzxc.alloc (.cells #[.slice none 0 0, .int .i64 0] 25)
              have TYzxcy := Two.new vzxc 25 (.slice none 0 0) (.int .i64 0)
              generalize vzxc.alloc (.cells #[.slice none 0 0, .int .i64 0] 25) = vzxcy at Ezxcy Rzxcy TXzxcy TYzxcy TZzxcy ⊢
              obtain ⟨NY, hNY⟩ : ∃ N, N = vzxc.heap.size := ⟨_, rfl⟩
              rw [← hNY] at hY TYzxcy g9 ⊢
              clear hNY
              have Qzxcy : vzxcy.cell? ⟨g, off + k * 2, none⟩ = some (.int .i64 xb) ∧ vzxcy.cell? ⟨g, off + k * 2 + 1, none⟩ = some (.int .i64 xp) ∧ vzxcy.cell? ⟨C, 0, none⟩ = some (.int .i64 l) ∧ vzxcy.cell? ⟨C, 1, none⟩ = some (.int .i64 u) ∧ vzxcy.cell? ⟨C, 2, none⟩ = some (.int .i64 (q : Nat)) := And.intro (RdC.held HW.out Ezxcy.bel0 rfl HXX.out).1 (And.intro (RdC.held HW.out Ezxcy.bel0 rfl HXX.out).2 (PW.cells Ezxcy))
              refine hK.out _ _ ?_ (fun hSx => ?_)
              · first | exact Qzxcy | ((try dsimp only); go_keep)
              clear hK K hSx Ezxc Qzxc Rzxc TXzxc TZzxc
              (try simp only [Act.put, List.setIfInBounds_toArray, List.set_cons_zero, List.set_cons_succ])
              refine anyH_listed (l2 := #[true, true, true, true, true, true, true, true, true, true, true, true, true, true, true, true, true, true, true, false, false, false]) (by kernel_rfl) ?_
              revert g9
              revert hZ
              revert hY
              revert hX
              revert TZzxcy
              revert TYzxcy
              revert TXzxcy
              revert Rzxcy
              revert Qzxcy
              revert Ezxcy
              revert NZ
              revert NY
              revert NX
              revert c2
              revert n2
              revert A2
              revert vzxcy
              exact key
            · go_simp
              have hY : C < vzx.heap.size := Ezx.lt
              have g9 := Ezx.rowne
              have Ezxy := PW.alloc Ezx (.cells #[.slice none 0 0, .int .i64 0] 25)
              have TXzxy := TXzx.alloc (.cells #[.slice none 0 0, .int .i64 0] 25)
              have TZzxy := TZzx.alloc (.cells #[.slice none 0 0, .int .i64 0] 25)
              have TYzxy := Two.new vzx 25 (.slice none 0 0) (.int .i64 0)
              generalize vzx.alloc (.cells #[.slice none 0 0, .int .i64 0] 25) = vzxy at Ezxy TXzxy TYzxy TZzxy ⊢
              obtain ⟨NY, hNY⟩ : ∃ N, N = vzx.heap.size := ⟨_, rfl⟩
              rw [← hNY] at hY TYzxy g9 ⊢
              clear hNY
              have Qzxy : vzxy.cell? ⟨g, off + k * 2, none⟩ = some (.int .i64 xb) ∧ vzxy.cell? ⟨g, off + k * 2 + 1, none⟩ = some (.int .i64 xp) ∧ vzxy.cell? ⟨C, 0, none⟩ = some (.int .i64 l) ∧ vzxy.cell? ⟨C, 1, none⟩ = some (.int .i64 u) ∧ vzxy.cell? ⟨C, 2, none⟩ = some (.int .i64 (q : Nat)) := And.intro (RdC.held HW.out Ezxy.bel0 rfl HXX.out).1 (And.intro (RdC.held HW.out Ezxy.bel0 rfl HXX.out).2 (PW.cells Ezxy))
              refine hK.out _ _ ?_ (fun hSx => ?_)
              · first | exact Qzxy | ((try dsimp only); go_keep)
              clear hK K hSx Ezx Qzx TXzx TZzx
              (try simp only [Act.put, List.setIfInBounds_toArray, List.set_cons_zero, List.set_cons_succ])
              refine wpAnyH_ready (rs := [11]) (by kernel_rfl) (by simp) ?_
              refine (AllReadyH.cons rfl (fun K hK => ?_) AllReadyH.nil)
              go_simp
              refine (HST.out _).mono ?_
              rintro e vzxyc ⟨A2, n2, c2, rfl, o2, y2⟩
              have hsz : C + 1 ≤ vzxy.heap.size := Ezxy.lt
              have Ezxyc := PW.on Ezxy y2
              have Rzxyc := own_base hsz o2
              have TXzxyc := TXzxy.on y2
              have TYzxyc := TYzxy.on y2
              have TZzxyc := TZzxy.on y2
              have Qzxyc : vzxyc.cell? ⟨g, off + k * 2, none⟩ = some (.int .i64 xb) ∧ vzxyc.cell? ⟨g, off + k * 2 + 1, none⟩ = some (.int .i64 xp) ∧ vzxyc.cell? ⟨C, 0, none⟩ = some (.int .i64 l) ∧ vzxyc.cell? ⟨C, 1, none⟩ = some (.int .i64 u) ∧ vzxyc.cell? ⟨C, 2, none⟩ = some (.int .i64 (q : Nat)) := And.intro (RdC.held HW.out Ezxyc.bel0 rfl HXX.out).1 (And.intro (RdC.held HW.out Ezxyc.bel0 rfl HXX.out).2 (PW.cells Ezxyc))
              clear o2 y2 hsz
              (try go_wp2_with fail)
              refine hK.out _ _ ?_ (fun hSx => ?_)
              · first | exact Qzxyc | ((try dsimp only); go_keep)
              clear hK K hSx Ezxy Qzxy TXzxy TYzxy TZzxy
              (try simp only [Act.put, List.setIfInBounds_toArray, List.set_cons_zero, List.set_cons_succ])
              refine wpAnyH_take (i := 12) (v := ?_) rfl (by kernel_rfl) (by kernel_rfl) (by kernel_rfl) (fun _ _ _ h => h) (Or.inl ⟨by rfl, ?_⟩) Qzxyc ?_
              rotate_left 1
              focus (intro wS hSw; (try dsimp only at hSw); go_simp; try with_reducible rfl)
              (try simp only [Act.put, List.setIfInBounds_toArray, List.set_cons_zero, List.set_cons_succ])
              refine wpAnyH_take (i := 13) (v := ?_) rfl (by kernel_rfl) (by kernel_rfl) (by kernel_rfl) (fun _ _ _ h => h) (Or.inl ⟨by rfl, ?_⟩) Qzxyc ?_
              rotate_left 1
              focus (intro wS hSw; (try dsimp only at hSw); go_simp; try with_reducible rfl)
              (try simp only [Act.put, List.setIfInBounds_toArray, List.set_cons_zero, List.set_cons_succ])
              refine wpAnyH_take (i := 14) (v := ?_) rfl (by kernel_rfl) (by kernel_rfl) (by kernel_rfl) (fun _ _ _ h => h) (Or.inl ⟨by rfl, ?_⟩) Qzxyc ?_
              rotate_left 1
              focus (intro wS hSw; (try dsimp only at hSw); go_simp; try with_reducible rfl)
              (try simp only [Act.put, List.setIfInBounds_toArray, List.set_cons_zero, List.set_cons_succ])
              refine wpAnyH_take (i := 15) (v := ?_) rfl (by kernel_rfl) (by kernel_rfl) (by kernel_rfl) (fun _ _ _ h => h) (Or.inl ⟨by rfl, ?_⟩) Qzxyc ?_
              rotate_left 1
              focus (intro wS hSw; (try dsimp only at hSw); go_simp; try with_reducible rfl)
              (try simp only [Act.put, List.setIfInBounds_toArray, List.set_cons_zero, List.set_cons_succ])
              refine anyH_listed (l2 := #[true, true, true, true, true, true, true, true, true, true, true, true, true, true, true, true, true, true, true, false, false, false]) (by kernel_rfl) ?_
              revert g9
              revert hZ
              revert hY
              revert hX
              revert TZzxyc
              revert TYzxyc
              revert TXzxyc
              revert Rzxyc
              revert Qzxyc
              revert Ezxyc
              revert NZ
              revert NY
              revert NX
              revert c2
              revert n2
              revert A2
              revert vzxyc
              exact key
          · go_simp
            have hY : C < vz.heap.size := Ez.lt
            have g9 := Ez.rowne
            have Ezy := PW.alloc Ez (.cells #[.slice none 0 0, .int .i64 0] 25)
            have TZzy := TZz.alloc (.cells #[.slice none 0 0, .int .i64 0] 25)
            have TYzy := Two.new vz 25 (.slice none 0 0) (.int .i64 0)
            generalize vz.alloc (.cells #[.slice none 0 0, .int .i64 0] 25) = vzy at Ezy TYzy TZzy ⊢
            obtain ⟨NY, hNY⟩ : ∃ N, N = vz.heap.size := ⟨_, rfl⟩
            rw [← hNY] at hY TYzy g9 ⊢
            clear hNY
            have Qzy : vzy.cell? ⟨g, off + k * 2, none⟩ = some (.int .i64 xb) ∧ vzy.cell? ⟨g, off + k * 2 + 1, none⟩ = some (.int .i64 xp) ∧ vzy.cell? ⟨C, 0, none⟩ = some (.int .i64 l) ∧ vzy.cell? ⟨C, 1, none⟩ = some (.int .i64 u) ∧ vzy.cell? ⟨C, 2, none⟩ = some (.int .i64 (q : Nat)) := And.intro (RdC.held HW.out Ezy.bel0 rfl HXX.out).1 (And.intro (RdC.held HW.out Ezy.bel0 rfl HXX.out).2 (PW.cells Ezy))
            refine hK.out _ _ ?_ (fun hSx => ?_)
            · first | exact Qzy | ((try dsimp only); go_keep)
            clear hK K hSx Ez Qz TZz
            (try simp only [Act.put, List.setIfInBounds_toArray, List.set_cons_zero, List.set_cons_succ])
            refine wpAnyH_ready (rs := [11, 16]) (by kernel_rfl) (by simp) ?_
            refine (AllReadyH.cons rfl (fun K hK => ?_) (AllReadyH.cons rfl (fun K hK => ?_) AllReadyH.nil))
            · go_simp
              refine (HST.out _).mono ?_
              rintro e vzyc ⟨A2, n2, c2, rfl, o2, y2⟩
              have hsz : C + 1 ≤ vzy.heap.size := Ezy.lt
              have Ezyc := PW.on Ezy y2
              have Rzyc := own_base hsz o2
              have TYzyc := TYzy.on y2
              have TZzyc := TZzy.on y2
              have Qzyc : vzyc.cell? ⟨g, off + k * 2, none⟩ = some (.int .i64 xb) ∧ vzyc.cell? ⟨g, off + k * 2 + 1, none⟩ = some (.int .i64 xp) ∧ vzyc.cell? ⟨C, 0, none⟩ = some (.int .i64 l) ∧ vzyc.cell? ⟨C, 1, none⟩ = some (.int .i64 u) ∧ vzyc.cell? ⟨C, 2, none⟩ = some (.int .i64 (q : Nat)) := And.intro (RdC.held HW.out Ezyc.bel0 rfl HXX.out).1 (And.intro (RdC.held HW.out Ezyc.bel0 rfl HXX.out).2 (PW.cells Ezyc))
              clear o2 y2 hsz
              (try go_wp2_with fail)
              refine hK.out _ _ ?_ (fun hSx => ?_)
              · first | exact Qzyc | ((try dsimp only); go_keep)
              clear hK K hSx Ezy Qzy TYzy TZzy
              (try simp only [Act.put, List.setIfInBounds_toArray, List.set_cons_zero, List.set_cons_succ])
              refine wpAnyH_take (i := 12) (v := ?_) rfl (by kernel_rfl) (by kernel_rfl) (by kernel_rfl) (fun _ _ _ h => h) (Or.inl ⟨by rfl, ?_⟩) Qzyc ?_
              rotate_left 1
              focus (intro wS hSw; (try dsimp only at hSw); go_simp; try with_reducible rfl)
              (try simp only [Act.put, List.setIfInBounds_toArray, List.set_cons_zero, List.set_cons_succ])
              refine wpAnyH_take (i := 13) (v := ?_) rfl (by kernel_rfl) (by kernel_rfl) (by kernel_rfl) (fun _ _ _ h => h) (Or.inl ⟨by rfl, ?_⟩) Qzyc ?_
              rotate_left 1
              focus (intro wS hSw; (try dsimp only at hSw); go_simp; try with_reducible rfl)
              (try simp only [Act.put, List.setIfInBounds_toArray, List.set_cons_zero, List.set_cons_succ])
              refine wpAnyH_take (i := 14) (v := ?_) rfl (by kernel_rfl) (by kernel_rfl) (by kernel_rfl) (fun _ _ _ h => h) (Or.inl ⟨by rfl, ?_⟩) Qzyc ?_
              rotate_left 1
              focus (intro wS hSw; (try dsimp only at hSw); go_simp; try with_reducible rfl)
              (try simp only [Act.put, List.setIfInBounds_toArray, List.set_cons_zero, List.set_cons_succ])
              refine wpAnyH_take (i := 15) (v := ?_) rfl (by kernel_rfl) (by kernel_rfl) (by kernel_rfl) (fun _ _ _ h => h) (Or.inl ⟨by rfl, ?_⟩) Qzyc ?_
              rotate_left 1
              focus (intro wS hSw; (try dsimp only at hSw); go_simp; try with_reducible rfl)
              (try simp only [Act.put, List.setIfInBounds_toArray, List.set_cons_zero, List.set_cons_succ])
              refine wpAnyH_ready (rs := [16]) (by kernel_rfl) (by simp) ?_
              refine (AllReadyH.cons rfl (fun K hK => ?_) AllReadyH.nil)
              go_simp
              have hX : C < vzyc.heap.size := Ezyc.lt
              have Ezycx := PW.alloc Ezyc (.cells #[.int .i64 0, .int .i64 0, .int .i64 0] 50)
              have Rzycx := own_on Rzyc ((Below.refl _ _).alloc (Nat.le_refl _) (.cells #[.int .i64 0, .int .i64 0, .int .i64 0] 50))
              have TYzycx := TYzyc.alloc (.cells #[.int .i64 0, .int .i64 0, .int .i64 0] 50)
              have TZzycx := TZzyc.alloc (.cells #[.int .i64 0, .int .i64 0, .int .i64 0] 50)
              have TXzycx := Three.new vzyc 50 (.int .i64 0) (.int .i64 0) (.int .i64 0)
              generalize vzyc.alloc (.cells #[.int .i64 0, .int .i64 0, .int .i64 0] 50) = vzycx at Ezycx Rzycx TXzycx TYzycx TZzycx ⊢
              obtain ⟨NX, hNX⟩ : ∃ N, N = vzyc.heap.size := ⟨_, rfl⟩
              rw [← hNX] at hX TXzycx ⊢
              clear hNX
              have Qzycx : vzycx.cell? ⟨g, off + k * 2, none⟩ = some (.int .i64 xb) ∧ vzycx.cell? ⟨g, off + k * 2 + 1, none⟩ = some (.int .i64 xp) ∧ vzycx.cell? ⟨C, 0, none⟩ = some (.int .i64 l) ∧ vzycx.cell? ⟨C, 1, none⟩ = some (.int .i64 u) ∧ vzycx.cell? ⟨C, 2, none⟩ = some (.int .i64 (q : Nat)) := And.intro (RdC.held HW.out Ezycx.bel0 rfl HXX.out).1 (And.intro (RdC.held HW.out Ezycx.bel0 rfl HXX.out).2 (PW.cells Ezycx))
              refine hK.out _ _ ?_ (fun hSx => ?_)
              · first | exact Qzycx | ((try dsimp only); go_keep)
              clear hK K hSx Ezyc Qzyc Rzyc TYzyc TZzyc
              (try simp only [Act.put, List.setIfInBounds_toArray, List.set_cons_zero, List.set_cons_succ])
              refine anyH_listed (l2 := #[true, true, true, true, true, true, true, true, true, true, true, true, true, true, true, true, true, true, true, false, false, false]) (by kernel_rfl) ?_
              revert g9
              revert hZ
              revert hY
              revert hX
              revert TZzycx
              revert TYzycx
              revert TXzycx
              revert Rzycx
              revert Qzycx
              revert Ezycx
              revert NZ
              revert NY
              revert NX
              revert c2
              revert n2
              revert A2
              revert vzycx
              exact key
            · go_simp
              have hX : C < vzy.heap.size := Ezy.lt
              have Ezyx := PW.alloc Ezy (.cells #[.int .i64 0, .int .i64 0, .int .i64 0] 50)
              have TYzyx := TYzy.alloc (.cells #[.int .i64 0, .int .i64 0, .int .i64 0] 50)
              have TZzyx := TZzy.alloc (.cells #[.int .i64 0, .int .i64 0, .int .i64 0] 50)
              have TXzyx := Three.new vzy 50 (.int .i64 0) (.int .i64 0) (.int .i64 0)
              generalize vzy.alloc (.cells #[.int .i64 0, .int .i64 0, .int .i64 0] 50) = vzyx at Ezyx TXzyx TYzyx TZzyx ⊢
              obtain ⟨NX, hNX⟩ : ∃ N, N = vzy.heap.size := ⟨_, rfl⟩
              rw [← hNX] at hX TXzyx ⊢
              clear hNX
              have Qzyx : vzyx.cell? ⟨g, off + k * 2, none⟩ = some (.int .i64 xb) ∧ vzyx.cell? ⟨g, off + k * 2 + 1, none⟩ = some (.int .i64 xp) ∧ vzyx.cell? ⟨C, 0, none⟩ = some (.int .i64 l) ∧ vzyx.cell? ⟨C, 1, none⟩ = some (.int .i64 u) ∧ vzyx.cell? ⟨C, 2, none⟩ = some (.int .i64 (q : Nat)) := And.intro (RdC.held HW.out Ezyx.bel0 rfl HXX.out).1 (And.intro (RdC.held HW.out Ezyx.bel0 rfl HXX.out).2 (PW.cells Ezyx))
              refine hK.out _ _ ?_ (fun hSx => ?_)
              · first | exact Qzyx | ((try dsimp only); go_keep)
              clear hK K hSx Ezy Qzy TYzy TZzy
              (try simp only [Act.put, List.setIfInBounds_toArray, List.set_cons_zero, List.set_cons_succ])
              refine wpAnyH_ready (rs := [11]) (by kernel_rfl) (by simp) ?_
              refine (AllReadyH.cons rfl (fun K hK => ?_) AllReadyH.nil)
              go_simp
              refine (HST.out _).mono ?_
              rintro e vzyxc ⟨A2, n2, c2, rfl, o2, y2⟩
              have hsz : C + 1 ≤ vzyx.heap.size := Ezyx.lt
              have Ezyxc := PW.on Ezyx y2
              have Rzyxc := own_base hsz o2
              have TXzyxc := TXzyx.on y2
              have TYzyxc := TYzyx.on y2
              have TZzyxc := TZzyx.on y2
              have Qzyxc : vzyxc.cell? ⟨g, off + k * 2, none⟩ = some (.int .i64 xb) ∧ vzyxc.cell? ⟨g, off + k * 2 + 1, none⟩ = some (.int .i64 xp) ∧ vzyxc.cell? ⟨C, 0, none⟩ = some (.int .i64 l) ∧ vzyxc.cell? ⟨C, 1, none⟩ = some (.int .i64 u) ∧ vzyxc.cell? ⟨C, 2, none⟩ = some (.int .i64 (q : Nat)) := And.intro (RdC.held HW.out Ezyxc.bel0 rfl HXX.out).1 (And.intro (RdC.held HW.out Ezyxc.bel0 rfl HXX.out).2 (PW.cells Ezyxc))
              clear o2 y2 hsz
              (try go_wp2_with fail)
              refine hK.out _ _ ?_ (fun hSx => ?_)
              · first | exact Qzyxc | ((try dsimp only); go_keep)
              clear hK K hSx Ezyx Qzyx TXzyx TYzyx TZzyx
              (try simp only [Act.put, List.setIfInBounds_toArray, List.set_cons_zero, List.set_cons_succ])
              refine wpAnyH_take (i := 12) (v := ?_) rfl (by kernel_rfl) (by kernel_rfl) (by kernel_rfl) (fun _ _ _ h => h) (Or.inl ⟨by rfl, ?_⟩) Qzyxc ?_
              rotate_left 1
              focus (intro wS hSw; (try dsimp only at hSw); go_simp; try with_reducible rfl)
              (try simp only [Act.put, List.setIfInBounds_toArray, List.set_cons_zero, List.set_cons_succ])
              refine wpAnyH_take (i := 13) (v := ?_) rfl (by kernel_rfl) (by kernel_rfl) (by kernel_rfl) (fun _ _ _ h => h) (Or.inl ⟨by rfl, ?_⟩) Qzyxc ?_
              rotate_left 1
              focus (intro wS hSw; (try dsimp only at hSw); go_simp; try with_reducible rfl)
              (try simp only [Act.put, List.setIfInBounds_toArray, List.set_cons_zero, List.set_cons_succ])
              refine wpAnyH_take (i := 14) (v := ?_) rfl (by kernel_rfl) (by kernel_rfl) (by kernel_rfl) (fun _ _ _ h => h) (Or.inl ⟨by rfl, ?_⟩) Qzyxc ?_
              rotate_left 1
              focus (intro wS hSw; (try dsimp only at hSw); go_simp; try with_reducible rfl)
              (try simp only [Act.put, List.setIfInBounds_toArray, List.set_cons_zero, List.set_cons_succ])
              refine wpAnyH_take (i := 15) (v := ?_) rfl (by kernel_rfl) (by kernel_rfl) (by kernel_rfl) (fun _ _ _ h => h) (Or.inl ⟨by rfl, ?_⟩) Qzyxc ?_
              rotate_left 1
              focus (intro wS hSw; (try dsimp only at hSw); go_simp; try with_reducible rfl)
              (try simp only [Act.put, List.setIfInBounds_toArray, List.set_cons_zero, List.set_cons_succ])
              refine anyH_listed (l2 := #[true, true, true, true, true, true, true, true, true, true, true, true, true, true, true, true, true, true, true, false, false, false]) (by kernel_rfl) ?_
              revert g9
              revert hZ
              revert hY
              revert hX
              revert TZzyxc
              revert TYzyxc
              revert TXzyxc
              revert Rzyxc
              revert Qzyxc
              revert Ezyxc
              revert NZ
              revert NY
              revert NX
              revert c2
              revert n2
              revert A2
              revert vzyxc
              exact key
      · intro vk A2 n2 c2 NX NY NZ Ek Qk Rk TXk TYk TZk hX hY hZ g9
        refine wpAnyH_ready (rs := [19]) (by kernel_rfl) (by simp) ?_
        refine (AllReadyH.cons rfl (fun K hK => ?_) AllReadyH.nil)
        have cX0 := TXk.c0
        have fX0 := TXk.f0
        have cX1 := TXk.c1
        have fX1 := TXk.f1
        have cX2 := TXk.c2
        have fX2 := TXk.f2
        go_simp
        have Eks_0 := PW.far Ek TXk (fun e => own_blk_ne Ek.row TXk (by decide) e.symm) (by decide) hX 0 (.int .i64 LO)
        have Rks_0 := own_far_any Rk (p := ⟨NX, 0, none⟩) (fun e => own_blk_ne Rk TXk (by decide) e.symm) (.int .i64 LO)
        have TXks_0 := TXk.set0 (.int .i64 LO)
        have TYks_0 := TYk.far (p := ⟨NX, 0, none⟩) (Blk.ne_ TYk TXk (by decide)) (.int .i64 LO)
        have TZks_0 := TZk.far (p := ⟨NX, 0, none⟩) (Blk.ne_ TZk TXk (by decide)) (.int .i64 LO)
        have Eks_1 := PW.far Eks_0 TXks_0 (fun e => own_blk_ne Eks_0.row TXks_0 (by decide) e.symm) (by decide) hX 1 (.int .i64 HI)
        have Rks_1 := own_far_any Rks_0 (p := ⟨NX, 1, none⟩) (fun e => own_blk_ne Rks_0 TXks_0 (by decide) e.symm) (.int .i64 HI)
        have TXks_1 := TXks_0.set1 (.int .i64 HI)
        have TYks_1 := TYks_0.far (p := ⟨NX, 1, none⟩) (Blk.ne_ TYks_0 TXks_0 (by decide)) (.int .i64 HI)
        have TZks_1 := TZks_0.far (p := ⟨NX, 1, none⟩) (Blk.ne_ TZks_0 TXks_0 (by decide)) (.int .i64 HI)
        have Eks_2 := PW.far Eks_1 TXks_1 (fun e => own_blk_ne Eks_1.row TXks_1 (by decide) e.symm) (by decide) hX 2 (.int .i64 (Q2 : Nat))
        have Rks_2 := own_far_any Rks_1 (p := ⟨NX, 2, none⟩) (fun e => own_blk_ne Rks_1 TXks_1 (by decide) e.symm) (.int .i64 (Q2 : Nat))
        have TXks_2 := TXks_1.set2 (.int .i64 (Q2 : Nat))
        have TYks_2 := TYks_1.far (p := ⟨NX, 2, none⟩) (Blk.ne_ TYks_1 TXks_1 (by decide)) (.int .i64 (Q2 : Nat))
        have TZks_2 := TZks_1.far (p := ⟨NX, 2, none⟩) (Blk.ne_ TZks_1 TXks_1 (by decide)) (.int .i64 (Q2 : Nat))
        have Eks := Eks_2
        have Rks := Rks_2
        have TXks := TXks_2
        have TYks := TYks_2
        have TZks := TZks_2
        clear cX0 fX0 cX1 fX1 cX2 fX2
        generalize (((vk.setCell ⟨NX, 0, none⟩ (.int .i64 LO)).setCell ⟨NX, 1, none⟩ (.int .i64 HI)).setCell ⟨NX, 2, none⟩ (.int .i64 (Q2 : Nat))) = vks at Eks Rks TXks TYks TZks ⊢
        have Qks : vks.cell? ⟨g, off + k * 2, none⟩ = some (.int .i64 xb) ∧ vks.cell? ⟨g, off + k * 2 + 1, none⟩ = some (.int .i64 xp) ∧ vks.cell? ⟨C, 0, none⟩ = some (.int .i64 l) ∧ vks.cell? ⟨C, 1, none⟩ = some (.int .i64 u) ∧ vks.cell? ⟨C, 2, none⟩ = some (.int .i64 (q : Nat)) := And.intro (RdC.held HW.out Eks.bel0 rfl HXX.out).1 (And.intro (RdC.held HW.out Eks.bel0 rfl HXX.out).2 (PW.cells Eks))
        refine hK.out _ _ ?_ (fun hSx => ?_)
        · first | exact Qks | ((try dsimp only); go_keep)
        clear hK K hSx Ek Qk Rk TXk TYk TZk
        (try simp only [Act.put, List.setIfInBounds_toArray, List.set_cons_zero, List.set_cons_succ])
        refine wpAnyH_ready (rs := [20]) (by kernel_rfl) (by simp) ?_
        refine (AllReadyH.cons rfl (fun K hK => ?_) AllReadyH.nil)
        have cY0 := TYks.c0
        have fY0 := TYks.f0
        have cY1 := TYks.c1
        have fY1 := TYks.f1
        go_simp
        have Ekst_0 := PW.far Eks TYks g9 (by decide) hY 0 (.slice A2 n2 c2)
        have Rkst_0 := own_far_any Rks (p := ⟨NY, 0, none⟩) (fun e => own_blk_ne Rks TYks (by decide) e.symm) (.slice A2 n2 c2)
        have TXkst_0 := TXks.far (p := ⟨NY, 0, none⟩) (Blk.ne_ TXks TYks (by decide)) (.slice A2 n2 c2)
        have TYkst_0 := TYks.set0 (.slice A2 n2 c2)
        have TZkst_0 := TZks.far (p := ⟨NY, 0, none⟩) (Blk.ne_ TZks TYks (by decide)) (.slice A2 n2 c2)
        have Ekst_1 := PW.far Ekst_0 TYkst_0 g9 (by decide) hY 1 (.int .i64 S2.length)
        have Rkst_1 := own_far_any Rkst_0 (p := ⟨NY, 1, none⟩) (fun e => own_blk_ne Rkst_0 TYkst_0 (by decide) e.symm) (.int .i64 S2.length)
        have TXkst_1 := TXkst_0.far (p := ⟨NY, 1, none⟩) (Blk.ne_ TXkst_0 TYkst_0 (by decide)) (.int .i64 S2.length)
        have TYkst_1 := TYkst_0.set1 (.int .i64 S2.length)
        have TZkst_1 := TZkst_0.far (p := ⟨NY, 1, none⟩) (Blk.ne_ TZkst_0 TYkst_0 (by decide)) (.int .i64 S2.length)
        have Ekst := Ekst_1
        have Rkst := Rkst_1
        have TXkst := TXkst_1
        have TYkst := TYkst_1
        have TZkst := TZkst_1
        clear cY0 fY0 cY1 fY1
        generalize ((vks.setCell ⟨NY, 0, none⟩ (.slice A2 n2 c2)).setCell ⟨NY, 1, none⟩ (.int .i64 S2.length)) = vkst at Ekst Rkst TXkst TYkst TZkst ⊢
        have Qkst : vkst.cell? ⟨g, off + k * 2, none⟩ = some (.int .i64 xb) ∧ vkst.cell? ⟨g, off + k * 2 + 1, none⟩ = some (.int .i64 xp) ∧ vkst.cell? ⟨C, 0, none⟩ = some (.int .i64 l) ∧ vkst.cell? ⟨C, 1, none⟩ = some (.int .i64 u) ∧ vkst.cell? ⟨C, 2, none⟩ = some (.int .i64 (q : Nat)) := And.intro (RdC.held HW.out Ekst.bel0 rfl HXX.out).1 (And.intro (RdC.held HW.out Ekst.bel0 rfl HXX.out).2 (PW.cells Ekst))
        refine hK.out _ _ ?_ (fun hSx => ?_)
        · first | exact Qkst | ((try dsimp only); go_keep)
        clear hK K hSx Eks Qks Rks TXks TYks TZks
        (try simp only [Act.put, List.setIfInBounds_toArray, List.set_cons_zero, List.set_cons_succ])
        refine wpAnyH_ready (rs := [21]) (by kernel_rfl) (by simp) ?_
        refine (AllReadyH.cons rfl (fun K hK => ?_) AllReadyH.nil)
        have cZ0 := TZkst.c0
        have fZ0 := TZkst.f0
        have cZ1 := TZkst.c1
        have fZ1 := TZkst.f1
        go_simp
        have Ekstv_0 := PW.far Ekst TZkst (fun e => own_blk_ne Ekst.row TZkst (by decide) e.symm) (by decide) hZ 0 (.int .i64 0)
        have Rkstv_0 := own_far_any Rkst (p := ⟨NZ, 0, none⟩) (fun e => own_blk_ne Rkst TZkst (by decide) e.symm) (.int .i64 0)
        have TXkstv_0 := TXkst.far (p := ⟨NZ, 0, none⟩) (Blk.ne_ TXkst TZkst (by decide)) (.int .i64 0)
        have TYkstv_0 := TYkst.far (p := ⟨NZ, 0, none⟩) (Blk.ne_ TYkst TZkst (by decide)) (.int .i64 0)
        have TZkstv_0 := TZkst.set0 (.int .i64 0)
        have Ekstv_1 := PW.far Ekstv_0 TZkstv_0 (fun e => own_blk_ne Ekstv_0.row TZkstv_0 (by decide) e.symm) (by decide) hZ 1 (.int .i64 0)
        have Rkstv_1 := own_far_any Rkstv_0 (p := ⟨NZ, 1, none⟩) (fun e => own_blk_ne Rkstv_0 TZkstv_0 (by decide) e.symm) (.int .i64 0)
        have TXkstv_1 := TXkstv_0.far (p := ⟨NZ, 1, none⟩) (Blk.ne_ TXkstv_0 TZkstv_0 (by decide)) (.int .i64 0)
        have TYkstv_1 := TYkstv_0.far (p := ⟨NZ, 1, none⟩) (Blk.ne_ TYkstv_0 TZkstv_0 (by decide)) (.int .i64 0)
        have TZkstv_1 := TZkstv_0.set1 (.int .i64 0)
        have Ekstv := Ekstv_1
        have Rkstv := Rkstv_1
        have TXkstv := TXkstv_1
        have TYkstv := TYkstv_1
        have TZkstv := TZkstv_1
        clear cZ0 fZ0 cZ1 fZ1
        generalize ((vkst.setCell ⟨NZ, 0, none⟩ (.int .i64 0)).setCell ⟨NZ, 1, none⟩ (.int .i64 0)) = vkstv at Ekstv Rkstv TXkstv TYkstv TZkstv ⊢
        have Qkstv : vkstv.cell? ⟨g, off + k * 2, none⟩ = some (.int .i64 xb) ∧ vkstv.cell? ⟨g, off + k * 2 + 1, none⟩ = some (.int .i64 xp) ∧ vkstv.cell? ⟨C, 0, none⟩ = some (.int .i64 l) ∧ vkstv.cell? ⟨C, 1, none⟩ = some (.int .i64 u) ∧ vkstv.cell? ⟨C, 2, none⟩ = some (.int .i64 (q : Nat)) := And.intro (RdC.held HW.out Ekstv.bel0 rfl HXX.out).1 (And.intro (RdC.held HW.out Ekstv.bel0 rfl HXX.out).2 (PW.cells Ekstv))
        refine hK.out _ _ ?_ (fun hSx => ?_)
        · first | exact Qkstv | ((try dsimp only); go_keep)
        clear hK K hSx Ekst Qkst Rkst TXkst TYkst TZkst
        (try simp only [Act.put, List.setIfInBounds_toArray, List.set_cons_zero, List.set_cons_succ])
        refine wpAnyH_done (by kernel_rfl) ?_ _
        refine NoPanic.normal ?_
        have hne1 : NX ≠ C := by omega
        have hne2 : C ≠ NX := by omega
        have hne3 : NY ≠ C := by omega
        have hne4 : C ≠ NY := by omega
        have hne5 : NZ ≠ C := by omega
        have hne6 : C ≠ NZ := by omega
        have x0 := TXkstv.c0
        have x1 := TXkstv.c1
        have x2 := TXkstv.c2
        have y0 := TYkstv.c0
        have y1 := TYkstv.c1
        have z0 := TZkstv.c0
        have d0 := Ekstv.cod.c0
        have d1 := Ekstv.cod.c1
        have d2 := Ekstv.cod.c2
        have d3 := Ekstv.cod.f0
        have d4 := Ekstv.cod.f1
        have d5 := Ekstv.cod.f2
        have E9 := Ekstv.set LO HI Q2
        have HROW := Lib.hid E9.row
        have hsz9 := E9.lt
        have R9 := own_low (own_low (own_low Rkstv (p := ⟨C, 0, none⟩) (Nat.lt_succ_self C) (.int .i64 LO)) (p := ⟨C, 1, none⟩) (Nat.lt_succ_self C) (.int .i64 HI)) (p := ⟨C, 2, none⟩) (Nat.lt_succ_self C) (.int .i64 (Q2 : Nat))
        clear Qkstv
        go_wp2_with (at_builtin; refine wpList_bits1 _ rfl _ _ 71 rfl (C + 1) 25 i0 _ 32 Try.underlying71 hi0 hz0 hz1 hz2 rfl _ _ _ rfl HROW.out _ _ (icl_one A2 n2 c2 (S2.length : Nat)) _ rfl ?g3 ?g1 ?g2 hsz9 ?_)
        case g3 => simp
        case g1 => unfold maxLen; omega
        case g2 => omega
        intro A4 c4 w4 o4 g4
        have E10 := PW.app (x := ⟨A2, n2, c2, pack S2, (S2.length : Nat)⟩) E9 R9 o4 g4
        clear o4 g4 R9 E9 HROW x0 x1 x2 y0 y1 z0 d0 d1 d2 d3 d4 d5
        go_wp2_with fail
        go_roundw
        case rel => exact ⟨k + 1, LO, HI, Q2, S ++ S2, A4, c4, xs ++ [⟨A2, n2, c2, pack S2, (S2.length : Nat)⟩], by omega, by go_num, rfl, by rw [HSN.out], by rw [HSN.out], by rw [HSS.out], by rw [HSS.out], HPJ.out.snoc H2.out hS2l A2 n2 c2, E10⟩
        case measure => simp [intOf] <;> omega
    · obtain rfl : k = cs.length := by omega
      obtain ⟨b, hb⟩ : ∃ b : Nat, b = if l < 16384 then 0 else 1 := ⟨_, rfl⟩
      have hb1 : b ≤ 1 := by rw [hb]; split <;> omega
      have HCO := Lib.hid (show S ++ crt b (q + 1) = acode cs by
        have e1 := HLO.out
        have e2 := HS.out
        have e3 := HQ.out
        rw [List.take_of_length_le (Nat.le_refl _)] at e1 e2 e3
        unfold acode
        rw [← e1, ← e2, ← e3, hb])
      obtain ⟨T, hT⟩ : ∃ T, T = crt b (q + 1) := ⟨_, rfl⟩
      have HFI := Lib.hid (fun (W : World) => finish_own (lo := l) (hi := u) (q := q) ⟨hw, by omega, by omega⟩ b hb W)
      rw [← hT] at HFI HCO
      have hTl : T.length ≤ q + 2 := by rw [hT]; simp [crt]
      have HT1 := Lib.hid (show Is01 T from Is01.of_mem fun y hy => by
        rw [hT] at hy
        simp [crt] at hy
        omega)
      have hxl : xs.length ≤ cs.length := Nat.le_of_eq E4.hn
      have HE := Lib.hid E4
      have c0 := E4.cod.c0
      have c1 := E4.cod.c1
      have c2 := E4.cod.c2
      clear hb hT hw
      go_wp2_with fail
      refine (HFI.out _).mono ?_
      rintro e w5 ⟨A2, n2, c2', rfl, o5, y5⟩
      have hsz5 : C + 1 ≤ wr.heap.size := HE.out.lt
      have E5 := (HE.out.on y5)
      have R5 := own_base hsz5 o5
      have E6 := (E5.alloc (.cells #[.slice A2 n2 c2', .int .i64 T.length] 25)).alloc (.cells #[.int .i64 0, .int .i64 0] 27)
      have R6 := own_on (own_on R5 ((Below.refl _ _).alloc (Nat.le_refl _) (.cells #[.slice A2 n2 c2', .int .i64 T.length] 25))) ((Below.refl _ _).alloc (Nat.le_refl _) (.cells #[.int .i64 0, .int .i64 0] 27))
      have T11 := (Two.new w5 25 (.slice A2 n2 c2') (.int .i64 T.length)).alloc (.cells #[.int .i64 0, .int .i64 0] 27)
      have T12 := Two.new1 w5 (.cells #[.slice A2 n2 c2', .int .i64 T.length] 25) 27 (.int .i64 0) (.int .i64 0)
      have b0 := T11.c0
      have b1 := T11.c1
      have HROW := Lib.hid E6.row
      have hsz6 := E6.lt
      have HE6 := Lib.hid E6
      have HR6 := Lib.hid R6
      have HT12 := Lib.hid T12
      clear E5 R5 E6 R6 T12 T11 o5 c0 c1 c2 y5
      go_wp2_with (at_builtin; refine wpList_bits1 _ rfl _ _ 71 rfl (C + 1) 25 i0 _ 32 Try.underlying71 hi0 hz0 hz1 hz2 rfl _ _ _ rfl HROW.out _ _ (icl_one A2 n2 c2' (T.length : Nat)) _ rfl ?g3 ?g1 ?g2 hsz6 ?_)
      case g3 => simp
      case g1 => unfold maxLen; omega
      case g2 => omega
      intro A7 c7 w7 o7 g7
      have E7 := PW.app (x := ⟨A2, n2, c2', pack T, (T.length : Nat)⟩) HE6.out HR6.out o7 g7
      have T7 := Two.grown HT12.out g7 (fun e => own_two_ne HROW.out HT12.out (by decide) e.symm)
      obtain ⟨hwf, hJ, hJR⟩ := (HPJ.out.snoc HT1.out (by omega) A2 n2 c2').out (by rw [List.length_append, List.length_singleton]; omega) (by rw [List.length_append]; omega)
      have HJN := Lib.hid (fun (W : World) (hW : RdB W A7 (cs.length + 1) c7 (xs ++ [⟨A2, n2, c2', pack T, (T.length : Nat)⟩])) => join_any hW hwf hJ)
      rw [hJR, HCO.out, ← HKK.out] at HJN
      have HE7 := Lib.hid E7
      clear hwf hJ hJR o7 g7 b0 b1 HROW E7
      go_wp2_with fail
      refine (HJN.out _ HE7.out.rdB).mono ?_
      rintro e w8 ⟨A8, n8, c8, rfl, o8, y8⟩
      have E8 := HE7.out.on y8
      have T8 := (((T7.on y8).alloc (.cells #[.slice A8 n8 c8, .int .i64 (kk : Nat)] 25))).alloc (.cells #[.int .i64 0, .int .i64 0] 27)
      have X8 := (Two.new w8 25 (.slice A8 n8 c8) (.int .i64 (kk : Nat))).alloc (.cells #[.int .i64 0, .int .i64 0] 27)
      have Y8 := Two.new1 w8 (.cells #[.slice A8 n8 c8, .int .i64 (kk : Nat)] 25) 27 (.int .i64 0) (.int .i64 0)
      have B8 := ((HB.out.on E8.bel0).alloc (.cells #[.slice A8 n8 c8, .int .i64 (kk : Nat)] 25)).alloc (.cells #[.int .i64 0, .int .i64 0] 27)
      have Q8 := ((Rd.own o8).alloc (.cells #[.slice A8 n8 c8, .int .i64 (kk : Nat)] 25)).alloc (.cells #[.int .i64 0, .int .i64 0] 27)
      have P8 := ((HR.out.on E8.bel0).alloc (.cells #[.slice A8 n8 c8, .int .i64 (kk : Nat)] 25)).alloc (.cells #[.int .i64 0, .int .i64 0] 27)
      have Z8 := ((HZ.out.trans (E8.bel0.mono HZ.out.size)).alloc (by have := HZ.out.size; have := E8.bel0.size; omega) (.cells #[.slice A8 n8 c8, .int .i64 (kk : Nat)] 25)).alloc (by have := HZ.out.size; have := E8.bel0.size; simp; omega) (.cells #[.int .i64 0, .int .i64 0] 27)
      have t0 := T8.c0
      have x0 := X8.c0
      have x1 := X8.c1
      have y0 := Y8.c0
      have b0 := B8.c0
      have b1 := B8.c1
      clear T7 E8 T8 X8 Y8 B8 o8 y8
      go_wp2_with fail
      refine (api_same Q8 P8 H01.out H01.out true (by simp) _ _ (by rw [← HKK.out]) (by rw [← HKK.out])).mono ?_
      rintro e w9 ⟨rfl, y9⟩
      have Z9 := Z8.trans (y9.mono Z8.size)
      go_wp2
      go_ret
      exact ⟨rfl, Z9⟩
theorem as_all {A : Option Addr} {n c : Nat} {cs : List Cho} (w : World) (h : RdC w A n c cs) : Calls Try.prog 10 #[.slice A n c] w fun e w' => e = .returned (.bool true) ∧ Below w.heap.size w w' := by
  obtain ⟨code, idx, hC⟩ := cout_ex cs
  by_cases hc : code = 0
  · subst hc
    by_cases hl : 250 < cs.length
    · exact as_long hC hl w h
    · exact as_ok hC (by omega) w h
  · exact as_bad hC hc w h
end PB
end Go.Proofs.Ytnnpkajmheglgaa
