/-
  arith.bit, arith.open, arith.decode.
-/
import Derived.Test.YtnnpkajmheglgaaArRef
import Derived.Test.YtnnpkajmheglgaaBoxes
import Derived.Test.YtnnpkajmheglgaaRegL
import Derived.Deep.Cut
import Derived.Deep.RegionWith
namespace Go.Proofs.Ytnnpkajmheglgaa
open Go.RowKit
attribute [local go_sem ↓] Go.wp_at_zero Go.wp_at_succ
set_option linter.unusedVariables false
set_option linter.unusedSimpArgs false
namespace PB
set_option maxRecDepth 100000 in
set_option maxHeartbeats 600000 in
theorem arbit_any {A : Option Addr} {n c : Nat} {l : List Nat} {w : World} (h : Rd w A n c (bcells (pack l))) (h01 : Is01 l) (hl : l.length ≤ 131072) (i : Nat) (ii : Int) (hii : ii = (i : Nat)) (hi : i ≤ 1000000) :
    Calls Try.prog 62 #[.agg #[.slice A n c, .int .i64 l.length], .int .i64 ii] w fun e w' => e = .returned (.int .i64 (l.getD i 0 : Nat)) ∧ Below w.heap.size w w' := by
  subst hii
  have hn := h.len
  rw [bcells_length, pack_length] at hn
  rcases Nat.lt_or_ge i l.length with hlt | hge
  · obtain ⟨b, off, rfl, hb, hc⟩ := Reads.byte h (by omega)
    have hcell := hc (i / 8) (by omega)
    have hcm := Reads.capMax h
    have hcap := Reads.cap h
    unfold maxLen at hcm
    have hcell' : ∀ o, (w.alloc o).cell? ⟨b, off + i / 8, none⟩ = some (.int .u8 (((pack l).getD (i / 8) 0 : Nat) : Int)) := fun o => (World.cell?_alloc_lt _ _ _ (by simp; omega)).trans hcell
    have hx := pack_lt h01 (i / 8)
    have HBI := Lib.hid (bitAt_pack h01 i)
    have k1 : decide ((l.length : Int) ≤ (i : Int)) = false := by simp; omega
    have k3 : decide (l.length ≤ i) = false := by simp; omega
    have k2 : i < 8 * n := by omega
    clear hc h hcell h01
    go_enter Try.func62, Try.ntmps62
    go_wp2
    go_ret
    refine ⟨ret_int ?_, (Below.refl _ _).alloc (Nat.le_refl _) _⟩
    rw [List.getD_eq_getElem?_getD] at hx
    rw [shr_and_wrap _ _ hx]
    have := HBI.out
    unfold bitAt at this
    rw [← this, List.getD_eq_getElem?_getD]
  · have HBI := Lib.hid (getD_ge hge)
    have k1 : decide ((l.length : Int) ≤ (i : Int)) = true := by simp; omega
    have k3 : decide (l.length ≤ i) = true := by simp; omega
    clear hn h h01
    go_enter Try.func62, Try.ntmps62
    go_wp2
    go_ret
    exact ⟨ret_int (by rw [HBI.out]; rfl), (Below.refl _ _).alloc (Nat.le_refl _) _⟩
theorem num16_succ (l : List Nat) (k : Nat) : num ((List.range (k + 1)).map fun i => l.getD i 0) = 2 * num ((List.range k).map fun i => l.getD i 0) + l.getD k 0 := by
  rw [List.range_succ, List.map_append, List.map_singleton, num_snoc]
theorem num16_le {l : List Nat} (h01 : Is01 l) (k : Nat) : num ((List.range k).map fun i => l.getD i 0) < 2 ^ k := by
  have : Is01 ((List.range k).map fun i => l.getD i 0) := Is01.of_mem fun x hx => by
    obtain ⟨i, _, rfl⟩ := List.mem_map.1 hx
    exact h01 i
  have h := num_lt this
  simpa using h
set_option maxRecDepth 100000 in
set_option maxHeartbeats 1600000 in
theorem aropen_any {A : Option Addr} {n c : Nat} {l : List Nat} {w : World} (h : Rd w A n c (bcells (pack l))) (h01 : Is01 l) (hl : l.length ≤ 131072) (V : Nat) (hV : V = num ((List.range 16).map fun i => l.getD i 0)) :
    Calls Try.prog 53 #[.agg #[.slice A n c, .int .i64 l.length]] w fun e w' => e = .returned (.agg #[.int .i64 0, .int .i64 65535, .int .i64 (V : Nat), .int .i64 16]) ∧ Below w.heap.size w w' := by
  have HV := Lib.hid hV
  have HN := Lib.hid (fun k => num16_le h01 k)
  have H01 := Lib.hid h01
  have HBT := Lib.hid (fun (i : Nat) (hi : i ≤ 1000000) (ii : Int) (hii : ii = (i : Nat)) (W : World) (hW : Rd W A n c (bcells (pack l))) => arbit_any hW h01 hl i ii hii hi)
  clear hV h01
  have C0 := (((Two.new w 25 (.slice A n c) (.int .i64 l.length)).alloc (.cells #[.int .i64 0, .int .i64 0, .int .i64 0, .int .i64 0] 62))).alloc (.cells #[.int .i64 0, .int .i64 65535, .int .i64 0, .int .i64 16] 62)
  have R0 := (Four.new1 w (.cells #[.slice A n c, .int .i64 l.length] 25) 62 (.int .i64 0) (.int .i64 0) (.int .i64 0) (.int .i64 0)).alloc (.cells #[.int .i64 0, .int .i64 65535, .int .i64 0, .int .i64 16] 62)
  have D0 := Four.new2 w (.cells #[.slice A n c, .int .i64 l.length] 25) (.cells #[.int .i64 0, .int .i64 0, .int .i64 0, .int .i64 0] 62) 62 (.int .i64 0) (.int .i64 65535) (.int .i64 0) (.int .i64 16)
  have y0 : Below w.heap.size w (((w.alloc (.cells #[.slice A n c, .int .i64 l.length] 25)).alloc (.cells #[.int .i64 0, .int .i64 0, .int .i64 0, .int .i64 0] 62)).alloc (.cells #[.int .i64 0, .int .i64 65535, .int .i64 0, .int .i64 16] 62)) := (((Below.refl _ _).alloc (Nat.le_refl _) _).alloc (by simp) _).alloc (by simp; omega) _
  go_enter Try.func53, Try.ntmps53
  go_wp2_with fail
  generalize (((w.alloc (.cells #[.slice A n c, .int .i64 l.length] 25)).alloc (.cells #[.int .i64 0, .int .i64 0, .int .i64 0, .int .i64 0] 62)).alloc (.cells #[.int .i64 0, .int .i64 65535, .int .i64 0, .int .i64 16] 62)) = W at C0 R0 D0 y0 ⊢
  go_loopw [4, 6] (fun _ i wr => ∃ (k v : Nat), k ≤ 16 ∧ i = .int .i64 (k : Nat) ∧ v = num ((List.range k).map fun i => l.getD i 0) ∧ v < 65536 ∧ Two wr w.heap.size 25 (.slice A n c) (.int .i64 l.length) ∧
      Four wr (w.heap.size + 1) 62 (.int .i64 0) (.int .i64 0) (.int .i64 0) (.int .i64 0) ∧ Four wr (w.heap.size + 2) 62 (.int .i64 0) (.int .i64 65535) (.int .i64 (v : Nat)) (.int .i64 16) ∧ Below w.heap.size w wr) (fun _ i _ => 16 - (intOf i).toNat)
  case atStart => exact ⟨0, 0, by omega, rfl, rfl, by omega, C0, R0, D0, y0⟩
  case round =>
    obtain ⟨k, v, hk, rfl, hv, hvl, C1, R1, D1, yr⟩ := hrel
    have HVV := Lib.hid hv
    clear C0 R0 D0 y0 hv
    by_cases hlt : k < 16
    · have hR := h.on yr
      have c0 := C1.c0
      have c1 := C1.c1
      have d2 := D1.c2
      have d3 := D1.f2
      have hvb : 2 * v < 65536 := by
        have := HN.out k
        rw [← HVV.out] at this
        have : 2 ^ k ≤ 2 ^ 15 := Nat.pow_le_pow_right (by decide) (by omega)
        omega
      go_wp2_with fail
      obtain ⟨x, hx⟩ : ∃ x, x = l.getD k 0 := ⟨_, rfl⟩
      have HBX := Lib.hid (fun (W : World) (hW : Rd W A n c (bcells (pack l))) => HBT.out k (by omega) (k : Nat) rfl W hW)
      rw [← hx] at HBX
      have hb1 : x < 2 := by rw [hx]; exact H01.out k
      have HX := Lib.hid hx
      clear hx
      have q1 : IntKind.i64.wrap (2 * (v : Int)) = 2 * (v : Int) := IntWalk.i64_in _ (by omega)
      have q2 : IntKind.i64.wrap (2 * (v : Int) + (x : Int)) = 2 * (v : Int) + (x : Int) := IntWalk.i64_in _ (by omega)
      refine wp_region_noPanic ?_
      refine region_anyL (S := fun w' => w'.cell? ⟨w.heap.size, 0, none⟩ = some (.slice A n c) ∧ w'.cell? ⟨w.heap.size, 1, none⟩ = some (.int .i64 l.length) ∧ w'.cell? ⟨w.heap.size + 2, 2, none⟩ = some (.int .i64 (v : Nat))) 8 (by kernel_rfl) (by first | trivial | (dsimp only; go_keep)) (fun hR1 => ?_)
      refine anyL_take (i := 0) (v := ?_) rfl (by kernel_rfl) (by kernel_rfl) (by kernel_rfl) (by kernel_rfl) (by rfl) (fun _ _ _ h => h) (Or.inl ⟨by rfl, ?_⟩) (by assumption) ?_
      rotate_left 1
      focus (intro wS hSw; (try dsimp only at hSw); go_simp; try with_reducible rfl)
      (try simp only [Act.put, List.setIfInBounds_toArray, List.set_cons_zero, List.set_cons_succ])
      refine anyL_take (i := 1) (v := ?_) rfl (by kernel_rfl) (by kernel_rfl) (by kernel_rfl) (by kernel_rfl) (by rfl) (fun _ _ _ h => h) (Or.inl ⟨by rfl, ?_⟩) (by assumption) ?_
      rotate_left 1
      focus (intro wS hSw; (try dsimp only at hSw); go_simp; try with_reducible rfl)
      (try simp only [Act.put, List.setIfInBounds_toArray, List.set_cons_zero, List.set_cons_succ])
      refine anyL_take (i := 2) (v := ?_) rfl (by kernel_rfl) (by kernel_rfl) (by kernel_rfl) (by kernel_rfl) (by rfl) (fun _ _ _ h => h) (Or.inl ⟨by rfl, ?_⟩) (by assumption) ?_
      rotate_left 1
      focus (intro wS hSw; (try dsimp only at hSw); go_simp; try with_reducible rfl)
      (try simp only [Act.put, List.setIfInBounds_toArray, List.set_cons_zero, List.set_cons_succ])
      refine anyL_take (i := 3) (v := ?_) rfl (by kernel_rfl) (by kernel_rfl) (by kernel_rfl) (by kernel_rfl) (by rfl) (fun _ _ _ h => h) (Or.inl ⟨by rfl, ?_⟩) (by assumption) ?_
      rotate_left 1
      focus (intro wS hSw; (try dsimp only at hSw); go_simp; try with_reducible rfl)
      (try simp only [Act.put, List.setIfInBounds_toArray, List.set_cons_zero, List.set_cons_succ])
      refine anyL_take (i := 4) (v := ?_) rfl (by kernel_rfl) (by kernel_rfl) (by kernel_rfl) (by kernel_rfl) (by rfl) (fun _ _ _ h => h) (Or.inl ⟨by rfl, ?_⟩) (by assumption) ?_
      rotate_left 1
      focus (intro wS hSw; (try dsimp only at hSw); go_simp; try with_reducible rfl)
      (try simp only [Act.put, List.setIfInBounds_toArray, List.set_cons_zero, List.set_cons_succ])
      refine anyL_ready (rs := [5]) (by kernel_rfl) (by simp) ?_
      refine (AllL.cons rfl rfl (fun K hK => ?_) AllL.nil)
      go_simp
      refine (HBX.out _ hR.drew).mono ?_
      rintro e w1 ⟨rfl, y1⟩
      have C2 := Two.on (w := wr.drew) C1.drew y1
      have R2 := Four.on (w := wr.drew) R1.drew y1
      have D2 := Four.on (w := wr.drew) D1.drew y1
      have Y2 := (belowD yr).trans (Below.mono (w := wr.drew) y1 yr.size)
      have a0 := C2.c0
      have a1 := C2.c1
      have e2 := D2.c2
      have e3 := D2.f2
      (try go_wp2_with fail)
      refine hK.out _ _ ?_ (fun hR2 => ?_)
      · first | trivial | ((try dsimp only); go_keep)
      clear hK K hR1
      (try simp only [Act.put, List.setIfInBounds_toArray, List.set_cons_zero, List.set_cons_succ])
      refine anyL_take (i := 6) (v := ?_) rfl (by kernel_rfl) (by kernel_rfl) (by kernel_rfl) (by kernel_rfl) (by rfl) (fun _ _ _ h => h) (Or.inl ⟨by rfl, ?_⟩) (by assumption) ?_
      rotate_left 1
      focus (intro wS hSw; (try dsimp only at hSw); go_simp; try with_reducible rfl)
      (try simp only [Act.put, List.setIfInBounds_toArray, List.set_cons_zero, List.set_cons_succ])
      refine anyL_take (i := 7) (v := ?_) rfl (by kernel_rfl) (by kernel_rfl) (by kernel_rfl) (by kernel_rfl) (by rfl) (fun _ _ _ h => h) (Or.inl ⟨by rfl, ?_⟩) (by assumption) ?_
      rotate_left 1
      focus (intro wS hSw; (try dsimp only at hSw); go_simp; try with_reducible rfl)
      (try simp only [Act.put, List.setIfInBounds_toArray, List.set_cons_zero, List.set_cons_succ])
      refine anyL_ready (rs := [8]) (by kernel_rfl) (by simp) ?_
      refine (AllL.last rfl rfl (fun K hK => ?_) AllL.nil)
      go_simp
      refine hK.out _ _ ?_
      clear hK K hR2
      (try simp only [Act.put, List.setIfInBounds_toArray, List.set_cons_zero, List.set_cons_succ])
      refine anyL_done (by kernel_rfl) ?_ _
      refine NoPanic.normal ?_
      have C3 := C2.far (p := ⟨w.heap.size + 2, 2, none⟩) (by simp) (.int .i64 (2 * (v : Int) + (x : Nat)))
      have R3 := R2.far (p := ⟨w.heap.size + 2, 2, none⟩) (by simp) (.int .i64 (2 * (v : Int) + (x : Nat)))
      have D3 := D2.set2 (.int .i64 (2 * (v : Int) + (x : Nat)))
      have Y3 := Y2.setCell (p := ⟨w.heap.size + 2, 2, none⟩) (by simp) (.int .i64 (2 * (v : Int) + (x : Nat)))
      clear q1 q2
      go_wp2_with fail
      go_roundw
      case rel => exact ⟨k + 1, 2 * v + x, by omega, by go_num, by rw [num16_succ, HVV.out, HX.out], by omega, C3, R3, by simpa using D3, Y3⟩
      case measure => simp [intOf] <;> omega
    · obtain rfl : k = 16 := by omega
      have d0 := D1.c0
      have d1 := D1.c1
      have d2 := D1.c2
      have d3 := D1.c3
      have r0 := R1.c0
      have r1 := R1.c1
      have r2 := R1.c2
      have r3 := R1.c3
      have r4 := R1.f0
      have r5 := R1.f1
      have r6 := R1.f2
      have r7 := R1.f3
      have HE := Lib.hid (show v = V by rw [HV.out, HVV.out])
      go_wp2
      have q := (((R1.set0 (.int .i64 0)).set1 (.int .i64 65535)).set2 (.int .i64 (v : Nat))).set3 (.int .i64 16)
      have q0 := q.c0
      have q1 := q.c1
      have q2 := q.c2
      have q3 := q.c3
      exact bodyPost_ret (v := .agg #[.int .i64 0, .int .i64 65535, .int .i64 (v : Nat), .int .i64 16]) (by simp [results, Try.results53, go_sem, q0, q1, q2, q3]) rfl ⟨by rw [HE.out], (((yr.setCell (p := ⟨w.heap.size + 1, 0, none⟩) (by simp) _).setCell (p := ⟨w.heap.size + 1, 1, none⟩) (by simp) _).setCell (p := ⟨w.heap.size + 1, 2, none⟩) (by simp) _).setCell (p := ⟨w.heap.size + 1, 3, none⟩) (by simp) _⟩
theorem part_int {lo hi p : Int} {b : Nat} (bi : Int) (hbi : bi = (b : Nat)) (hb : b ≤ 1) (h : Wid lo hi) (h1 : 1 ≤ p) (h2 : p ≤ 4095) (l2 u2 : Int) (hl : l2 = (partOf lo hi b p).1) (hu : u2 = (partOf lo hi b p).2) (w : World) :
    Calls Try.prog 58 #[.int .i64 lo, .int .i64 hi, .int .i64 bi, .int .i64 p] w fun e w' => e = .returned (.tuple #[.int .i64 l2, .int .i64 u2]) ∧ w = w' := by
  subst hbi
  exact part_any hb h h1 h2 l2 u2 hl hu w
theorem fuel_pos' {l u : Int} {f : Nat} (h : Rng l u) (hf : 65536 < (u - l + 1) * 2 ^ f) : ∃ g, f = g + 1 := by
  obtain ⟨h1, h2, h3⟩ := h
  cases f with
  | zero => exfalso; rw [Int.pow_zero] at hf; omega
  | succ g => exact ⟨g, rfl⟩
theorem fuel_next' {l u : Int} {k f : Nat} (hf : 65536 < (u - l + 1) * 2 ^ (f + 1)) : 65536 < (2 * (u - 16384 * (k : Int)) + 1 - 2 * (l - 16384 * (k : Int)) + 1) * (2 : Int) ^ f := by
  have e : 2 * (u - 16384 * (k : Int)) + 1 - 2 * (l - 16384 * (k : Int)) + 1 = (u - l + 1) * 2 := by omega
  rw [e, Int.mul_assoc, Int.mul_comm 2]
  exact hf
theorem double_int' {lo hi : Int} {k : Nat} (h : Rng lo hi) (ht : twc lo hi = some k) (l2 u2 o2 : Int) (hl : l2 = 2 * (lo - 16384 * k)) (hu : u2 = 2 * (hi - 16384 * k) + 1) (ho : o2 = 16384 * k) (w : World) :
    Calls Try.prog 59 #[.int .i64 lo, .int .i64 hi] w fun e w' => e = .returned (.tuple #[.int .i64 l2, .int .i64 u2, .int .i64 o2, .bool true]) ∧ w = w' := by
  subst hl hu ho
  exact double_some h ht w
set_option maxRecDepth 100000 in
set_option maxHeartbeats 3200000 in
theorem decode_any {A : Option Addr} {n c : Nat} {l : List Nat} {w : World} (h : Rd w A n c (bcells (pack l))) (h01 : Is01 l) (hl : l.length ≤ 131072) {lo hi V p : Int} {t : Nat} (hW : Wid lo hi) (hV1 : lo ≤ V) (hV2 : V ≤ hi) (ht : t ≤ 400000) (h1 : 1 ≤ p) (h2 : p ≤ 4095) (b : Nat) (LO HI VV : Int) (TT : Nat)
    (hb : b = pickb ⟨lo, hi, V, t⟩ p) (hLO : LO = (stp lo hi b p).1) (hHI : HI = (stp lo hi b p).2.1) (hVV : VV = dv l (stp lo hi b p).2.2 V t) (hTT : TT = t + (stp lo hi b p).2.2.length) :
    Calls Try.prog 47 #[.agg #[.int .i64 lo, .int .i64 hi, .int .i64 V, .int .i64 (t : Nat)], .agg #[.slice A n c, .int .i64 l.length], .int .i64 p] w fun e w' => e = .returned (.tuple #[.int .i64 (b : Nat), .agg #[.int .i64 LO, .int .i64 HI, .int .i64 VV, .int .i64 (TT : Nat)]]) ∧ Below w.heap.size w w' := by
  have hb1 : b ≤ 1 := by rw [hb]; unfold pickb; split <;> omega
  have hpk := pick_part (d := ⟨lo, hi, V, t⟩) ⟨hW, hV1, hV2⟩ (p := p)
  rw [← hb] at hpk
  dsimp only at hpk
  have hr0 := part_rng b hW h1 h2
  obtain ⟨st1, st2, st3, st4⟩ := stp_facts b hW h1 h2
  obtain ⟨l2, hl2⟩ : ∃ l2, l2 = (partOf lo hi b p).1 := ⟨_, rfl⟩
  obtain ⟨u2, hu2⟩ : ∃ u2, u2 = (partOf lo hi b p).2 := ⟨_, rfl⟩
  obtain ⟨R, hR⟩ : ∃ R, R = (stp lo hi b p).2.2 := ⟨_, rfl⟩
  have hD0 : dbl 20 l2 u2 = (LO, HI, R) := by rw [hl2, hu2, hLO, hHI, hR]; rfl
  rw [← hR] at hVV hTT st2 st3
  rw [← hl2, ← hu2] at hpk
  obtain ⟨sp, hsp⟩ : ∃ sp, sp = splitOf lo hi p := ⟨_, rfl⟩
  have HB := Lib.hid (show b = if V ≤ sp then 1 else 0 by rw [hb, hsp]; rfl)
  have HD0 := Lib.hid hD0
  have HVV := Lib.hid hVV
  have HTT := Lib.hid hTT
  have HR0 := Lib.hid (show Rng l2 u2 by rw [hl2, hu2]; exact hr0)
  have HF0 := Lib.hid (show 65536 < (u2 - l2 + 1) * (2 : Int) ^ 20 by
    obtain ⟨r1, r2, r3⟩ := hr0
    have e : (2 : Int) ^ 20 = 1048576 := by decide
    rw [e, hl2, hu2]; omega)
  have HP1 := Lib.hid (fun (W : World) => part_int 1 rfl (by decide) hW h1 h2 lo sp rfl (by rw [hsp]; rfl) W)
  have HP2 := Lib.hid (fun (bi : Int) (hbi : bi = (b : Nat)) (W : World) => part_int bi hbi hb1 hW h1 h2 l2 u2 hl2 hu2 W)
  have H01 := Lib.hid h01
  have HBT := Lib.hid (fun (i : Nat) (hi : i ≤ 1000000) (ii : Int) (hii : ii = (i : Nat)) (W : World) (hW : Rd W A n c (bcells (pack l))) => arbit_any hW h01 hl i ii hii hi)
  have HRL := Lib.hid st2
  obtain ⟨hpk1, hpk2⟩ := hpk
  have HK1 := Lib.hid hpk1
  have HK2 := Lib.hid hpk2
  clear hl2 hu2 hD0 hR hVV hTT hLO hHI st1 st2 st3 st4 hr0 hsp hb h01 hpk1 hpk2 hW h1 h2 hV1 hV2
  have P0 := (((Four.new w 62 (.int .i64 lo) (.int .i64 hi) (.int .i64 V) (.int .i64 (t : Nat))).alloc (.cells #[.slice A n c, .int .i64 l.length] 25))).alloc (.cells #[.int .i64 0, .int .i64 0, .int .i64 0, .int .i64 0] 62)
  have C0 := (Two.new1 w (.cells #[.int .i64 lo, .int .i64 hi, .int .i64 V, .int .i64 (t : Nat)] 62) 25 (.slice A n c) (.int .i64 l.length)).alloc (.cells #[.int .i64 0, .int .i64 0, .int .i64 0, .int .i64 0] 62)
  have R0 := Four.new2 w (.cells #[.int .i64 lo, .int .i64 hi, .int .i64 V, .int .i64 (t : Nat)] 62) (.cells #[.slice A n c, .int .i64 l.length] 25) 62 (.int .i64 0) (.int .i64 0) (.int .i64 0) (.int .i64 0)
  have y0 : Below w.heap.size w (((w.alloc (.cells #[.int .i64 lo, .int .i64 hi, .int .i64 V, .int .i64 (t : Nat)] 62)).alloc (.cells #[.slice A n c, .int .i64 l.length] 25)).alloc (.cells #[.int .i64 0, .int .i64 0, .int .i64 0, .int .i64 0] 62)) := (((Below.refl _ _).alloc (Nat.le_refl _) _).alloc (by simp) _).alloc (by simp; omega) _
  have p0 := P0.c0
  have p1 := P0.c1
  have p2 := P0.c2
  have p3 := P0.c3
  have p4 := P0.f0
  have p5 := P0.f1
  have hcase : (V ≤ sp ∧ b = 1) ∨ (¬ V ≤ sp ∧ b = 0) := by
    have := HB.out
    by_cases hv : V ≤ sp
    · rw [if_pos hv] at this; exact .inl ⟨hv, this⟩
    · rw [if_neg hv] at this; exact .inr ⟨hv, this⟩
  clear HB hb1
  obtain ⟨dk, hdk, hbd⟩ : ∃ dk : Bool, decide (V ≤ sp) = dk ∧ b = dk.toNat := by
    rcases hcase with ⟨a1, a2⟩ | ⟨a1, a2⟩
    · exact ⟨true, by simpa using a1, a2⟩
    · exact ⟨false, by simpa using a1, a2⟩
  clear hcase
  cases dk
  · simp only [Bool.toNat_true, Bool.toNat_false] at hbd
    subst hbd
    go_enter Try.func47, Try.ntmps47
    go_wp2_with fail
    refine (HP1.out _).mono ?_
    rintro e w9 ⟨rfl, rfl⟩
    go_wp2_with fail
    refine (HP2.out _ rfl _).mono ?_
    rintro e w9 ⟨rfl, rfl⟩
    go_wp2_with fail
    have P1 := (((Four.new w 62 (.int .i64 l2) (.int .i64 u2) (.int .i64 V) (.int .i64 (t : Nat))).alloc (.cells #[.slice A n c, .int .i64 l.length] 25))).alloc (.cells #[.int .i64 0, .int .i64 0, .int .i64 0, .int .i64 0] 62)
    have C1 := (Two.new1 w (.cells #[.int .i64 l2, .int .i64 u2, .int .i64 V, .int .i64 (t : Nat)] 62) 25 (.slice A n c) (.int .i64 l.length)).alloc (.cells #[.int .i64 0, .int .i64 0, .int .i64 0, .int .i64 0] 62)
    have R1 := Four.new2 w (.cells #[.int .i64 l2, .int .i64 u2, .int .i64 V, .int .i64 (t : Nat)] 62) (.cells #[.slice A n c, .int .i64 l.length] 25) 62 (.int .i64 0) (.int .i64 0) (.int .i64 0) (.int .i64 0)
    have y1 : Below w.heap.size w (((w.alloc (.cells #[.int .i64 l2, .int .i64 u2, .int .i64 V, .int .i64 (t : Nat)] 62)).alloc (.cells #[.slice A n c, .int .i64 l.length] 25)).alloc (.cells #[.int .i64 0, .int .i64 0, .int .i64 0, .int .i64 0] 62)) := (((Below.refl _ _).alloc (Nat.le_refl _) _).alloc (by simp) _).alloc (by simp; omega) _
    generalize (((w.alloc (.cells #[.int .i64 l2, .int .i64 u2, .int .i64 V, .int .i64 (t : Nat)] 62)).alloc (.cells #[.slice A n c, .int .i64 l.length] 25)).alloc (.cells #[.int .i64 0, .int .i64 0, .int .i64 0, .int .i64 0] 62)) = W at P1 C1 R1 y1 ⊢
    clear P0 C0 R0 y0 p0 p1 p2 p3 p4 p5
    go_loopw [11, 12, 13, 14] (fun _ _ _ _ wr => ∃ (a u v : Int) (s f : Nat) (rest : List Nat), Rng a u ∧ dbl f a u = (LO, HI, rest) ∧ 65536 < (u - a + 1) * (2 : Int) ^ f ∧ a ≤ v ∧ v ≤ u ∧ dv l rest v s = VV ∧ s + rest.length = TT ∧ s + rest.length ≤ 400020 ∧
        Four wr w.heap.size 62 (.int .i64 a) (.int .i64 u) (.int .i64 v) (.int .i64 (s : Nat)) ∧ Two wr (w.heap.size + 1) 25 (.slice A n c) (.int .i64 l.length) ∧ Four wr (w.heap.size + 2) 62 (.int .i64 0) (.int .i64 0) (.int .i64 0) (.int .i64 0) ∧ Below w.heap.size w wr)
        (fun _ _ _ _ wr => (65536 - (intOf ((wr.cell? ⟨w.heap.size, 1, none⟩).getD undef) - intOf ((wr.cell? ⟨w.heap.size, 0, none⟩).getD undef))).toNat)
    case atStart => exact ⟨l2, u2, V, t, 20, R, HR0.out, HD0.out, HF0.out, HK1.out, HK2.out, HVV.out.symm, HTT.out.symm, by have := HRL.out; omega, P1, C1, R1, y1⟩
    case round =>
      obtain ⟨a, u, v, s, f, rest, hrg, hd, hf, hv1, hv2, hvv, htt, hst, P2, C2, R2, yr⟩ := hrel
      clear P1 C1 R1 y1
      have HD := Lib.hid hd
      have HF := Lib.hid hf
      have HRG := Lib.hid hrg
      have HV2 := Lib.hid hvv
      have HT2 := Lib.hid htt
      obtain ⟨rg1, rg2, rg3⟩ := hrg
      clear hd hf hvv htt
      have p0 := P2.c0
      have p1 := P2.c1
      have p2 := P2.c2
      have p3 := P2.c3
      rcases twc_cases HRG.out with ⟨hn, hW⟩ | ⟨k, hk, hk2, hR'⟩
      · have HN := Lib.hid hn
        have e1 := HD.out
        rw [dbl_none hn] at e1
        injection e1 with e1 e2
        injection e2 with e2 e3
        subst e1 e2 e3
        have HA := Lib.hid (show v = VV from HV2.out)
        have HB := Lib.hid (show s = TT from HT2.out)
        clear hn hW
        have r0 := R2.c0
        have r1 := R2.c1
        have r2 := R2.c2
        have r3 := R2.c3
        have r4 := R2.f0
        have r5 := R2.f1
        have r6 := R2.f2
        have r7 := R2.f3
        go_wp2_with fail
        refine (double_none HRG.out HN.out _).mono ?_
        rintro e w9 ⟨rfl, rfl⟩
        go_wp2_with fail
        go_region
        go_wp2_with fail
        have q := ((((R2.set0 (.int .i64 a)).set1 (.int .i64 u)).set2 (.int .i64 v)).set3 (.int .i64 (s : Nat))).drew
        have q0 := q.c0
        have q1 := q.c1
        have q2 := q.c2
        have q3 := q.c3
        exact bodyPost_ret (v := .tuple #[.int .i64 (0 : Nat), .agg #[.int .i64 a, .int .i64 u, .int .i64 v, .int .i64 (s : Nat)]]) (by simp [results, Try.results47, go_sem, q0, q1, q2, q3]) rfl ⟨by rw [HA.out, HB.out], belowD ((((yr.setCell (p := ⟨w.heap.size + 2, 0, none⟩) (by simp) _).setCell (p := ⟨w.heap.size + 2, 1, none⟩) (by simp) _).setCell (p := ⟨w.heap.size + 2, 2, none⟩) (by simp) _).setCell (p := ⟨w.heap.size + 2, 3, none⟩) (by simp) _)⟩
      · obtain ⟨g, rfl⟩ := fuel_pos' HRG.out HF.out
        have hd1 := HD.out
        rw [dbl_some hk] at hd1
        injection hd1 with e1 e2
        injection e2 with e2 e3
        obtain ⟨a', ha'⟩ : ∃ a', a' = 2 * (a - 16384 * (k : Int)) := ⟨_, rfl⟩
        obtain ⟨u', hu'⟩ : ∃ u', u' = 2 * (u - 16384 * (k : Int)) + 1 := ⟨_, rfl⟩
        obtain ⟨o2, ho2⟩ : ∃ o2, o2 = 16384 * (k : Int) := ⟨_, rfl⟩
        rw [← ha', ← hu'] at e1 e2 e3 hR'
        obtain ⟨rest', hrest⟩ : ∃ r, r = (dbl g a' u').2.2 := ⟨_, rfl⟩
        have HD2 := Lib.hid (show dbl g a' u' = (LO, HI, rest') by rw [← e1, ← e2, hrest])
        rw [← hrest] at e3
        subst e3
        have HF2 := Lib.hid (show 65536 < (u' - a' + 1) * (2 : Int) ^ g by have := fuel_next' (k := k) HF.out; rwa [← ha', ← hu'] at this)
        have HL2 := Lib.hid hR'
        have HDB := Lib.hid (fun (W : World) => double_int' HRG.out hk a' u' o2 ha' hu' ho2 W)
        have hmm : u' - a' = 2 * (u - a) + 1 := by rw [hu', ha']; omega
        obtain ⟨n1, n2, n3⟩ := hR'
        obtain ⟨x, hx⟩ : ∃ x, x = l.getD s 0 := ⟨_, rfl⟩
        have hs4 : s ≤ 400020 := by omega
        have HBX := Lib.hid (fun (W : World) (hW : Rd W A n c (bcells (pack l))) => HBT.out s (by omega) (s : Nat) rfl W hW)
        rw [← hx] at HBX
        have hx1 : x < 2 := by rw [hx]; exact H01.out s
        have HV3 := Lib.hid (show dv l rest' (2 * (v - o2) + (x : Nat)) (s + 1) = VV by have := HV2.out; rw [dv, ← hx, ← ho2] at this; exact this)
        have HT3 := Lib.hid (show s + 1 + rest'.length = TT by have := HT2.out; rw [List.length_cons] at this; omega)
        rw [List.length_cons] at hst
        have b1 : a' ≤ 2 * (v - o2) + (x : Int) := by rw [ha', ho2]; omega
        have b2 : 2 * (v - o2) + (x : Int) ≤ u' := by rw [hu', ho2]; omega
        have b3 : 0 ≤ v - o2 := by rw [ha'] at n1; omega
        have q1 : IntKind.i64.wrap (v - o2) = v - o2 := IntWalk.i64_in _ (by omega)
        have q2 : IntKind.i64.wrap (2 * (v - o2)) = 2 * (v - o2) := IntWalk.i64_in _ (by omega)
        have q3 : IntKind.i64.wrap (2 * (v - o2) + (x : Int)) = 2 * (v - o2) + (x : Int) := IntWalk.i64_in _ (by omega)
        have q4 : IntKind.i64.wrap ((s : Int) + 1) = (s : Int) + 1 := IntWalk.i64_in _ (by omega)
        clear hk e1 e2 hrest ha' hu' ho2 hx
        have hR := h.on yr
        have c0 := C2.c0
        have c1 := C2.c1
        have MC0 := Lib.hid p0
        have MC1 := Lib.hid p1
        go_wp2_with fail
        refine (HDB.out _).mono ?_
        rintro e w9 ⟨rfl, rfl⟩
        go_wp2_with fail
        refine wp_region_noPanic ?_
        refine region_anyL (S := fun w' => w'.cell? ⟨w.heap.size + 1, 0, none⟩ = some (.slice A n c) ∧ w'.cell? ⟨w.heap.size + 1, 1, none⟩ = some (.int .i64 l.length) ∧ w'.cell? ⟨w.heap.size, 2, none⟩ = some (.int .i64 v) ∧ w'.cell? ⟨w.heap.size, 3, none⟩ = some (.int .i64 (s : Nat))) 16 (by kernel_rfl) (by first | trivial | (dsimp only; go_keep)) (fun hR4 => ?_)
        refine anyL_take (i := 0) (v := ?_) rfl (by kernel_rfl) (by kernel_rfl) (by kernel_rfl) (by kernel_rfl) (by rfl) (fun _ _ _ h => h) (Or.inl ⟨by rfl, ?_⟩) (by assumption) ?_
        rotate_left 1
        focus (intro wS hSw; (try dsimp only at hSw); go_simp; try with_reducible rfl)
        (try simp only [Act.put, List.setIfInBounds_toArray, List.set_cons_zero, List.set_cons_succ])
        refine anyL_take (i := 1) (v := ?_) rfl (by kernel_rfl) (by kernel_rfl) (by kernel_rfl) (by kernel_rfl) (by rfl) (fun _ _ _ h => h) (Or.inl ⟨by rfl, ?_⟩) (by assumption) ?_
        rotate_left 1
        focus (intro wS hSw; (try dsimp only at hSw); go_simp; try with_reducible rfl)
        (try simp only [Act.put, List.setIfInBounds_toArray, List.set_cons_zero, List.set_cons_succ])
        refine anyL_take (i := 2) (v := ?_) rfl (by kernel_rfl) (by kernel_rfl) (by kernel_rfl) (by kernel_rfl) (by rfl) (fun _ _ _ h => h) (Or.inl ⟨by rfl, ?_⟩) (by assumption) ?_
        rotate_left 1
        focus (intro wS hSw; (try dsimp only at hSw); go_simp; try with_reducible rfl)
        (try simp only [Act.put, List.setIfInBounds_toArray, List.set_cons_zero, List.set_cons_succ])
        refine anyL_take (i := 3) (v := ?_) rfl (by kernel_rfl) (by kernel_rfl) (by kernel_rfl) (by kernel_rfl) (by rfl) (fun _ _ _ h => h) (Or.inl ⟨by rfl, ?_⟩) (by assumption) ?_
        rotate_left 1
        focus (intro wS hSw; (try dsimp only at hSw); go_simp; try with_reducible rfl)
        (try simp only [Act.put, List.setIfInBounds_toArray, List.set_cons_zero, List.set_cons_succ])
        refine anyL_take (i := 4) (v := ?_) rfl (by kernel_rfl) (by kernel_rfl) (by kernel_rfl) (by kernel_rfl) (by rfl) (fun _ _ _ h => h) (Or.inl ⟨by rfl, ?_⟩) (by assumption) ?_
        rotate_left 1
        focus (intro wS hSw; (try dsimp only at hSw); go_simp; try with_reducible rfl)
        (try simp only [Act.put, List.setIfInBounds_toArray, List.set_cons_zero, List.set_cons_succ])
        refine anyL_take (i := 5) (v := ?_) rfl (by kernel_rfl) (by kernel_rfl) (by kernel_rfl) (by kernel_rfl) (by rfl) (fun _ _ _ h => h) (Or.inl ⟨by rfl, ?_⟩) (by assumption) ?_
        rotate_left 1
        focus (intro wS hSw; (try dsimp only at hSw); go_simp; try with_reducible rfl)
        (try simp only [Act.put, List.setIfInBounds_toArray, List.set_cons_zero, List.set_cons_succ])
        refine anyL_take (i := 6) (v := ?_) rfl (by kernel_rfl) (by kernel_rfl) (by kernel_rfl) (by kernel_rfl) (by rfl) (fun _ _ _ h => h) (Or.inl ⟨by rfl, ?_⟩) (by assumption) ?_
        rotate_left 1
        focus (intro wS hSw; (try dsimp only at hSw); go_simp; try with_reducible rfl)
        (try simp only [Act.put, List.setIfInBounds_toArray, List.set_cons_zero, List.set_cons_succ])
        refine anyL_take (i := 7) (v := ?_) rfl (by kernel_rfl) (by kernel_rfl) (by kernel_rfl) (by kernel_rfl) (by rfl) (fun _ _ _ h => h) (Or.inl ⟨by rfl, ?_⟩) (by assumption) ?_
        rotate_left 1
        focus (intro wS hSw; (try dsimp only at hSw); go_simp; try with_reducible rfl)
        (try simp only [Act.put, List.setIfInBounds_toArray, List.set_cons_zero, List.set_cons_succ])
        refine anyL_take (i := 8) (v := ?_) rfl (by kernel_rfl) (by kernel_rfl) (by kernel_rfl) (by kernel_rfl) (by rfl) (fun _ _ _ h => h) (Or.inl ⟨by rfl, ?_⟩) (by assumption) ?_
        rotate_left 1
        focus (intro wS hSw; (try dsimp only at hSw); go_simp; try with_reducible rfl)
        (try simp only [Act.put, List.setIfInBounds_toArray, List.set_cons_zero, List.set_cons_succ])
        refine anyL_take (i := 9) (v := ?_) rfl (by kernel_rfl) (by kernel_rfl) (by kernel_rfl) (by kernel_rfl) (by rfl) (fun _ _ _ h => h) (Or.inl ⟨by rfl, ?_⟩) (by assumption) ?_
        rotate_left 1
        focus (intro wS hSw; (try dsimp only at hSw); go_simp; try with_reducible rfl)
        (try simp only [Act.put, List.setIfInBounds_toArray, List.set_cons_zero, List.set_cons_succ])
        refine anyL_take (i := 12) (v := ?_) rfl (by kernel_rfl) (by kernel_rfl) (by kernel_rfl) (by kernel_rfl) (by rfl) (fun _ _ _ h => h) (Or.inl ⟨by rfl, ?_⟩) (by assumption) ?_
        rotate_left 1
        focus (intro wS hSw; (try dsimp only at hSw); go_simp; try with_reducible rfl)
        (try simp only [Act.put, List.setIfInBounds_toArray, List.set_cons_zero, List.set_cons_succ])
        refine anyL_take (i := 13) (v := ?_) rfl (by kernel_rfl) (by kernel_rfl) (by kernel_rfl) (by kernel_rfl) (by rfl) (fun _ _ _ h => h) (Or.inl ⟨by rfl, ?_⟩) (by assumption) ?_
        rotate_left 1
        focus (intro wS hSw; (try dsimp only at hSw); go_simp; try with_reducible rfl)
        (try simp only [Act.put, List.setIfInBounds_toArray, List.set_cons_zero, List.set_cons_succ])
        refine anyL_take (i := 14) (v := ?_) rfl (by kernel_rfl) (by kernel_rfl) (by kernel_rfl) (by kernel_rfl) (by rfl) (fun _ _ _ h => h) (Or.inl ⟨by rfl, ?_⟩) (by assumption) ?_
        rotate_left 1
        focus (intro wS hSw; (try dsimp only at hSw); go_simp; try with_reducible rfl)
        (try simp only [Act.put, List.setIfInBounds_toArray, List.set_cons_zero, List.set_cons_succ])
        refine anyL_ready (rs := [10]) (by kernel_rfl) (by simp) ?_
        refine (AllL.cons rfl rfl (fun K hK => ?_) AllL.nil)
        go_simp
        refine (HBX.out _ hR.drew).mono ?_
        rintro e w1 ⟨rfl, y1⟩
        have C3 := Two.on (w := wr.drew) C2.drew y1
        have R3 := Four.on (w := wr.drew) R2.drew y1
        have P3 := Four.on (w := wr.drew) P2.drew y1
        have Y3 := (belowD yr).trans (Below.mono (w := wr.drew) y1 yr.size)
        have a0 := C3.c0
        have a1 := C3.c1
        have e0 := P3.c0
        have e1 := P3.c1
        have e2 := P3.c2
        have e3 := P3.c3
        have e4 := P3.f0
        have e5 := P3.f1
        have e6 := P3.f2
        have e7 := P3.f3
        (try go_wp2_with fail)
        refine hK.out _ _ ?_ (fun hR5 => ?_)
        · first | trivial | ((try dsimp only); go_keep)
        clear hK K hR4
        (try simp only [Act.put, List.setIfInBounds_toArray, List.set_cons_zero, List.set_cons_succ])
        refine anyL_take (i := 11) (v := ?_) rfl (by kernel_rfl) (by kernel_rfl) (by kernel_rfl) (by kernel_rfl) (by rfl) (fun _ _ _ h => h) (Or.inl ⟨by rfl, ?_⟩) (by assumption) ?_
        rotate_left 1
        focus (intro wS hSw; (try dsimp only at hSw); go_simp; try with_reducible rfl)
        (try simp only [Act.put, List.setIfInBounds_toArray, List.set_cons_zero, List.set_cons_succ])
        refine anyL_take (i := 15) (v := ?_) rfl (by kernel_rfl) (by kernel_rfl) (by kernel_rfl) (by kernel_rfl) (by rfl) (fun _ _ _ h => h) (Or.inl ⟨by rfl, ?_⟩) (by assumption) ?_
        rotate_left 1
        focus (intro wS hSw; (try dsimp only at hSw); go_simp; try with_reducible rfl)
        (try simp only [Act.put, List.setIfInBounds_toArray, List.set_cons_zero, List.set_cons_succ])
        refine anyL_ready (rs := [16]) (by kernel_rfl) (by simp) ?_
        refine (AllL.last rfl rfl (fun K hK => ?_) AllL.nil)
        go_simp
        refine hK.out _ _ ?_
        clear hK K hR5
        (try simp only [Act.put, List.setIfInBounds_toArray, List.set_cons_zero, List.set_cons_succ])
        refine anyL_done (by kernel_rfl) ?_ _
        refine NoPanic.normal ?_
        have P4 := ((((P3.set0 (.int .i64 a')).set1 (.int .i64 u')).set2 (.int .i64 (2 * (v - o2) + (x : Int)))).set3 (.int .i64 ((s : Int) + 1)))
        have C4 := ((((C3.far (p := ⟨w.heap.size, 0, none⟩) (by simp) (.int .i64 a')).far (p := ⟨w.heap.size, 1, none⟩) (by simp) (.int .i64 u')).far (p := ⟨w.heap.size, 2, none⟩) (by simp) (.int .i64 (2 * (v - o2) + (x : Int)))).far (p := ⟨w.heap.size, 3, none⟩) (by simp) (.int .i64 ((s : Int) + 1)))
        have R4 := ((((R3.far (p := ⟨w.heap.size, 0, none⟩) (by simp) (.int .i64 a')).far (p := ⟨w.heap.size, 1, none⟩) (by simp) (.int .i64 u')).far (p := ⟨w.heap.size, 2, none⟩) (by simp) (.int .i64 (2 * (v - o2) + (x : Int)))).far (p := ⟨w.heap.size, 3, none⟩) (by simp) (.int .i64 ((s : Int) + 1)))
        have Y4 := ((((Y3.setCell (p := ⟨w.heap.size, 0, none⟩) (by simp) (.int .i64 a')).setCell (p := ⟨w.heap.size, 1, none⟩) (by simp) (.int .i64 u')).setCell (p := ⟨w.heap.size, 2, none⟩) (by simp) (.int .i64 (2 * (v - o2) + (x : Int)))).setCell (p := ⟨w.heap.size, 3, none⟩) (by simp) (.int .i64 ((s : Int) + 1)))
        have m0 := P4.c0
        have m1 := P4.c1
        clear q1 q2 q3 q4 e0 e1 e2 e3 e4 e5 e6 e7
        go_wp2_with fail
        go_roundw
        case rel => exact ⟨a', u', 2 * (v - o2) + (x : Int), s + 1, g, rest', HL2.out, HD2.out, HF2.out, b1, b2, HV3.out, HT3.out, by omega, P4, C4, R4, Y4⟩
        case measure => simp [m0, m1, MC0.out, MC1.out, intOf] <;> omega
  · simp only [Bool.toNat_true, Bool.toNat_false] at hbd
    subst hbd
    go_enter Try.func47, Try.ntmps47
    go_wp2_with fail
    refine (HP1.out _).mono ?_
    rintro e w9 ⟨rfl, rfl⟩
    go_wp2_with fail
    refine (HP2.out _ rfl _).mono ?_
    rintro e w9 ⟨rfl, rfl⟩
    go_wp2_with fail
    have P1 := (((Four.new w 62 (.int .i64 l2) (.int .i64 u2) (.int .i64 V) (.int .i64 (t : Nat))).alloc (.cells #[.slice A n c, .int .i64 l.length] 25))).alloc (.cells #[.int .i64 0, .int .i64 0, .int .i64 0, .int .i64 0] 62)
    have C1 := (Two.new1 w (.cells #[.int .i64 l2, .int .i64 u2, .int .i64 V, .int .i64 (t : Nat)] 62) 25 (.slice A n c) (.int .i64 l.length)).alloc (.cells #[.int .i64 0, .int .i64 0, .int .i64 0, .int .i64 0] 62)
    have R1 := Four.new2 w (.cells #[.int .i64 l2, .int .i64 u2, .int .i64 V, .int .i64 (t : Nat)] 62) (.cells #[.slice A n c, .int .i64 l.length] 25) 62 (.int .i64 0) (.int .i64 0) (.int .i64 0) (.int .i64 0)
    have y1 : Below w.heap.size w (((w.alloc (.cells #[.int .i64 l2, .int .i64 u2, .int .i64 V, .int .i64 (t : Nat)] 62)).alloc (.cells #[.slice A n c, .int .i64 l.length] 25)).alloc (.cells #[.int .i64 0, .int .i64 0, .int .i64 0, .int .i64 0] 62)) := (((Below.refl _ _).alloc (Nat.le_refl _) _).alloc (by simp) _).alloc (by simp; omega) _
    generalize (((w.alloc (.cells #[.int .i64 l2, .int .i64 u2, .int .i64 V, .int .i64 (t : Nat)] 62)).alloc (.cells #[.slice A n c, .int .i64 l.length] 25)).alloc (.cells #[.int .i64 0, .int .i64 0, .int .i64 0, .int .i64 0] 62)) = W at P1 C1 R1 y1 ⊢
    clear P0 C0 R0 y0 p0 p1 p2 p3 p4 p5
    go_loopw [11, 12, 13, 14] (fun _ _ _ _ wr => ∃ (a u v : Int) (s f : Nat) (rest : List Nat), Rng a u ∧ dbl f a u = (LO, HI, rest) ∧ 65536 < (u - a + 1) * (2 : Int) ^ f ∧ a ≤ v ∧ v ≤ u ∧ dv l rest v s = VV ∧ s + rest.length = TT ∧ s + rest.length ≤ 400020 ∧
        Four wr w.heap.size 62 (.int .i64 a) (.int .i64 u) (.int .i64 v) (.int .i64 (s : Nat)) ∧ Two wr (w.heap.size + 1) 25 (.slice A n c) (.int .i64 l.length) ∧ Four wr (w.heap.size + 2) 62 (.int .i64 0) (.int .i64 0) (.int .i64 0) (.int .i64 0) ∧ Below w.heap.size w wr)
        (fun _ _ _ _ wr => (65536 - (intOf ((wr.cell? ⟨w.heap.size, 1, none⟩).getD undef) - intOf ((wr.cell? ⟨w.heap.size, 0, none⟩).getD undef))).toNat)
    case atStart => exact ⟨l2, u2, V, t, 20, R, HR0.out, HD0.out, HF0.out, HK1.out, HK2.out, HVV.out.symm, HTT.out.symm, by have := HRL.out; omega, P1, C1, R1, y1⟩
    case round =>
      obtain ⟨a, u, v, s, f, rest, hrg, hd, hf, hv1, hv2, hvv, htt, hst, P2, C2, R2, yr⟩ := hrel
      clear P1 C1 R1 y1
      have HD := Lib.hid hd
      have HF := Lib.hid hf
      have HRG := Lib.hid hrg
      have HV2 := Lib.hid hvv
      have HT2 := Lib.hid htt
      obtain ⟨rg1, rg2, rg3⟩ := hrg
      clear hd hf hvv htt
      have p0 := P2.c0
      have p1 := P2.c1
      have p2 := P2.c2
      have p3 := P2.c3
      rcases twc_cases HRG.out with ⟨hn, hW⟩ | ⟨k, hk, hk2, hR'⟩
      · have HN := Lib.hid hn
        have e1 := HD.out
        rw [dbl_none hn] at e1
        injection e1 with e1 e2
        injection e2 with e2 e3
        subst e1 e2 e3
        have HA := Lib.hid (show v = VV from HV2.out)
        have HB := Lib.hid (show s = TT from HT2.out)
        clear hn hW
        have r0 := R2.c0
        have r1 := R2.c1
        have r2 := R2.c2
        have r3 := R2.c3
        have r4 := R2.f0
        have r5 := R2.f1
        have r6 := R2.f2
        have r7 := R2.f3
        go_wp2_with fail
        refine (double_none HRG.out HN.out _).mono ?_
        rintro e w9 ⟨rfl, rfl⟩
        go_wp2_with fail
        go_region
        go_wp2_with fail
        have q := ((((R2.set0 (.int .i64 a)).set1 (.int .i64 u)).set2 (.int .i64 v)).set3 (.int .i64 (s : Nat))).drew
        have q0 := q.c0
        have q1 := q.c1
        have q2 := q.c2
        have q3 := q.c3
        exact bodyPost_ret (v := .tuple #[.int .i64 (1 : Nat), .agg #[.int .i64 a, .int .i64 u, .int .i64 v, .int .i64 (s : Nat)]]) (by simp [results, Try.results47, go_sem, q0, q1, q2, q3]) rfl ⟨by rw [HA.out, HB.out], belowD ((((yr.setCell (p := ⟨w.heap.size + 2, 0, none⟩) (by simp) _).setCell (p := ⟨w.heap.size + 2, 1, none⟩) (by simp) _).setCell (p := ⟨w.heap.size + 2, 2, none⟩) (by simp) _).setCell (p := ⟨w.heap.size + 2, 3, none⟩) (by simp) _)⟩
      · obtain ⟨g, rfl⟩ := fuel_pos' HRG.out HF.out
        have hd1 := HD.out
        rw [dbl_some hk] at hd1
        injection hd1 with e1 e2
        injection e2 with e2 e3
        obtain ⟨a', ha'⟩ : ∃ a', a' = 2 * (a - 16384 * (k : Int)) := ⟨_, rfl⟩
        obtain ⟨u', hu'⟩ : ∃ u', u' = 2 * (u - 16384 * (k : Int)) + 1 := ⟨_, rfl⟩
        obtain ⟨o2, ho2⟩ : ∃ o2, o2 = 16384 * (k : Int) := ⟨_, rfl⟩
        rw [← ha', ← hu'] at e1 e2 e3 hR'
        obtain ⟨rest', hrest⟩ : ∃ r, r = (dbl g a' u').2.2 := ⟨_, rfl⟩
        have HD2 := Lib.hid (show dbl g a' u' = (LO, HI, rest') by rw [← e1, ← e2, hrest])
        rw [← hrest] at e3
        subst e3
        have HF2 := Lib.hid (show 65536 < (u' - a' + 1) * (2 : Int) ^ g by have := fuel_next' (k := k) HF.out; rwa [← ha', ← hu'] at this)
        have HL2 := Lib.hid hR'
        have HDB := Lib.hid (fun (W : World) => double_int' HRG.out hk a' u' o2 ha' hu' ho2 W)
        have hmm : u' - a' = 2 * (u - a) + 1 := by rw [hu', ha']; omega
        obtain ⟨n1, n2, n3⟩ := hR'
        obtain ⟨x, hx⟩ : ∃ x, x = l.getD s 0 := ⟨_, rfl⟩
        have hs4 : s ≤ 400020 := by omega
        have HBX := Lib.hid (fun (W : World) (hW : Rd W A n c (bcells (pack l))) => HBT.out s (by omega) (s : Nat) rfl W hW)
        rw [← hx] at HBX
        have hx1 : x < 2 := by rw [hx]; exact H01.out s
        have HV3 := Lib.hid (show dv l rest' (2 * (v - o2) + (x : Nat)) (s + 1) = VV by have := HV2.out; rw [dv, ← hx, ← ho2] at this; exact this)
        have HT3 := Lib.hid (show s + 1 + rest'.length = TT by have := HT2.out; rw [List.length_cons] at this; omega)
        rw [List.length_cons] at hst
        have b1 : a' ≤ 2 * (v - o2) + (x : Int) := by rw [ha', ho2]; omega
        have b2 : 2 * (v - o2) + (x : Int) ≤ u' := by rw [hu', ho2]; omega
        have b3 : 0 ≤ v - o2 := by rw [ha'] at n1; omega
        have q1 : IntKind.i64.wrap (v - o2) = v - o2 := IntWalk.i64_in _ (by omega)
        have q2 : IntKind.i64.wrap (2 * (v - o2)) = 2 * (v - o2) := IntWalk.i64_in _ (by omega)
        have q3 : IntKind.i64.wrap (2 * (v - o2) + (x : Int)) = 2 * (v - o2) + (x : Int) := IntWalk.i64_in _ (by omega)
        have q4 : IntKind.i64.wrap ((s : Int) + 1) = (s : Int) + 1 := IntWalk.i64_in _ (by omega)
        clear hk e1 e2 hrest ha' hu' ho2 hx
        have hR := h.on yr
        have c0 := C2.c0
        have c1 := C2.c1
        have MC0 := Lib.hid p0
        have MC1 := Lib.hid p1
        go_wp2_with fail
        refine (HDB.out _).mono ?_
        rintro e w9 ⟨rfl, rfl⟩
        go_wp2_with fail
        refine wp_region_noPanic ?_
        refine region_anyL (S := fun w' => w'.cell? ⟨w.heap.size + 1, 0, none⟩ = some (.slice A n c) ∧ w'.cell? ⟨w.heap.size + 1, 1, none⟩ = some (.int .i64 l.length) ∧ w'.cell? ⟨w.heap.size, 2, none⟩ = some (.int .i64 v) ∧ w'.cell? ⟨w.heap.size, 3, none⟩ = some (.int .i64 (s : Nat))) 16 (by kernel_rfl) (by first | trivial | (dsimp only; go_keep)) (fun hR4 => ?_)
        refine anyL_take (i := 0) (v := ?_) rfl (by kernel_rfl) (by kernel_rfl) (by kernel_rfl) (by kernel_rfl) (by rfl) (fun _ _ _ h => h) (Or.inl ⟨by rfl, ?_⟩) (by assumption) ?_
        rotate_left 1
        focus (intro wS hSw; (try dsimp only at hSw); go_simp; try with_reducible rfl)
        (try simp only [Act.put, List.setIfInBounds_toArray, List.set_cons_zero, List.set_cons_succ])
        refine anyL_take (i := 1) (v := ?_) rfl (by kernel_rfl) (by kernel_rfl) (by kernel_rfl) (by kernel_rfl) (by rfl) (fun _ _ _ h => h) (Or.inl ⟨by rfl, ?_⟩) (by assumption) ?_
        rotate_left 1
        focus (intro wS hSw; (try dsimp only at hSw); go_simp; try with_reducible rfl)
        (try simp only [Act.put, List.setIfInBounds_toArray, List.set_cons_zero, List.set_cons_succ])
        refine anyL_take (i := 2) (v := ?_) rfl (by kernel_rfl) (by kernel_rfl) (by kernel_rfl) (by kernel_rfl) (by rfl) (fun _ _ _ h => h) (Or.inl ⟨by rfl, ?_⟩) (by assumption) ?_
        rotate_left 1
        focus (intro wS hSw; (try dsimp only at hSw); go_simp; try with_reducible rfl)
        (try simp only [Act.put, List.setIfInBounds_toArray, List.set_cons_zero, List.set_cons_succ])
        refine anyL_take (i := 3) (v := ?_) rfl (by kernel_rfl) (by kernel_rfl) (by kernel_rfl) (by kernel_rfl) (by rfl) (fun _ _ _ h => h) (Or.inl ⟨by rfl, ?_⟩) (by assumption) ?_
        rotate_left 1
        focus (intro wS hSw; (try dsimp only at hSw); go_simp; try with_reducible rfl)
        (try simp only [Act.put, List.setIfInBounds_toArray, List.set_cons_zero, List.set_cons_succ])
        refine anyL_take (i := 4) (v := ?_) rfl (by kernel_rfl) (by kernel_rfl) (by kernel_rfl) (by kernel_rfl) (by rfl) (fun _ _ _ h => h) (Or.inl ⟨by rfl, ?_⟩) (by assumption) ?_
        rotate_left 1
        focus (intro wS hSw; (try dsimp only at hSw); go_simp; try with_reducible rfl)
        (try simp only [Act.put, List.setIfInBounds_toArray, List.set_cons_zero, List.set_cons_succ])
        refine anyL_take (i := 5) (v := ?_) rfl (by kernel_rfl) (by kernel_rfl) (by kernel_rfl) (by kernel_rfl) (by rfl) (fun _ _ _ h => h) (Or.inl ⟨by rfl, ?_⟩) (by assumption) ?_
        rotate_left 1
        focus (intro wS hSw; (try dsimp only at hSw); go_simp; try with_reducible rfl)
        (try simp only [Act.put, List.setIfInBounds_toArray, List.set_cons_zero, List.set_cons_succ])
        refine anyL_take (i := 6) (v := ?_) rfl (by kernel_rfl) (by kernel_rfl) (by kernel_rfl) (by kernel_rfl) (by rfl) (fun _ _ _ h => h) (Or.inl ⟨by rfl, ?_⟩) (by assumption) ?_
        rotate_left 1
        focus (intro wS hSw; (try dsimp only at hSw); go_simp; try with_reducible rfl)
        (try simp only [Act.put, List.setIfInBounds_toArray, List.set_cons_zero, List.set_cons_succ])
        refine anyL_take (i := 7) (v := ?_) rfl (by kernel_rfl) (by kernel_rfl) (by kernel_rfl) (by kernel_rfl) (by rfl) (fun _ _ _ h => h) (Or.inl ⟨by rfl, ?_⟩) (by assumption) ?_
        rotate_left 1
        focus (intro wS hSw; (try dsimp only at hSw); go_simp; try with_reducible rfl)
        (try simp only [Act.put, List.setIfInBounds_toArray, List.set_cons_zero, List.set_cons_succ])
        refine anyL_take (i := 8) (v := ?_) rfl (by kernel_rfl) (by kernel_rfl) (by kernel_rfl) (by kernel_rfl) (by rfl) (fun _ _ _ h => h) (Or.inl ⟨by rfl, ?_⟩) (by assumption) ?_
        rotate_left 1
        focus (intro wS hSw; (try dsimp only at hSw); go_simp; try with_reducible rfl)
        (try simp only [Act.put, List.setIfInBounds_toArray, List.set_cons_zero, List.set_cons_succ])
        refine anyL_take (i := 9) (v := ?_) rfl (by kernel_rfl) (by kernel_rfl) (by kernel_rfl) (by kernel_rfl) (by rfl) (fun _ _ _ h => h) (Or.inl ⟨by rfl, ?_⟩) (by assumption) ?_
        rotate_left 1
        focus (intro wS hSw; (try dsimp only at hSw); go_simp; try with_reducible rfl)
        (try simp only [Act.put, List.setIfInBounds_toArray, List.set_cons_zero, List.set_cons_succ])
        refine anyL_take (i := 12) (v := ?_) rfl (by kernel_rfl) (by kernel_rfl) (by kernel_rfl) (by kernel_rfl) (by rfl) (fun _ _ _ h => h) (Or.inl ⟨by rfl, ?_⟩) (by assumption) ?_
        rotate_left 1
        focus (intro wS hSw; (try dsimp only at hSw); go_simp; try with_reducible rfl)
        (try simp only [Act.put, List.setIfInBounds_toArray, List.set_cons_zero, List.set_cons_succ])
        refine anyL_take (i := 13) (v := ?_) rfl (by kernel_rfl) (by kernel_rfl) (by kernel_rfl) (by kernel_rfl) (by rfl) (fun _ _ _ h => h) (Or.inl ⟨by rfl, ?_⟩) (by assumption) ?_
        rotate_left 1
        focus (intro wS hSw; (try dsimp only at hSw); go_simp; try with_reducible rfl)
        (try simp only [Act.put, List.setIfInBounds_toArray, List.set_cons_zero, List.set_cons_succ])
        refine anyL_take (i := 14) (v := ?_) rfl (by kernel_rfl) (by kernel_rfl) (by kernel_rfl) (by kernel_rfl) (by rfl) (fun _ _ _ h => h) (Or.inl ⟨by rfl, ?_⟩) (by assumption) ?_
        rotate_left 1
        focus (intro wS hSw; (try dsimp only at hSw); go_simp; try with_reducible rfl)
        (try simp only [Act.put, List.setIfInBounds_toArray, List.set_cons_zero, List.set_cons_succ])
        refine anyL_ready (rs := [10]) (by kernel_rfl) (by simp) ?_
        refine (AllL.cons rfl rfl (fun K hK => ?_) AllL.nil)
        go_simp
        refine (HBX.out _ hR.drew).mono ?_
        rintro e w1 ⟨rfl, y1⟩
        have C3 := Two.on (w := wr.drew) C2.drew y1
        have R3 := Four.on (w := wr.drew) R2.drew y1
        have P3 := Four.on (w := wr.drew) P2.drew y1
        have Y3 := (belowD yr).trans (Below.mono (w := wr.drew) y1 yr.size)
        have a0 := C3.c0
        have a1 := C3.c1
        have e0 := P3.c0
        have e1 := P3.c1
        have e2 := P3.c2
        have e3 := P3.c3
        have e4 := P3.f0
        have e5 := P3.f1
        have e6 := P3.f2
        have e7 := P3.f3
        (try go_wp2_with fail)
        refine hK.out _ _ ?_ (fun hR5 => ?_)
        · first | trivial | ((try dsimp only); go_keep)
        clear hK K hR4
        (try simp only [Act.put, List.setIfInBounds_toArray, List.set_cons_zero, List.set_cons_succ])
        refine anyL_take (i := 11) (v := ?_) rfl (by kernel_rfl) (by kernel_rfl) (by kernel_rfl) (by kernel_rfl) (by rfl) (fun _ _ _ h => h) (Or.inl ⟨by rfl, ?_⟩) (by assumption) ?_
        rotate_left 1
        focus (intro wS hSw; (try dsimp only at hSw); go_simp; try with_reducible rfl)
        (try simp only [Act.put, List.setIfInBounds_toArray, List.set_cons_zero, List.set_cons_succ])
        refine anyL_take (i := 15) (v := ?_) rfl (by kernel_rfl) (by kernel_rfl) (by kernel_rfl) (by kernel_rfl) (by rfl) (fun _ _ _ h => h) (Or.inl ⟨by rfl, ?_⟩) (by assumption) ?_
        rotate_left 1
        focus (intro wS hSw; (try dsimp only at hSw); go_simp; try with_reducible rfl)
        (try simp only [Act.put, List.setIfInBounds_toArray, List.set_cons_zero, List.set_cons_succ])
        refine anyL_ready (rs := [16]) (by kernel_rfl) (by simp) ?_
        refine (AllL.last rfl rfl (fun K hK => ?_) AllL.nil)
        go_simp
        refine hK.out _ _ ?_
        clear hK K hR5
        (try simp only [Act.put, List.setIfInBounds_toArray, List.set_cons_zero, List.set_cons_succ])
        refine anyL_done (by kernel_rfl) ?_ _
        refine NoPanic.normal ?_
        have P4 := ((((P3.set0 (.int .i64 a')).set1 (.int .i64 u')).set2 (.int .i64 (2 * (v - o2) + (x : Int)))).set3 (.int .i64 ((s : Int) + 1)))
        have C4 := ((((C3.far (p := ⟨w.heap.size, 0, none⟩) (by simp) (.int .i64 a')).far (p := ⟨w.heap.size, 1, none⟩) (by simp) (.int .i64 u')).far (p := ⟨w.heap.size, 2, none⟩) (by simp) (.int .i64 (2 * (v - o2) + (x : Int)))).far (p := ⟨w.heap.size, 3, none⟩) (by simp) (.int .i64 ((s : Int) + 1)))
        have R4 := ((((R3.far (p := ⟨w.heap.size, 0, none⟩) (by simp) (.int .i64 a')).far (p := ⟨w.heap.size, 1, none⟩) (by simp) (.int .i64 u')).far (p := ⟨w.heap.size, 2, none⟩) (by simp) (.int .i64 (2 * (v - o2) + (x : Int)))).far (p := ⟨w.heap.size, 3, none⟩) (by simp) (.int .i64 ((s : Int) + 1)))
        have Y4 := ((((Y3.setCell (p := ⟨w.heap.size, 0, none⟩) (by simp) (.int .i64 a')).setCell (p := ⟨w.heap.size, 1, none⟩) (by simp) (.int .i64 u')).setCell (p := ⟨w.heap.size, 2, none⟩) (by simp) (.int .i64 (2 * (v - o2) + (x : Int)))).setCell (p := ⟨w.heap.size, 3, none⟩) (by simp) (.int .i64 ((s : Int) + 1)))
        have m0 := P4.c0
        have m1 := P4.c1
        clear q1 q2 q3 q4 e0 e1 e2 e3 e4 e5 e6 e7
        go_wp2_with fail
        go_roundw
        case rel => exact ⟨a', u', 2 * (v - o2) + (x : Int), s + 1, g, rest', HL2.out, HD2.out, HF2.out, b1, b2, HV3.out, HT3.out, by omega, P4, C4, R4, Y4⟩
        case measure => simp [m0, m1, MC0.out, MC1.out, intOf] <;> omega
end PB
end Go.Proofs.Ytnnpkajmheglgaa
