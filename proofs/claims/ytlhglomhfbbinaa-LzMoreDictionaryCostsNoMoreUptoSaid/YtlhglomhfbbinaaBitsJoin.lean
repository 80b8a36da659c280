/-
  bits.Join joins bit strings, or tells why it cannot.
-/
import Derived.Test.YtlhglomhfbbinaaRows
import Derived.Test.YtlhglomhfbbinaaBitsRef5
import Derived.Test.YtlhglomhfbbinaaBitsMake
namespace Go.Proofs.Ytlhglomhfbbinaa
open Go.RowKit
attribute [local go_sem ↓] Go.wp_at_zero Go.wp_at_succ
set_option linter.unusedVariables false
set_option linter.unusedSimpArgs false
namespace PB
theorem Res2.drew {w : World} {s : Nat} (h : Res2 w s) : Res2 w.drew s := h
/-- The ways of bits.Join that end in a fault, and the joined bits. -/
def JRes (xs : List BItem) (code idx : Int) : List Nat := if code = 0 then joined xs else []
set_option maxHeartbeats 1600000 in
theorem join_any {A : Option Addr} {n c : Nat} {xs : List BItem} {code idx : Int} {w : World} (h : RdB w A n c xs) (hw : ∀ x ∈ xs, x.wf) (hJ : JOut xs code idx) :
    Calls Try.prog 33 #[.slice A n c] w fun e w' => ∃ A' n' c', e = .returned (.tuple #[.agg #[.slice A' n' c', .int .i64 (JRes xs code idx).length], .agg #[.int .i64 code, .int .i64 idx]]) ∧ w'.ownsRow w.heap.size 5 1 (.slice A' n' c') n' (bcells (pack (JRes xs code idx))) ∧ Below w.heap.size w w' := by
  have hn := h.1
  have hcap := h.2.1
  have hcm := h.2.2.1
  unfold maxLen at hcm
  obtain rfl := hn
  have X0 := Res2.start w
  have y0 : Below w.heap.size w ((w.alloc (.cells #[.slice none 0 0, .int .i64 0] 43)).alloc (.cells #[.int .i64 0, .int .i64 0] 25)) := ((Below.refl _ _).alloc (Nat.le_refl _) _).alloc (by simp) _
  have HW := Lib.hid hw
  clear hw
  have ends : ∀ (W : World) (cd ix : Int), cd ≠ 0 → Res2 W w.heap.size → Below w.heap.size w W → (∃ A' n' c', Ending.returned (.tuple #[.agg #[.slice none 0 0, .int .i64 0], .agg #[.int .i64 cd, .int .i64 ix]]) = .returned (.tuple #[.agg #[.slice A' n' c', .int .i64 (JRes xs cd ix).length], .agg #[.int .i64 cd, .int .i64 ix]]) ∧ ((((W.setCell ⟨w.heap.size, 0, none⟩ (.slice none 0 0)).setCell ⟨w.heap.size, 1, none⟩ (.int .i64 0)).setCell ⟨w.heap.size + 1, 0, none⟩ (.int .i64 cd)).setCell ⟨w.heap.size + 1, 1, none⟩ (.int .i64 ix)).ownsRow w.heap.size 5 1 (.slice A' n' c') n' (bcells (pack (JRes xs cd ix)))
      ∧ Below w.heap.size w ((((W.setCell ⟨w.heap.size, 0, none⟩ (.slice none 0 0)).setCell ⟨w.heap.size, 1, none⟩ (.int .i64 0)).setCell ⟨w.heap.size + 1, 0, none⟩ (.int .i64 cd)).setCell ⟨w.heap.size + 1, 1, none⟩ (.int .i64 ix))) := by
    intro W cd ix hc hX hY
    have e : JRes xs cd ix = [] := by unfold JRes; rw [if_neg hc]
    rw [e]
    exact ⟨none, 0, 0, rfl, by simpa [pack_nil, bcells] using World.ownsRow_nil _ _ _ _, below_res2 hY _ _ _ _⟩
  have HENDS := Lib.hid ends
  clear ends
  by_cases hlong : 256 < xs.length
  · obtain ⟨rfl, rfl⟩ : code = 2 ∧ idx = -1 := by
      rcases hJ with ⟨_, h1, h2⟩ | ⟨h1, _⟩ | ⟨h1, _⟩ | ⟨h1, _⟩
      · exact ⟨h1, h2⟩
      all_goals omega
    clear hJ
    go_enter Try.func33, Try.ntmps33
    go_wp2_with fail
    refine (fault_any _ _ _).mono ?_
    rintro e w1 ⟨rfl, y1⟩
    have X1 := X0.on y1
    have Y1 := y0.trans (y1.mono y0.size)
    obtain ⟨f0, f1, f2, f3, f4, f5, f6, f7, f8⟩ := X1.facts
    go_wp2
    obtain ⟨r0, r1, r2, r3⟩ := X1.ends (.slice none 0 0) (.int .i64 0) (.int .i64 2) (.int .i64 (-1))
    exact bodyPost_ret (v := .tuple #[.agg #[.slice none 0 0, .int .i64 0], .agg #[.int .i64 2, .int .i64 (-1)]]) (by simp [results, Try.results33, go_sem, r0, r1, r2, r3]) rfl (HENDS.out _ _ _ (by decide) X1 Y1)
  have hJ2 : ∃ q, q ≤ xs.length ∧ AllOk xs q ∧ ((∃ h : q < xs.length, ¬ xs[q].ok ∧ code = 6 ∧ idx = (q : Nat)) ∨ (q = xs.length ∧ ((131072 < (joined xs).length ∧ code = 14 ∧ idx = -1) ∨ ((joined xs).length ≤ 131072 ∧ code = 0 ∧ idx = 0)))) := by
    rcases hJ with ⟨h0, _⟩ | ⟨_, q, h0, h1, h2, h3, h4⟩ | ⟨_, h1, h2, h3, h4⟩ | ⟨_, h1, h2, h3, h4⟩
    · omega
    · exact ⟨q, by omega, h1, .inl ⟨h0, h2, h3, h4⟩⟩
    · exact ⟨_, Nat.le_refl _, h1, .inr ⟨rfl, .inl ⟨h2, h3, h4⟩⟩⟩
    · exact ⟨_, Nat.le_refl _, h1, .inr ⟨rfl, .inr ⟨h2, h3, h4⟩⟩⟩
  obtain ⟨q, hq, hall, hend⟩ := hJ2
  have HJL := Lib.hid (joined_take_le xs q hall)
  have HA := Lib.hid hall
  have HE := Lib.hid hend
  clear hJ hall hend
  have hlen : xs.length ≤ 256 := by omega
  have k256 : decide ((256 : Int) < ((xs.length : Nat) : Int)) = false := by simp; omega
  go_enter Try.func33, Try.ntmps33
  go_wp2_with fail
  go_loopw [4, 18] (fun t i wr => ∃ k : Nat, k ≤ q ∧ i = .int .i64 k ∧ t = .int .i64 ((joined (xs.take k)).length : Nat) ∧ Below w.heap.size w wr ∧ Res2 wr w.heap.size) (fun _ i _ => xs.length - (intOf i).toNat)
  case atStart => exact ⟨0, Nat.zero_le _, rfl, rfl, y0, X0⟩
  case round =>
    obtain ⟨k, hk, rfl, rfl, yr, XR⟩ := hrel
    clear y0 X0
    have hT := HJL.out k hk
    obtain ⟨T, hTT⟩ : ∃ T, T = (joined (xs.take k)).length := ⟨_, rfl⟩
    rw [← hTT] at hT ⊢
    have HT := Lib.hid hTT
    have hT2 : T ≤ 40000000 := by omega
    clear hTT hT
    by_cases hlt : k < xs.length
    · obtain ⟨b, off, rfl, hb, q1, q2, R⟩ := (h.on yr).at k hlt
      obtain ⟨x, hx⟩ : ∃ x, x = xs[k] := ⟨_, rfl⟩
      rw [← hx] at q1 q2 R
      have hxw : x.wf := by rw [hx]; exact HW.out _ (List.getElem_mem hlt)
      have HX := Lib.hid hx
      clear hx
      obtain ⟨g1, g2, g3⟩ := hxw
      have G1 := Lib.hid g1
      clear g1
      have ysz := yr.size
      have V0 := Two.new wr 43 (.slice x.A x.n x.c) (.int .i64 x.cnt)
      have XV := XR.alloc (.cells #[.slice x.A x.n x.c, .int .i64 x.cnt] 43)
      have yv := yr.alloc ysz (.cells #[.slice x.A x.n x.c, .int .i64 x.cnt] 43)
      have RV := R.alloc (.cells #[.slice x.A x.n x.c, .int .i64 x.cnt] 43)
      by_cases hkq : k < q
      · have hok : x.ok := by rw [HX.out]; exact HA.out k hlt hkq
        have hcnt := hok.1
        have hcnt2 := hok.2.1
        have HOK := Lib.hid hok
        clear hok
        go_wp2_with fail
        refine (valid_any x.A x.n x.c x.d x.cnt _ _ RV (Nat.le_refl _) true ⟨fun _ => HOK.out, fun _ => rfl⟩).mono ?_
        rintro e w1 ⟨rfl, y1⟩
        have Y1 := yv.trans (y1.mono yv.size)
        have X1 := XV.on y1
        have V1 := V0.on y1
        have v0 := V1.c0
        have v1 := V1.c1
        have HS := Lib.hid (show ((joined (xs.take (k + 1))).length : Int) = T + x.cnt by
          rw [joined_take_succ xs k hlt, List.length_append, ← HX.out, HT.out, ← BItem.bits_length x HOK.out]; omega)
        go_wp2
        go_roundw
        case rel => exact ⟨k + 1, by omega, by go_num, congrArg (Value.int .i64) HS.out.symm, Y1, X1⟩
        case measure => simp [intOf]; omega
      · obtain rfl : k = q := by omega
        rcases HE.out with ⟨_, hbad, rfl, rfl⟩ | ⟨h1, _⟩
        · have HB := Lib.hid (show ¬ Ok x.d x.cnt by rw [HX.out]; exact hbad)
          clear hbad
          go_wp2_with fail
          refine (valid_any x.A x.n x.c x.d x.cnt _ _ RV (Nat.le_refl _) false ⟨(fun h => by cases h), fun h => absurd h HB.out⟩).mono ?_
          rintro e w1 ⟨rfl, y1⟩
          have Y1 := yv.trans (y1.mono yv.size)
          have X1 := XV.on y1
          go_wp2_with fail
          refine (fault_any _ _ _).mono ?_
          rintro e w2 ⟨rfl, y2⟩
          have Y2 := Y1.trans (y2.mono Y1.size)
          have X2 := X1.on y2
          obtain ⟨f0, f1, f2, f3, f4, f5, f6, f7, f8⟩ := X2.facts
          go_wp2
          obtain ⟨r0, r1, r2, r3⟩ := X2.ends (.slice none 0 0) (.int .i64 0) (.int .i64 6) (.int .i64 (k : Nat))
          exact bodyPost_ret (v := .tuple #[.agg #[.slice none 0 0, .int .i64 0], .agg #[.int .i64 6, .int .i64 (k : Nat)]]) (by simp [results, Try.results33, go_sem, r0, r1, r2, r3]) rfl (HENDS.out _ _ _ (by decide) X2 Y2)
        · omega
    · obtain rfl : k = xs.length := by omega
      rcases HE.out with ⟨h1, _⟩ | ⟨_, ⟨hs, rfl, rfl⟩ | ⟨hs, rfl, rfl⟩⟩
      · omega
      · have hT3 : 131072 < T := by rw [HT.out, List.take_of_length_le (Nat.le_refl _)]; exact hs
        clear hs
        go_wp2_with fail
        refine (fault_any _ _ _).mono ?_
        rintro e w2 ⟨rfl, y2⟩
        have Y2 := yr.trans (y2.mono yr.size)
        have X2 := XR.on y2
        obtain ⟨f0, f1, f2, f3, f4, f5, f6, f7, f8⟩ := X2.facts
        go_wp2
        obtain ⟨r0, r1, r2, r3⟩ := X2.ends (.slice none 0 0) (.int .i64 0) (.int .i64 14) (.int .i64 (-1))
        exact bodyPost_ret (v := .tuple #[.agg #[.slice none 0 0, .int .i64 0], .agg #[.int .i64 14, .int .i64 (-1)]]) (by simp [results, Try.results33, go_sem, r0, r1, r2, r3]) rfl (HENDS.out _ _ _ (by decide) X2 Y2)
      · have hT3 : T ≤ 131072 := by rw [HT.out, List.take_of_length_le (Nat.le_refl _)]; exact hs
        have k131 : decide ((131072 : Int) < (T : Int)) = false := by simp; omega
        have HJM := Lib.hid (fun k => Nat.le_trans (joined_take_mono xs k) hs)
        obtain ⟨wa, hwa⟩ : ∃ wa : World, wa = wr := ⟨_, rfl⟩
        rw [← hwa] at yr XR ⊢
        clear hwa hs
        have yas := yr.size
        have hx1 := XR.2.lt
        go_wp2_with fail
        go_loopw [40] (fun i wr => ∃ k : Nat, k ≤ xs.length ∧ i = .int .i64 k ∧ Below w.heap.size w wr ∧ Res2 wr w.heap.size ∧ ∃ A1 n1 c1 m, m = (joined (xs.take k)).length ∧ Two wr wa.heap.size 43 (.slice A1 n1 c1) (.int .i64 (m : Nat)) ∧ wr.ownsRow w.heap.size 5 1 (.slice A1 n1 c1) n1 (bcells (pack (joined (xs.take k))))) (fun i _ => xs.length - (intOf i).toNat)
        case atStart => exact ⟨0, Nat.zero_le _, rfl, yr.alloc yas _, XR.alloc _, none, 0, 0, 0, rfl, Two.new _ _ _ _, by simpa [pack_nil, bcells, joined] using World.ownsRow_nil _ _ _ _⟩
        case round =>
          obtain ⟨k, hk, rfl, yr2, XR2, A1, n1, c1, m, hm, O, ho⟩ := hrel
          obtain ⟨wb, hwb⟩ : ∃ wb : World, wb = wr := ⟨_, rfl⟩
          rw [← hwb] at yr2 XR2 O ho ⊢
          have hmb : m ≤ 131072 := by rw [hm]; exact HJM.out k
          have HM := Lib.hid hm
          clear hwb hm yr XR
          have ybs := yr2.size
          by_cases hlt : k < xs.length
          · obtain ⟨b, off, rfl, hb, q1, q2, R⟩ := (h.on yr2).at k hlt
            obtain ⟨x, hx⟩ : ∃ x, x = xs[k] := ⟨_, rfl⟩
            rw [← hx] at q1 q2 R
            have hxw : x.wf := by rw [hx]; exact HW.out _ (List.getElem_mem hlt)
            have hok : x.ok := by rw [hx]; exact HA.out k hlt (by omega)
            obtain ⟨X, hX⟩ : ∃ X, X = x.bits := ⟨_, rfl⟩
            have hXl : x.cnt = ((X.length : Nat) : Int) := by rw [hX]; exact (BItem.bits_length x hok).symm
            have hXb : X.length ≤ 131072 := by rw [hX]; exact BItem.le x hok
            have HXD := Lib.hid (show x.d = pack X by rw [hX]; exact BItem.pack x hok hxw)
            have H01X := Lib.hid (show Is01 X by rw [hX]; exact BItem.bits_01 x)
            have HN := Lib.hid (show joined (xs.take (k + 1)) = joined (xs.take k) ++ X by rw [joined_take_succ xs k hlt, ← hx, ← hX])
            have HXX := Lib.hid hx
            rw [HXD.out] at R
            rw [hXl] at q2
            clear hx hxw hok hX hXl
            have hab := O.lt
            have hmx : m + X.length ≤ 131072 := by
              have := HJM.out (k + 1)
              rw [HN.out, List.length_append, ← HM.out] at this; exact this
            go_wp2_with fail
            go_loopw [46] (fun i wr => ∃ j M : Nat, j ≤ X.length ∧ M = m + j ∧ i = .int .i64 j ∧ Below w.heap.size w wr ∧ Res2 wr w.heap.size ∧ Two wr wb.heap.size 43 (.slice x.A x.n x.c) (.int .i64 (X.length : Nat)) ∧ ∃ A1 n1 c1, Two wr wa.heap.size 43 (.slice A1 n1 c1) (.int .i64 (M : Nat)) ∧
                wr.ownsRow w.heap.size 5 1 (.slice A1 n1 c1) n1 (bcells (pack (joined (xs.take k) ++ X.take j)))) (fun i _ => X.length - (intOf i).toNat)
            case atStart => exact ⟨0, m, Nat.zero_le _, rfl, rfl, yr2.alloc ybs _, XR2.alloc _, Two.new _ _ _ _, A1, n1, c1, O.alloc _, by simpa using ho.alloc _⟩
            case round =>
              obtain ⟨j, M, hj, hM, rfl, yr3, XR3, V3, A3, n3, c3, O3, ho3⟩ := hrel
              have R3 : Rd wr x.A x.n x.c (bcells (pack X)) := by
                obtain ⟨_, _, _, _, _, _, R⟩ := (h.on yr3).at k hlt
                rw [← HXX.out, HXD.out] at R
                exact R
              have hRd : Reads wr.drew wr.drew.heap.size x.A x.n x.c (bcells (pack X)) := R3
              clear XR2 O ho R q1 q2
              have hMb : M < 1000000 := by omega
              have HMM := Lib.hid hM
              clear hM
              have yrs := yr3.size
              obtain ⟨f0, f1, f2, f3, f4⟩ := O3.facts
              have v0 := V3.c0
              have v1 := V3.c1
              by_cases hjl : j < X.length
              · obtain ⟨bb, hbb⟩ : ∃ bb, bb = X.getD j 0 := ⟨_, rfl⟩
                have hb2 : bb < 2 := by rw [hbb]; exact H01X.out _
                have HBB := Lib.hid hbb
                have HLl := Lib.hid (show (joined (xs.take k) ++ X.take j).length = M by rw [List.length_append, List.length_take, ← HM.out, HMM.out]; omega)
                have HL01 := Lib.hid (show Is01 (joined (xs.take k) ++ X.take j) from (joined_01 _).append (H01X.out.take j))
                have HS := Lib.hid (show joined (xs.take k) ++ X.take (j + 1) = (joined (xs.take k) ++ X.take j) ++ [bb] by rw [List.take_succ_eq_append_getElem hjl, hbb, getD_lt hjl, List.append_assoc])
                clear hbb
                go_wp2_with fail
                go_region_with (first
                  | (go_at_call 53; (with_reducible refine (at_bit x.A x.n x.c X j bb _ rfl _ _ hRd H01X.out hjl HBB.out (Nat.le_refl _)).mono ?_); rintro e w5 ⟨rfl, hb5⟩; have X5 := Res2.on (w := wr.drew) XR3 hb5; have O5 := Two.on (w := wr.drew) O3 hb5; have V5 := Two.on (w := wr.drew) V3 hb5; have y5 := yr3.drew.trans (Below.mono (w := wr.drew) hb5 yr3.size); have ho5 := own_on (w := wr.drew) ho3.drew hb5; have yw5 := y5.size; obtain ⟨p0, p1, p2, p3, p4⟩ := O5.facts; have pv0 := V5.c0; have pv1 := V5.c1)
                  | (go_at_call 52; (with_reducible refine (put_it (L := joined (xs.take k) ++ X.take j) (b := bb) HLl.out HL01.out hb2 hMb ho5 yw5).mono ?_); rintro e w6 ⟨A6, n6, c6, rfl, ho6, hg6⟩; have X6 := X5.grown hg6 (own_two_ne ho5 X5.1 (by decide)) (own_two_ne ho5 X5.2 (by decide)); have O6 := O5.grown hg6 (own_two_ne ho5 O5 (by decide)).symm; have V6 := V5.grown hg6 (own_two_ne ho5 V5 (by decide)).symm; obtain ⟨t0, t1, t2, t3, t4⟩ := O6.facts))
                all_goals
                  have y6 : Below w.heap.size w w6 := y5.grown hg6 yw5 (fun g hg => (ho5.lt g hg).1)
                  have hq := own_two_ne ho6 O6 (by decide)
                  go_wp2
                  go_roundw
                  case rel =>
                    refine ⟨j + 1, M + 1, by omega, by rw [HMM.out]; omega, by go_num, (y6.setCell (by simpa using yas) _).setCell (by simpa using yas) _, (X6.far (by simpa using hx1) _).far (by simpa using hx1) _, (V6.far (by simp; omega) _).far (by simp; omega) _, A6, n6, c6, (O6.set0 _).set1 _, ?_⟩
                    rw [HS.out]
                    exact own_far_any (own_far_any ho6 hq _) hq _
                  case measure => simp [intOf]; omega
              · obtain rfl : j = X.length := by omega
                go_wp2
                go_roundw
                case rel =>
                  refine ⟨k + 1, by omega, by go_num, yr3, XR3, A3, n3, c3, M, ?_, O3, ?_⟩
                  · rw [HN.out, List.length_append, ← HM.out, HMM.out]
                  · rw [HN.out]
                    simpa using ho3
                case measure => simp [intOf]; omega
          · obtain rfl : k = xs.length := by omega
            have e : joined (xs.take xs.length) = joined xs := by rw [List.take_of_length_le (Nat.le_refl _)]
            have ej : JRes xs 0 0 = joined xs := rfl
            rw [e, ← ej] at ho HM
            have HJ := Lib.hid (show (JRes xs 0 0).length = m from HM.out.symm)
            clear e ej
            obtain ⟨f0, f1, f2, f3, f4⟩ := O.facts
            obtain ⟨g0, g1, g2, g3, g4, g5, g6, g7, g8⟩ := XR2.facts
            go_wp2
            obtain ⟨r0, r1, r2, r3⟩ := XR2.ends (.slice A1 n1 c1) (.int .i64 m) (.int .i64 0) (.int .i64 0)
            refine bodyPost_ret (v := .tuple #[.agg #[.slice A1 n1 c1, .int .i64 m], .agg #[.int .i64 0, .int .i64 0]]) (by simp [results, Try.results33, go_sem, r0, r1, r2, r3]) rfl ⟨A1, n1, c1, by rw [HJ.out], own_res2 XR2 ho _ _ _ _, below_res2 yr2 _ _ _ _⟩
end PB
end Go.Proofs.Ytlhglomhfbbinaa
