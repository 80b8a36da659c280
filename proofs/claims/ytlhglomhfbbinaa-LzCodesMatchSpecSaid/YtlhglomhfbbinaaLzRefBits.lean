/-
  The reference's TokenBits and TokensBits: the code of tokens as a list of bits.
-/
import Derived.Test.YtlhglomhfbbinaaLzEncode
import Derived.Test.YtlhglomhfbbinaaBitsRef3
namespace Go.Proofs.Ytlhglomhfbbinaa
open Go.RowKit
attribute [local go_sem ↓] Go.wp_at_zero Go.wp_at_succ
set_option linter.unusedVariables false
set_option linter.unusedSimpArgs false
namespace PB
theorem own_ncells_len {w : World} {base : Nat} {e : TypeId} {v : Value} {n : Nat} {l : List Nat} (h : w.ownsRow base e 1 v n (ncells l)) : l.length = n := by
  have := h.1
  rw [ncells_length] at this
  omega
set_option maxHeartbeats 1600000 in
theorem tokenbits_any (t : Tok) (hok : t.ok) (hlit : t.lit < 256) (w : World) :
    Calls Try.prog 45 #[.agg #[.int .i64 t.d, .int .i64 t.n, .int .u8 (t.lit : Nat)]] w fun e w' => ∃ A c, e = .returned (.slice A (tokbits t).length c) ∧ w'.ownsRow w.heap.size 3 1 (.slice A (tokbits t).length c) (tokbits t).length (ncells (tokbits t)) ∧ Below w.heap.size w w' := by
  obtain ⟨i0, hi, hz0, hz1, hz2⟩ := info_parts int_info
  obtain ⟨td, tn, tl⟩ := t
  have X0 := Three.new w 37 (.int .i64 td) (.int .i64 tn) (.int .u8 (tl : Nat))
  have y0 : Below w.heap.size w (w.alloc (.cells #[.int .i64 td, .int .i64 tn, .int .u8 (tl : Nat)] 37)) := (Below.refl _ _).alloc (Nat.le_refl _) _
  dsimp only at hlit ⊢
  rcases hok with ⟨h1, h2⟩ | ⟨h0, h1, h2, h3, h4⟩
  · dsimp only at h1 h2
    subst h1 h2
    have htb : tokbits ⟨0, 0, tl⟩ = digs tl 9 := rfl
    rw [htb, digs_length]
    clear htb
    go_enter Try.func45, Try.ntmps45
    go_wp2_with fail
    refine (digits_any tl 9 _ _ rfl rfl (by omega) (by decide) _).mono ?_
    rintro e w1 ⟨A1, c1, rfl, o1, y1⟩
    have HO := Lib.hid (own_less o1 y0.size)
    have Y1 := y0.trans (y1.mono y0.size)
    clear o1
    go_wp2
    go_ret
    exact ⟨A1, c1, rfl, HO.out, Y1⟩
  · dsimp only at h0 h1 h2 h3 h4
    obtain ⟨d, rfl⟩ := Int.eq_ofNat_of_zero_le (show 0 ≤ td by omega)
    obtain ⟨n, rfl⟩ := Int.eq_ofNat_of_zero_le (show 0 ≤ tn by omega)
    have htb : tokbits ⟨(d : Nat), (n : Nat), tl⟩ = [1] ++ gam d ++ gam (n - 2) := by unfold tokbits; dsimp only; rw [if_neg (by omega)]; rfl
    rw [htb]
    obtain ⟨G1, hG1⟩ : ∃ G, G = gsz d := ⟨_, rfl⟩
    obtain ⟨G2, hG2⟩ : ∃ G, G = gsz (n - 2) := ⟨_, rfl⟩
    have hg1 : G1 ≤ 22 := by rw [hG1]; unfold gsz; have := Lib.bitLen_le d 11 (by decide) (by omega); omega
    have hg2 : G2 ≤ 22 := by rw [hG2]; unfold gsz; have := Lib.bitLen_le (n - 2) 11 (by decide) (by omega); omega
    obtain ⟨B, hB⟩ : ∃ B, B = [1] ++ gam d ++ gam (n - 2) := ⟨_, rfl⟩
    rw [← hB]
    obtain ⟨N, hN⟩ : ∃ N, N = B.length := ⟨_, rfl⟩
    rw [← hN]
    have HN := Lib.hid (show 1 + G1 + G2 = N by rw [hN, hB, List.length_append, List.length_append, gam_length, gam_length, hG1, hG2]; rfl)
    have HB := Lib.hid (show Value.int .i64 1 :: (ncells (gam d) ++ ncells (gam (n - 2))) = ncells B by rw [hB, ncells_append, ncells_append]; rfl)
    clear hB
    have q0 : (d : Nat) = d := rfl
    have C1 := Lib.hid (fun W => gammaref_any d ((d : Nat) : Int) rfl (by omega) (by omega) W)
    have C2 := Lib.hid (fun W => gammaref_any (n - 2) ((n : Int) - 2) (by omega) (by omega) (by omega) W)
    rw [← hG1] at C1
    rw [← hG2] at C2
    clear htb h0 hG1 hG2 hN q0
    have c0 := X0.c0
    have c1 := X0.c1
    have hL : ((w.alloc (.cells #[.int .i64 (d : Nat), .int .i64 (n : Nat), .int .u8 (tl : Nat)] 37)).alloc (.cells #[.int .i64 1] 3)).ownsRow w.heap.size 3 1 (.slice (some ⟨w.heap.size + 1, 0, none⟩) 1 1) 1 [.int .i64 1] := by
      have := World.ownsRow_lit (base := w.heap.size) (e := 3) (size := 1) (w.alloc (.cells #[.int .i64 (d : Nat), .int .i64 (n : Nat), .int .u8 (tl : Nat)] 37)) #[.int .i64 1] 1 (by simp) (by simp [maxLen]) rfl
      simpa using this
    have HL := Lib.hid hL
    have yL : Below w.heap.size w ((w.alloc (.cells #[.int .i64 (d : Nat), .int .i64 (n : Nat), .int .u8 (tl : Nat)] 37)).alloc (.cells #[.int .i64 1] 3)) := y0.alloc y0.size _
    have XL := X0.alloc (.cells #[.int .i64 1] 3)
    clear hL
    go_enter Try.func45, Try.ntmps45
    go_wp2_with fail
    refine (C1.out _).mono ?_
    rintro e w1 ⟨A1, c1', rfl, o1, y1⟩
    have X1 := XL.on y1
    have HO1 := Lib.hid (own_on HL.out y1)
    have R1 := Rd.own o1
    have Y1 := yL.trans (y1.mono yL.size)
    have ys1 := Y1.size
    clear o1 c0 c1
    have c0 := X1.c0
    have c1 := X1.c1
    go_wp2_with (at_builtin; refine wpList_append_any _ rfl _ _ _ rfl w.heap.size 3 i0 _ 8 Try.underlying48 hi hz0 hz1 hz2 rfl _ _ _ rfl HO1.out _ _ G1 c1' _ rfl R1 (ncells_one _) ?g1 ?g2 ys1 ?_)
    case g1 => unfold maxLen; omega
    case g2 => omega
    intro A2 c2 w2 o2 g2 a2
    have Y2 := below_grown Y1 HO1.out g2 (Nat.le_refl _) ys1
    have X2 := X1.grown g2 (own_three_ne HO1.out X1 (by decide)).symm
    have HO2 := Lib.hid o2
    have e1 := X2.c1
    clear o2 a2 c0 c1 g2 X1
    go_wp2_with fail
    refine (C2.out _).mono ?_
    rintro e w3 ⟨A3, c3, rfl, o3, y3⟩
    have HO3 := Lib.hid (own_on HO2.out y3)
    have R3 := Rd.own o3
    have Y3 := Y2.trans (y3.mono Y2.size)
    have ys3 := Y3.size
    clear o3 e1
    go_wp2_with (at_builtin; refine wpList_append_any _ rfl _ _ _ rfl w.heap.size 3 i0 _ 8 Try.underlying48 hi hz0 hz1 hz2 rfl _ _ _ rfl HO3.out _ _ G2 c3 _ rfl R3 (ncells_one _) ?g1 ?g2 ys3 ?_)
    case g1 => unfold maxLen; omega
    case g2 => omega
    intro A4 c4 w4 o4 g4 a4
    have Y4 := below_grown Y3 HO3.out g4 (Nat.le_refl _) ys3
    have HO4 := Lib.hid o4
    clear o4 a4 g4
    go_wp2
    go_ret
    have HO5 := HO4.out
    rw [HN.out, HB.out] at HO5
    exact ⟨A4, c4, (by show Ending.returned (.slice A4 (1 + G1 + G2) c4) = _; rw [HN.out]), HO5, Y4⟩
set_option maxHeartbeats 1600000 in
theorem tokensbits_any {A : Option Addr} {n c : Nat} {xs : List Tok} {w : World} (h : RdT w A n c xs) (hl : xs.length ≤ 1024) (hall : AllTok xs xs.length) (hlit : ∀ t ∈ xs, t.lit < 256) (r : Nat) (hr : r = (codeOf xs).length) :
    Calls Try.prog 25 #[.slice A n c] w fun e w' => ∃ A' c', e = .returned (.slice A' r c') ∧ w'.ownsRow w.heap.size 3 1 (.slice A' r c') r (ncells (codeOf xs)) ∧ Below w.heap.size w w' := by
  obtain ⟨i0, hi, hz0, hz1, hz2⟩ := info_parts int_info
  have hn := h.1
  have hcap := h.2.1
  have hcm := h.2.2.1
  unfold maxLen at hcm
  obtain rfl := hn
  have HA := Lib.hid hall
  have HLI := Lib.hid hlit
  have HCL := Lib.hid (codeOf_take_le xs hall)
  have HR := Lib.hid hr
  clear hall hlit hr
  go_enter Try.func25, Try.ntmps25
  go_wp2_with fail
  go_loopw [3, 4] (fun s i wr => ∃ k m : Nat, ∃ A1 c1, k ≤ xs.length ∧ i = .int .i64 k ∧ s = .slice A1 m c1 ∧ m = (codeOf (xs.take k)).length ∧ Below w.heap.size w wr ∧ wr.ownsRow w.heap.size 3 1 (.slice A1 m c1) m (ncells (codeOf (xs.take k)))) (fun _ i _ => xs.length - (intOf i).toNat)
  case atStart => exact ⟨0, 0, none, 0, Nat.zero_le _, rfl, rfl, rfl, Below.refl _ _, World.ownsRow_nil _ _ _ _⟩
  case round =>
    obtain ⟨k, m, A1, c1, hk, rfl, rfl, hm, yr, ho⟩ := hrel
    have HM := Lib.hid hm
    have hmb : m ≤ 1024 * 50 := by rw [hm]; have := HCL.out k; omega
    have HO := Lib.hid ho
    have ysz := yr.size
    clear hm ho
    by_cases hlt : k < xs.length
    · obtain ⟨b, off, rfl, hb, q1, q2, q3⟩ := (h.on yr).at k hlt
      obtain ⟨x, hx⟩ : ∃ x, x = xs[k] := ⟨_, rfl⟩
      rw [← hx] at q1 q2 q3
      have hok : x.ok := by rw [hx]; exact HA.out k hlt hlt
      have hxl : x.lit < 256 := by rw [hx]; exact HLI.out _ (List.getElem_mem hlt)
      have HS := Lib.hid (show codeOf (xs.take (k + 1)) = codeOf (xs.take k) ++ tokbits x by rw [codeOf_take_succ xs k hlt, hx])
      obtain ⟨q, hq⟩ : ∃ q, q = (tokbits x).length := ⟨_, rfl⟩
      have hqb : q ≤ 50 := by rw [hq, tokbits_length x hok]; exact tcost_le2 x hok
      have HC := Lib.hid (fun W => tokenbits_any x hok hxl W)
      rw [← hq] at HC
      have HQ := Lib.hid hq
      clear hx hok hq
      go_wp2_with fail
      refine (HC.out _).mono ?_
      rintro e w1 ⟨A2, c2, rfl, o2, y2⟩
      have HO1 := Lib.hid (own_on HO.out y2)
      have R2 := Rd.own o2
      have Y1 := yr.trans (y2.mono ysz)
      have ys1 := Y1.size
      clear o2 q1 q2 q3
      go_wp2_with (at_builtin; refine wpList_append_any _ rfl _ _ _ rfl w.heap.size 3 i0 _ 8 Try.underlying48 hi hz0 hz1 hz2 rfl _ _ _ rfl HO1.out _ _ q c2 _ rfl R2 (ncells_one _) ?g1 ?g2 ys1 ?_)
      case g1 => unfold maxLen; omega
      case g2 => omega
      intro A4 c4 w4 o4 g4 a4
      have Y4 := below_grown Y1 HO1.out g4 (Nat.le_refl _) ys1
      rw [← ncells_append, ← HS.out] at o4
      have HO4 := Lib.hid o4
      clear o4 a4 g4
      go_wp2_with fail
      go_roundw
      case rel => exact ⟨k + 1, m + q, A4, c4, by omega, by go_num, rfl, by rw [HS.out, List.length_append, ← HM.out, ← HQ.out], Y4, HO4.out⟩
      case measure => simp [intOf] <;> omega
    · obtain rfl : k = xs.length := by omega
      have e : codeOf (xs.take xs.length) = codeOf xs := by rw [List.take_of_length_le (Nat.le_refl _)]
      rw [e] at HM HO
      obtain rfl : m = r := by rw [HM.out, HR.out]
      clear e
      go_wp2
      go_ret
      exact ⟨A1, c1, rfl, HO.out, yr⟩
end PB
end Go.Proofs.Ytlhglomhfbbinaa
