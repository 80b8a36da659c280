/-
  The reference's functions on bits: Digits, Number, Gamma, GammaAt.
-/
import Derived.Test.YtlhglomhfbbinaaRows
import Derived.Test.YtlhglomhfbbinaaKit
namespace Go.Proofs.Ytlhglomhfbbinaa
open Go.RowKit
set_option linter.unusedVariables false
set_option linter.unusedSimpArgs false
namespace PB
theorem digs_cons (k : Nat) : ∀ v, digs v (k + 1) = (v / 2 ^ k % 2) :: digs v k := by
  induction k with
  | zero => intro v; simp [digs]
  | succ k ih =>
    intro v
    show digs (v / 2) (k + 1) ++ [v % 2] = _
    rw [ih (v / 2), Nat.div_div_eq_div_mul, ← Nat.pow_succ']
    rfl
theorem digs_pad (a : Nat) : ∀ x b, x < 2 ^ b → digs x (a + b) = List.replicate a 0 ++ digs x b := by
  induction a with
  | zero => intro x b h; simp
  | succ a ih =>
    intro x b h
    rw [show a + 1 + b = (a + b) + 1 by omega, digs_cons, ih x b h]
    have : x < 2 ^ (a + b) := Nat.lt_of_lt_of_le h (Nat.pow_le_pow_right (by decide) (by omega))
    rw [Nat.div_eq_of_lt this]
    rfl
/-- What Digits has made behind k rounds. -/
def dgs (v m k : Nat) : List Nat := List.replicate (m - k) 0 ++ digs v k
theorem dgs_length (v m k : Nat) (h : k ≤ m) : (dgs v m k).length = m := by simp [dgs, digs_length]; omega
theorem dgs_step (v m k : Nat) (h : k < m) : ncells (dgs v m (k + 1)) = (ncells (dgs v m k)).set (m - k - 1) (.int .i64 ((v / 2 ^ k % 2 : Nat) : Int)) := by
  have e : (ncells (dgs v m k)).set (m - k - 1) (.int .i64 ((v / 2 ^ k % 2 : Nat) : Int)) = ncells ((dgs v m k).set (m - k - 1) (v / 2 ^ k % 2)) := by simp [ncells, List.map_set]
  rw [e]
  congr 1
  unfold dgs
  rw [digs_cons, show m - k = (m - (k + 1)) + 1 by omega, List.replicate_succ', List.append_assoc, List.set_append_right _ _ (by simp)]
  simp
theorem dgs_zeros (v m : Nat) : List.replicate m (Value.int .i64 0) = ncells (dgs v m 0) := by simp [dgs, digs, ncells]
set_option maxHeartbeats 400000 in
/-- Digits: the digits of a number in a width. -/
theorem digits_any (v m : Nat) (vi mi : Int) (hvi : vi = (v : Nat)) (hmi : mi = (m : Nat)) (hv : v < 9223372036854775808) (hm : m ≤ 1000000) (w : World) :
    Calls Try.prog 56 #[.int .i64 vi, .int .i64 mi] w fun e w' => ∃ A c, e = .returned (.slice A m c) ∧ w'.ownsRow w.heap.size 3 1 (.slice A m c) m (ncells (digs v m)) ∧ Below w.heap.size w w' := by
  subst hvi hmi
  obtain ⟨i0, hi, hz0, hz1, hz2⟩ := info_parts int_info
  go_enter Try.func56, Try.ntmps56
  go_wp2_with (with_reducible refine wpList_make1 _ rfl _ _ 48 rfl 3 i0 _ 8 Try.underlying48 hi hz0 hz1 hz2 rfl _ _ _ _ m rfl rfl rfl rfl ?b2 ?b3 ?_)
  case b2 => omega
  case b3 => unfold maxLen; omega
  intro w1 ho1 y1 s1
  rw [dgs_zeros v m] at ho1
  go_wp2_with fail
  go_loopw [0, 6] (fun x i wr => ∃ k : Nat, k ≤ m ∧ i = .int .i64 ((m : Int) - k - 1) ∧ x = .int .i64 ((v / 2 ^ k : Nat) : Int) ∧ Below w.heap.size w wr ∧
      wr.ownsRow w.heap.size 3 1 (.slice (some ⟨w.heap.size, 0, none⟩) m m) m (ncells (dgs v m k))) (fun _ i _ => (intOf i + 1).toNat)
  case atStart => exact ⟨0, Nat.zero_le _, by go_num, by simp, y1, ho1⟩
  case round =>
    obtain ⟨k, hk, rfl, rfl, yr, ho⟩ := hrel
    clear y1 ho1
    obtain ⟨q, hq⟩ : ∃ q, q = v / 2 ^ k := ⟨_, rfl⟩
    have hqv : q ≤ v := by rw [hq]; exact Nat.div_le_self _ _
    have HQ := Lib.hid hq
    rw [← hq]
    clear hq
    by_cases hlt : k < m
    · have HS := Lib.hid (dgs_step v m k hlt)
      have hge : decide ((0 : Int) ≤ (m : Int) - k - 1) = true := by simp; omega
      have hix : (((m : Int) - k - 1)).toNat = m - k - 1 := by omega
      have hcell := ho.cellAt (m - k - 1) (by omega)
      rw [ncells_get _ _ (by rw [dgs_length v m k hk]; omega)] at hcell
      have hfz := ho.frozenAt (m - k - 1)
      go_wp2
      go_roundw
      case rel =>
        refine ⟨k + 1, by omega, by go_num, congrArg (Value.int .i64) ?_, yr.setCell (Nat.le_refl _) _, ?_⟩
        · rw [Nat.pow_succ, ← Nat.div_div_eq_div_mul, ← HQ.out]; omega
        · rw [HS.out, ← HQ.out]
          have := (ho.stored (m - k - 1) (.int .i64 ((q % 2 : Nat) : Int))).1
          simpa using this
      case measure => simp [intOf]; omega
    · obtain rfl : k = m := by omega
      go_wp2
      go_ret
      refine ⟨_, _, rfl, ?_, yr⟩
      simpa [dgs] using ho
theorem num_take_lt {l : List Nat} (h01 : Is01 l) (hl : l.length ≤ 61) (k : Nat) : num (l.take k) < 2305843009213693952 := by
  have h1 := num_lt (h01.take k)
  have h2 : 2 ^ (l.take k).length ≤ 2 ^ 61 := Nat.pow_le_pow_right (by decide) (by rw [List.length_take]; omega)
  omega
set_option maxHeartbeats 400000 in
/-- Number: the number of some bits. -/
theorem numref_any {A : Option Addr} {n c : Nat} {l : List Nat} {w : World} (h : Rd w A n c (ncells l)) (h01 : Is01 l) (hl : l.length ≤ 61) :
    Calls Try.prog 49 #[.slice A n c] w fun e w' => e = .returned (.int .i64 (num l : Nat)) ∧ w = w' := by
  have hn := h.len
  rw [ncells_length] at hn
  have hcap := Reads.cap h
  have hcm := Reads.capMax h
  unfold maxLen at hcm
  have HNT := Lib.hid (num_take_lt h01 hl)
  have H01 := Lib.hid h01
  clear h01
  obtain rfl := hn
  go_enter Try.func49, Try.ntmps49
  go_wp2
  go_loop [3, 4] (fun t i => ∃ k : Nat, k ≤ l.length ∧ i = .int .i64 k ∧ t = .int .i64 (num (l.take k) : Nat)) (fun _ i => l.length - (intOf i).toNat)
  case atStart => exact ⟨0, Nat.zero_le _, rfl, rfl⟩
  case round =>
    obtain ⟨k, hk, rfl, rfl⟩ := hrel
    obtain ⟨q, hq⟩ : ∃ q, q = num (l.take k) := ⟨_, rfl⟩
    have hqb := HNT.out k
    rw [← hq] at hqb ⊢
    have HQ := Lib.hid hq
    clear hq
    by_cases hlt : k < l.length
    · obtain ⟨b, off, rfl, hb, hc⟩ := h.2.2.2 (by omega)
      have hcell := hc k _ (ncells_get l k hlt)
      obtain ⟨x, hx⟩ : ∃ x, x = l.getD k 0 := ⟨_, rfl⟩
      rw [← hx] at hcell
      have hx2 : x < 2 := by rw [hx]; exact H01.out _
      have HS := Lib.hid (show num (l.take (k + 1)) = 2 * q + x by rw [List.take_succ_eq_append_getElem hlt, num_snoc, ← HQ.out, hx, getD_lt hlt])
      clear hc hx
      go_wp2
      go_round
      case rel => exact ⟨k + 1, by omega, by go_num, congrArg (Value.int .i64) (by rw [HS.out]; omega)⟩
      case measure => simp [intOf]; omega
    · obtain rfl : k = l.length := by omega
      go_wp2
      go_ret
      exact ⟨ret_int (by rw [HQ.out, List.take_of_length_le (Nat.le_refl _)]), rfl⟩
/-- The gamma code of a number from 1 on. -/
def gam (x : Nat) : List Nat := digs x (gsz x)
theorem gam_length (x : Nat) : (gam x).length = gsz x := digs_length _ _
theorem gam_parts (x : Nat) (h1 : 1 ≤ x) (h2 : x < 9223372036854775808) : gam x = List.replicate (Lib.bitLen x - 1) 0 ++ digs x (Lib.bitLen x) := by
  obtain ⟨a, b, c⟩ := bitLen_bounds x h1 (by omega)
  unfold gam gsz
  rw [show 2 * Lib.bitLen x - 1 = (Lib.bitLen x - 1) + Lib.bitLen x by omega]
  exact digs_pad _ _ _ c
theorem div_pow_pos (x k : Nat) (h1 : 1 ≤ x) (h2 : x < 9223372036854775808) : 0 < x / 2 ^ k ↔ k < Lib.bitLen x := by
  obtain ⟨a, b, c⟩ := bitLen_bounds x h1 (by omega)
  constructor
  · intro h
    rcases Nat.lt_or_ge k (Lib.bitLen x) with h3 | h3
    · exact h3
    · have : x < 2 ^ k := Nat.lt_of_lt_of_le c (Nat.pow_le_pow_right (by decide) h3)
      rw [Nat.div_eq_of_lt this] at h; omega
  · intro h
    exact Nat.div_pos (Nat.le_trans (Nat.pow_le_pow_right (by decide) (by omega)) b) (Nat.two_pow_pos _)
set_option maxHeartbeats 400000 in
/-- Gamma: the gamma code of a number from 1 on. -/
theorem gammaref_any (x : Nat) (xi : Int) (hxi : xi = (x : Nat)) (h1 : 1 ≤ x) (h2 : x < 9223372036854775808) (w : World) :
    Calls Try.prog 38 #[.int .i64 xi] w fun e w' => ∃ A c, e = .returned (.slice A (gsz x) c) ∧ w'.ownsRow w.heap.size 3 1 (.slice A (gsz x) c) (gsz x) (ncells (gam x)) ∧ Below w.heap.size w w' := by
  subst hxi
  obtain ⟨i0, hi, hz0, hz1, hz2⟩ := info_parts int_info
  have HD := Lib.hid (div_pow_pos x · h1 h2)
  obtain ⟨L, hL⟩ : ∃ L, L = Lib.bitLen x := ⟨_, rfl⟩
  have hL1 : 1 ≤ L := by rw [hL]; exact (bitLen_bounds x h1 (by omega)).1
  have hL2 : L ≤ 63 := by rw [hL]; exact bitLen_le64 x (by omega)
  have HG := Lib.hid (gam_parts x h1 h2)
  have hgz : (L - 1) + L = gsz x := by unfold gsz; omega
  have HGZ := Lib.hid hgz
  have HL := Lib.hid hL
  rw [← hL] at HG HD
  clear hL hgz
  go_enter Try.func38, Try.ntmps38
  go_wp2
  go_loop [3, 4] (fun wd mm => ∃ k : Nat, k ≤ L ∧ wd = .int .i64 k ∧ mm = .int .i64 ((x / 2 ^ k : Nat) : Int)) (fun wd _ => L - (intOf wd).toNat)
  case atStart => exact ⟨0, Nat.zero_le _, rfl, by simp⟩
  case round =>
    obtain ⟨k, hk, rfl, rfl⟩ := hrel
    obtain ⟨q, hq⟩ : ∃ q, q = x / 2 ^ k := ⟨_, rfl⟩
    have hqv : q ≤ x := by rw [hq]; exact Nat.div_le_self _ _
    have hd := HD.out k
    rw [← hq] at hd ⊢
    have HQ := Lib.hid hq
    by_cases hlt : k < L
    · have hq0 : 1 ≤ q := hd.2 hlt
      clear hd hq
      go_wp2
      go_round
      case rel => exact ⟨k + 1, by omega, by go_num, congrArg (Value.int .i64) (by rw [Nat.pow_succ, ← Nat.div_div_eq_div_mul, ← HQ.out]; omega)⟩
      case measure => simp [intOf]; omega
    · obtain rfl : k = L := by omega
      have hq0 : q ≤ 0 := by
        rcases Nat.eq_zero_or_pos q with h | h
        · omega
        · have := hd.1 h; omega
      clear hd hq
      go_wp2_with (with_reducible refine wpList_make1 _ rfl _ _ 48 rfl 3 i0 _ 8 Try.underlying48 hi hz0 hz1 hz2 rfl _ _ _ _ (k - 1) rfl rfl ?b0 ?b1 ?b2 ?b3 ?_)
      case b0 => omega
      case b1 => omega
      case b2 => omega
      case b3 => unfold maxLen; omega
      intro w1 ho1 y1 s1
      go_wp2_with fail
      refine (digits_any x k _ _ rfl rfl h2 (by omega) _).mono ?_
      rintro e w2 ⟨A2, c2, rfl, ho2, y2⟩
      have ho3 := own_on ho1 y2
      have hz : List.replicate (k - 1) (Value.int .i64 0) ++ ncells (digs x k) = ncells (gam x) := by rw [HG.out]; simp [ncells]
      have HZ := Lib.hid hz
      have y3 := y1.trans (y2.mono y1.size)
      have s2 := y3.size
      clear hz
      go_wp2_with (at_builtin; refine wpList_append_any _ rfl _ _ _ rfl w.heap.size 3 i0 _ 8 Try.underlying48 hi hz0 hz1 hz2 rfl _ _ _ rfl ho3 _ _ k c2 _ rfl (Rd.own ho2) (ncells_one _) ?c1 ?c2 ?c3 ?_)
      case c1 => unfold maxLen; omega
      case c2 => omega
      case c3 => exact s2
      intro A4 c4 w4 ho4 hg4 hat4
      rw [HZ.out] at ho4
      have y4 := below_grown y3 ho3 hg4 (Nat.le_refl _) s2
      have HO4 := Lib.hid ho4
      clear ho4
      go_wp2
      go_ret
      have ho5 := HO4.out
      have e := HGZ.out
      rw [e] at ho5
      exact ⟨A4, c4, by rw [e]; rfl, ho5, y4⟩
/-- What GammaAt hands back: the number, the position behind it, the code of an error. -/
def GAt (l : List Nat) (f : Nat) (v e c : Nat) : Prop :=
  (31 ≤ zr l f ∧ v = 0 ∧ e = 0 ∧ c = 16) ∨ (zr l f ≤ 30 ∧ l.length < f + 2 * zr l f + 1 ∧ v = 0 ∧ e = 0 ∧ c = 15) ∨
  (zr l f ≤ 30 ∧ f + 2 * zr l f + 1 ≤ l.length ∧ v = num ((l.drop (f + zr l f)).take (zr l f + 1)) ∧ e = f + 2 * zr l f + 1 ∧ c = 0)
theorem gat_ex (l : List Nat) (f : Nat) : ∃ v e c, GAt l f v e c := by
  by_cases h1 : 31 ≤ zr l f
  · exact ⟨_, _, _, .inl ⟨h1, rfl, rfl, rfl⟩⟩
  · by_cases h2 : l.length < f + 2 * zr l f + 1
    · exact ⟨_, _, _, .inr (.inl ⟨by omega, h2, rfl, rfl, rfl⟩)⟩
    · exact ⟨_, _, _, .inr (.inr ⟨by omega, by omega, rfl, rfl, rfl⟩)⟩
theorem Rd.slice {w : World} {A : Option Addr} {n c : Nat} {l : List Nat} (h : Rd w A n c (ncells l)) (f t : Nat) (hf : f < t) (ht : t ≤ l.length) :
    ∃ b off, A = some ⟨b, off, none⟩ ∧ Rd w (some ⟨b, off + f, none⟩) (t - f) (c - f) (ncells ((l.drop f).take (t - f))) := by
  have hn := h.len
  rw [ncells_length] at hn
  obtain ⟨h1, h2, h3, h4⟩ := h
  obtain ⟨b, off, e, hb, hc⟩ := h4 (by omega)
  refine ⟨b, off, e, by rw [ncells_length, List.length_take, List.length_drop]; omega, by omega, by omega, fun _ => ⟨b, off + f, rfl, hb, fun j u hu => ?_⟩⟩
  have hj : j < t - f := by
    rcases Nat.lt_or_ge j (t - f) with h | h
    · exact h
    · rw [List.getElem?_eq_none (by rw [ncells_length, List.length_take, List.length_drop]; omega)] at hu; cases hu
  have := hc (f + j) u (by
    rw [← hu]
    unfold ncells
    rw [List.getElem?_map, List.getElem?_map, List.getElem?_take, if_pos hj, List.getElem?_drop])
  rw [Nat.add_assoc]
  exact this
set_option maxHeartbeats 800000 in
/-- GammaAt: the number whose gamma code begins at a position, and the position behind it, or the code of an error. -/
theorem gammaat_any {A : Option Addr} {n c : Nat} {l : List Nat} {f v e1 cd : Nat} {fi : Int} {w : World} (h : Rd w A n c (ncells l)) (h01 : Is01 l) (hl : l.length ≤ 1000000) (hf : f ≤ l.length) (hfi : fi = (f : Nat)) (hg : GAt l f v e1 cd) :
    Calls Try.prog 50 #[.slice A n c, .int .i64 fi] w fun e w' => e = .returned (.tuple #[.int .i64 (v : Nat), .int .i64 (e1 : Nat), .int .i64 (cd : Nat)]) ∧ w = w' := by
  subst hfi
  have hn := h.len
  rw [ncells_length] at hn
  have hcap := Reads.cap h
  have hcm := Reads.capMax h
  unfold maxLen at hcm
  obtain rfl := hn
  have hzl := zr_le l f hf
  obtain ⟨z, hz⟩ : ∃ z, z = zr l f := ⟨_, rfl⟩
  have HZ0 := Lib.hid (fun k (hk : k < zr l f) => zr_zero l f k hk)
  have HZS := Lib.hid (zr_stop l f)
  unfold GAt at hg
  rw [← hz] at hzl HZ0 HZS hg
  have HG := Lib.hid hg
  have H01 := Lib.hid h01
  clear h01 hg hz
  go_enter Try.func50, Try.ntmps50
  go_wp2
  go_loop [7] (fun t => ∃ k : Nat, k ≤ z ∧ k ≤ 30 ∧ t = .int .i64 k) (fun t => l.length - (intOf t).toNat)
  case atStart => exact ⟨0, Nat.zero_le _, by omega, rfl⟩
  case round =>
    obtain ⟨k, hk, hk30, rfl⟩ := hrel
    by_cases hlt : k < z
    · obtain ⟨b, off, rfl, hb, hc⟩ := h.2.2.2 (by omega)
      have hcell := hc (f + k) _ (ncells_get l (f + k) (by omega))
      rw [HZ0.out k hlt] at hcell
      clear hc
      have hlen : f + k < l.length := by omega
      by_cases h31 : k < 30
      · have hne : ((k : Int) + 1 == 31) = false := by rw [beq_eq_false_iff_ne]; omega
        go_wp2
        go_round
        case rel => exact ⟨k + 1, by omega, by omega, by go_num⟩
        case measure => simp [intOf]; omega
      · obtain rfl : k = 30 := by omega
        go_wp2
        rcases HG.out with ⟨_, rfl, rfl, rfl⟩ | ⟨hc, _⟩ | ⟨hc, _⟩
        · go_ret3
          exact ⟨rfl, rfl⟩
        · omega
        · omega
    · obtain rfl : k = z := by omega
      rcases HG.out with ⟨hc, _⟩ | ⟨hc, hs, rfl, rfl, rfl⟩ | ⟨hc, hs, rfl, rfl, rfl⟩
      · omega
      · by_cases hend : f + k < l.length
        · obtain ⟨b, off, rfl, hb, hcc⟩ := h.2.2.2 (by omega)
          have hcell := hcc (f + k) _ (ncells_get l (f + k) (by omega))
          obtain ⟨x, hx⟩ : ∃ x, x = l.getD (f + k) 0 := ⟨_, rfl⟩
          have hx0 : ((x : Int) == 0) = false := by rw [beq_eq_false_iff_ne, hx]; have := HZS.out hend; omega
          rw [← hx] at hcell
          clear hcc hx
          go_wp2
          go_ret3
          exact ⟨rfl, rfl⟩
        · go_wp2
          go_ret3
          exact ⟨rfl, rfl⟩
      · obtain ⟨b, off, rfl, hb, hcc⟩ := h.2.2.2 (by omega)
        have hcell := hcc (f + k) _ (ncells_get l (f + k) (by omega))
        obtain ⟨x, hx⟩ : ∃ x, x = l.getD (f + k) 0 := ⟨_, rfl⟩
        have hx0 : ((x : Int) == 0) = false := by rw [beq_eq_false_iff_ne, hx]; have := HZS.out (by omega); omega
        rw [← hx] at hcell
        obtain ⟨b2, off2, he, hR⟩ := h.slice (f + k) (f + 2 * k + 1) (by omega) hs
        cases he
        have hk1 : f + 2 * k + 1 - (f + k) = k + 1 := by omega
        have HK1 := Lib.hid hk1
        have HN := Lib.hid (fun W (hW : Rd W (some ⟨b, off + (f + k), none⟩) (f + 2 * k + 1 - (f + k)) (c - (f + k)) (ncells ((l.drop (f + k)).take (f + 2 * k + 1 - (f + k))))) => numref_any hW ((H01.out.drop _).take _) (by rw [List.length_take]; omega))
        have hlen : f + k < l.length := by omega
        clear hcc hx hk1
        go_wp2_with fail
        refine (HN.out _ hR).mono ?_
        rw [HK1.out]
        rintro e w9 ⟨rfl, rfl⟩
        go_wp2
        go_ret3
        exact ⟨rfl, rfl⟩
end PB
end Go.Proofs.Ytlhglomhfbbinaa
