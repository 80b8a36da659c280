/-
  The contracts of bits.Join, bits.Slice and bits.AppendGamma as the laws use them.
-/
import Derived.Test.YtlhglomhfbbinaaRows
import Derived.Test.YtlhglomhfbbinaaBitsJoin
namespace Go.Proofs.Ytlhglomhfbbinaa
open Go.RowKit
set_option linter.unusedVariables false
set_option linter.unusedSimpArgs false
namespace PB
theorem lit4 (w : World) (t : TypeId) (v0 v1 v2 v3 : Value) (i : Nat) : (w.alloc (.cells #[v0, v1, v2, v3] t)).cell? ⟨w.heap.size, i, none⟩ = #[v0, v1, v2, v3][i]? :=
  Blk.cell (Blk.new w t #[v0, v1, v2, v3]) i
theorem RdB.two {w : World} {x y : BItem} (hx : Rd w x.A x.n x.c (bcells x.d)) (hy : Rd w y.A y.n y.c (bcells y.d)) :
    RdB (w.alloc (.cells #[.slice x.A x.n x.c, .int .i64 x.cnt, .slice y.A y.n y.c, .int .i64 y.cnt] 43)) (some ⟨w.heap.size, 0, none⟩) 2 2 [x, y] := by
  refine ⟨rfl, Nat.le_refl _, by decide, fun _ => ⟨w.heap.size, 0, rfl, by simp, fun i z hz => ?_⟩⟩
  rcases i with _ | _ | i
  · simp at hz
    subst hz
    refine ⟨?_, ?_, hx.alloc _⟩
    · rw [lit4]; rfl
    · rw [lit4]; rfl
  · simp at hz
    subst hz
    refine ⟨?_, ?_, hy.alloc _⟩
    · rw [lit4]; rfl
    · rw [lit4]; rfl
  · simp at hz
/-- bits.Join of two bit strings that fit. -/
theorem api_join2 {Ax Ay : Option Addr} {nx cx ny cy : Nat} {L R J : List Nat} {w : World} (hx : Rd w Ax nx cx (bcells (pack L))) (hy : Rd w Ay ny cy (bcells (pack R))) (gL : Is01 L) (gR : Is01 R) (hs : L.length + R.length ≤ 131072) (hJ : J = L ++ R) (li ri : Int) (hli : li = (L.length : Nat)) (hri : ri = (R.length : Nat)) (g : Nat) (hg : g = w.heap.size) :
    Calls Try.prog 33 #[.slice (some ⟨g, 0, none⟩) 2 2] (w.alloc (.cells #[.slice Ax nx cx, .int .i64 li, .slice Ay ny cy, .int .i64 ri] 43)) fun e w' =>
      ∃ A' n' c', e = .returned (.tuple #[.agg #[.slice A' n' c', .int .i64 (J.length : Nat)], .agg #[.int .i64 0, .int .i64 0]]) ∧ Rd w' A' n' c' (bcells (pack J)) ∧ Below w.heap.size w w' := by
  subst hli hri hg
  have ok1 : (⟨Ax, nx, cx, pack L, L.length⟩ : BItem).ok := Ok.of_list gL (by omega)
  have ok2 : (⟨Ay, ny, cy, pack R, R.length⟩ : BItem).ok := Ok.of_list gR (by omega)
  have e1 : (⟨Ax, nx, cx, pack L, L.length⟩ : BItem).bits = L := by unfold BItem.bits; rw [Int.toNat_natCast, bitsOf_pack gL]
  have e2 : (⟨Ay, ny, cy, pack R, R.length⟩ : BItem).bits = R := by unfold BItem.bits; rw [Int.toNat_natCast, bitsOf_pack gR]
  have ej : joined [⟨Ax, nx, cx, pack L, L.length⟩, ⟨Ay, ny, cy, pack R, R.length⟩] = J := by
    rw [hJ]; simp [joined, e1, e2]
  have hall : AllOk [⟨Ax, nx, cx, pack L, L.length⟩, ⟨Ay, ny, cy, pack R, R.length⟩] 2 := by
    intro i hi _
    rcases i with _ | _ | i
    · exact ok1
    · exact ok2
    · simp at hi; omega
  have hjl : J.length ≤ 131072 := by rw [hJ, List.length_append]; omega
  have hout : JOut [⟨Ax, nx, cx, pack L, L.length⟩, ⟨Ay, ny, cy, pack R, R.length⟩] 0 0 := by
    refine .inr (.inr (.inr ⟨by simp, hall, ?_, rfl, rfl⟩))
    rw [ej]; exact hjl
  have hwf : ∀ x ∈ [(⟨Ax, nx, cx, pack L, L.length⟩ : BItem), ⟨Ay, ny, cy, pack R, R.length⟩], x.wf := by
    intro x hx'
    simp at hx'
    rcases hx' with rfl | rfl
    · exact ⟨pack_lt gL, by simp, by simp; omega⟩
    · exact ⟨pack_lt gR, by simp, by simp; omega⟩
  refine (join_any (RdB.two (x := ⟨Ax, nx, cx, pack L, L.length⟩) (y := ⟨Ay, ny, cy, pack R, R.length⟩) hx hy) hwf hout).mono ?_
  rintro e w' ⟨A', n', c', rfl, ho, hb⟩
  have er : JRes [⟨Ax, nx, cx, pack L, L.length⟩, ⟨Ay, ny, cy, pack R, R.length⟩] 0 0 = J := by unfold JRes; rw [if_pos rfl, ej]
  rw [er] at ho ⊢
  exact ⟨A', n', c', rfl, Rd.own ho, ((Below.refl _ _).alloc (Nat.le_refl _) _).trans (hb.mono (by simp))⟩
theorem takeWhile_rep (k : Nat) (x : Nat) (t : List Nat) (hx : x ≠ 0) : (List.replicate k 0 ++ x :: t).takeWhile (· == 0) = List.replicate k 0 := by
  induction k with
  | zero => simp [hx]
  | succ k ih => simp [List.replicate_succ, ih]
/-- A gamma code that was added is read at its place. -/
theorem gat_gam (l r : List Nat) (x : Nat) (h1 : 1 ≤ x) (h2 : x ≤ 2147483647) : GAt (l ++ gam x ++ r) l.length x (l.length + gsz x) 0 := by
  obtain ⟨a, b, c⟩ := bitLen_bounds x h1 (by omega)
  have hL : Lib.bitLen x ≤ 31 := Lib.bitLen_le x 31 (by decide) (by omega)
  obtain ⟨K, hK⟩ : ∃ K, Lib.bitLen x = K + 1 := ⟨Lib.bitLen x - 1, by omega⟩
  have hg := gam_parts x h1 (by omega)
  rw [hK] at hg b c
  rw [Nat.add_sub_cancel] at b
  have htop : x / 2 ^ K % 2 = 1 := by
    have hp : 0 < 2 ^ K := Nat.two_pow_pos K
    have q1 : 1 ≤ x / 2 ^ K := (Nat.le_div_iff_mul_le hp).2 (by omega)
    have q2 : x / 2 ^ K < 2 := Nat.div_lt_of_lt_mul (by rw [Nat.pow_succ] at c; omega)
    omega
  rw [digs_cons, htop, Nat.add_sub_cancel] at hg
  have hgs : gsz x = 2 * K + 1 := by unfold gsz; omega
  have hz : zr (l ++ gam x ++ r) l.length = K := by
    unfold zr
    rw [List.append_assoc, List.drop_left, hg, List.append_assoc, List.cons_append, takeWhile_rep _ _ _ (by decide), List.length_replicate]
  refine .inr (.inr ⟨by omega, ?_, ?_, by omega, rfl⟩)
  · rw [hz, List.length_append, List.length_append, gam_length]; omega
  · rw [hz, List.append_assoc, ← List.drop_drop, List.drop_left, hg, List.append_assoc, List.drop_left' (by simp)]
    have e : (1 :: digs x K ++ r).take (K + 1) = 1 :: digs x K := by
      rw [List.take_left' (by simp [digs_length])]
    rw [e, ← htop, ← digs_cons, num_digs _ _ c]
/-- Which fault bits.AppendGamma tells. -/
def GErr (d : List Nat) (cnt x code idx : Int) : Prop :=
  (¬ Ok d cnt ∧ code = 6 ∧ idx = -1) ∨ (Ok d cnt ∧ (x < 1 ∨ 2147483647 < x) ∧ code = 4 ∧ idx = -2) ∨ (Ok d cnt ∧ 1 ≤ x ∧ x ≤ 2147483647 ∧ 131072 < cnt + (gsz x.toNat : Nat) ∧ code = 14 ∧ idx = -1)
theorem GErr.code {d : List Nat} {cnt x code idx : Int} (h : GErr d cnt x code idx) : (code != 0) = true := by
  rcases h with ⟨_, rfl, _⟩ | ⟨_, _, rfl, _⟩ | ⟨_, _, _, _, rfl, _⟩ <;> decide
theorem agamma_cases (d : List Nat) (cnt x : Int) (hd : ∀ k, d.getD k 0 < 256) : (∃ code idx, GErr d cnt x code idx) ∨ ∃ (l : List Nat) (y : Nat), Is01 l ∧ l.length ≤ 131072 ∧ d = pack l ∧ cnt = l.length ∧ x = (y : Nat) ∧ 1 ≤ y ∧ y ≤ 2147483647 ∧ l.length + gsz y ≤ 131072 := by
  by_cases h0 : Ok d cnt
  case neg => exact .inl ⟨6, -1, .inl ⟨h0, rfl, rfl⟩⟩
  by_cases h1 : x < 1 ∨ 2147483647 < x
  · exact .inl ⟨4, -2, .inr (.inl ⟨h0, h1, rfl, rfl⟩)⟩
  by_cases h2 : 131072 < cnt + (gsz x.toNat : Nat)
  · exact .inl ⟨14, -1, .inr (.inr ⟨h0, by omega, by omega, h2, rfl, rfl⟩)⟩
  · obtain ⟨l, g1, g2, g3, g4⟩ := h0.list hd
    obtain ⟨y, rfl⟩ := Int.eq_ofNat_of_zero_le (show 0 ≤ x by omega)
    rw [Int.toNat_natCast] at h2
    exact .inr ⟨l, y, g1, g2, g3, g4, rfl, by omega, by omega, by omega⟩
theorem agamma_err {A : Option Addr} {n c : Nat} {d : List Nat} {cnt x code idx : Int} (hd : ∀ k, d.getD k 0 < 256) (hE : GErr d cnt x code idx) (w : World) (h : Rd w A n c (bcells d)) :
    Calls Try.prog 44 #[.agg #[.slice A n c, .int .i64 cnt], .int .i64 x] w fun e w' => e = .returned (.tuple #[.agg #[.slice none 0 0, .int .i64 0], .agg #[.int .i64 code, .int .i64 idx]]) ∧ Below w.heap.size w w' := by
  rcases hE with ⟨h0, rfl, rfl⟩ | ⟨h0, h1, rfl, rfl⟩ | ⟨h0, h1, h2, h3, rfl, rfl⟩
  · exact agamma_form A n c d cnt x _ w h (Nat.le_refl _) h0
  · obtain ⟨l, g1, g2, rfl, rfl⟩ := h0.list hd
    rcases h1 with h1 | h1
    · exact agamma_low A n c l x _ w h (Nat.le_refl _) g1 g2 h1
    · exact agamma_high A n c l x _ w h (Nat.le_refl _) g1 g2 h1
  · obtain ⟨l, g1, g2, rfl, rfl⟩ := h0.list hd
    obtain ⟨y, rfl⟩ := Int.eq_ofNat_of_zero_le (show 0 ≤ x by omega)
    rw [Int.toNat_natCast] at h3
    exact agamma_large A n c l y _ w h (Nat.le_refl _) g1 g2 (by omega) (by omega) (by omega)
/-- Which fault bits.Slice tells. -/
def SErr (d : List Nat) (cnt f t code idx : Int) : Prop :=
  (¬ Ok d cnt ∧ code = 6 ∧ idx = -1) ∨ (Ok d cnt ∧ (f < 0 ∨ cnt < f) ∧ code = 4 ∧ idx = -2) ∨ (Ok d cnt ∧ 0 ≤ f ∧ f ≤ cnt ∧ (t < f ∨ cnt < t) ∧ code = 4 ∧ idx = -3)
end PB
end Go.Proofs.Ytlhglomhfbbinaa
