/-
  lz.Encode: the code of tokens.
-/
import Derived.Test.YtlhglomhfbbinaaLzCost
import Derived.Test.YtlhglomhfbbinaaBitsApi2
namespace Go.Proofs.Ytlhglomhfbbinaa
open Go.RowKit
attribute [local go_sem ↓] Go.wp_at_zero Go.wp_at_succ
set_option linter.unusedVariables false
set_option linter.unusedSimpArgs false
namespace PB
/-- The code of a valid token. -/
def tokbits (t : Tok) : List Nat := if t.d = 0 then digs t.lit 9 else 1 :: (gam t.d.toNat ++ gam (t.n.toNat - 2))
theorem tokbits_01 (t : Tok) : Is01 (tokbits t) := by
  unfold tokbits
  split
  · exact digs_01 _ _
  · exact Is01.append (a := [1]) (Is01.of_mem (by simp)) ((digs_01 _ _).append (digs_01 _ _))
theorem tokbits_length (t : Tok) (h : t.ok) : (tokbits t).length = tcost t := by
  unfold tokbits tcost
  split
  · exact digs_length _ _
  · simp only [List.length_cons, List.length_append, gam_length]
    unfold mcost
    omega
theorem tcost_le2 (t : Tok) (h : t.ok) : tcost t ≤ 50 := by
  unfold tcost
  split
  · omega
  · rename_i hd
    rcases h with h | ⟨_, h1, h2, h3, h4⟩
    · exact absurd h.1 hd
    · have a := Lib.bitLen_le t.d.toNat 11 (by decide) (by omega)
      have b := Lib.bitLen_le (t.n.toNat - 2) 11 (by decide) (by omega)
      unfold mcost gsz
      omega
/-- The code of tokens. -/
def codeOf (xs : List Tok) : List Nat := xs.flatMap tokbits
theorem codeOf_01 (xs : List Tok) : Is01 (codeOf xs) := by
  refine Is01.of_mem fun x hx => ?_
  obtain ⟨y, _, hy⟩ := List.mem_flatMap.1 hx
  exact (tokbits_01 y).mem hy
theorem codeOf_take_succ (xs : List Tok) (k : Nat) (h : k < xs.length) : codeOf (xs.take (k + 1)) = codeOf (xs.take k) ++ tokbits xs[k] := by
  rw [List.take_succ_eq_append_getElem h]; unfold codeOf; rw [List.flatMap_append, List.flatMap_singleton]
theorem codeOf_take_le (xs : List Tok) (h : AllTok xs xs.length) : ∀ k, (codeOf (xs.take k)).length ≤ k * 50 := by
  intro k
  induction k with
  | zero => exact Nat.zero_le _
  | succ k ih =>
    rcases Nat.lt_or_ge k xs.length with hl | hl
    · rw [codeOf_take_succ xs k hl, List.length_append, tokbits_length _ (h k hl hl)]
      have := tcost_le2 xs[k] (h k hl hl)
      omega
    · have e : xs.take (k + 1) = xs.take k := by rw [List.take_of_length_le (by omega), List.take_of_length_le hl]
      have e2 : (codeOf (xs.take (k + 1))).length = (codeOf (xs.take k)).length := congrArg (fun y => (codeOf y).length) e
      omega
theorem codeOf_length (xs : List Tok) (h : AllTok xs xs.length) : (codeOf xs).length = costs xs := by
  have : ∀ k, k ≤ xs.length → (codeOf (xs.take k)).length = costs (xs.take k) := by
    intro k
    induction k with
    | zero => intro _; rfl
    | succ k ih =>
      intro hk
      rw [codeOf_take_succ xs k (by omega), costs_take_succ xs k (by omega), List.length_append, ih (by omega), tokbits_length _ (h k (by omega) (by omega))]
  have := this xs.length (Nat.le_refl _)
  rwa [List.take_of_length_le (Nat.le_refl _)] at this
theorem apo_append {A : Option Addr} {n c : Nat} {l L : List Nat} {v m : Nat} {vi mi ci : Int} {w : World} (h : Rd w A n c (bcells (pack l))) (h01 : Is01 l) (hl : l.length ≤ 131072) (hm : m ≤ 32) (hv : v < 2 ^ m) (hs : l.length + m ≤ 131072) (hL : L = l ++ digs v m) (hvi : vi = (v : Nat)) (hmi : mi = (m : Nat)) (hci : ci = (l.length : Nat)) (r : Nat) (hr : r = L.length) :
    Calls Try.prog 43 #[.agg #[.slice A n c, .int .i64 ci], .int .i64 vi, .int .i64 mi] w fun e w' => ∃ A' n' c', e = .returned (.tuple #[.agg #[.slice A' n' c', .int .i64 (r : Nat)], .agg #[.int .i64 0, .int .i64 0]]) ∧ w'.ownsRow w.heap.size 5 1 (.slice A' n' c') n' (bcells (pack L)) ∧ Below w.heap.size w w' := by
  subst hL hvi hmi hci hr
  exact append_ok A n c l v m _ w h (Nat.le_refl _) h01 hl hm hv hs
theorem apo_agamma {A : Option Addr} {n c : Nat} {l L : List Nat} {x : Nat} {xi ci : Int} {w : World} (h : Rd w A n c (bcells (pack l))) (h01 : Is01 l) (hl : l.length ≤ 131072) (hx1 : 1 ≤ x) (hx : x ≤ 2147483647) (hs : l.length + gsz x ≤ 131072) (hL : L = l ++ gam x) (hxi : xi = (x : Nat)) (hci : ci = (l.length : Nat)) (r : Nat) (hr : r = L.length) :
    Calls Try.prog 44 #[.agg #[.slice A n c, .int .i64 ci], .int .i64 xi] w fun e w' => ∃ A' n' c', e = .returned (.tuple #[.agg #[.slice A' n' c', .int .i64 (r : Nat)], .agg #[.int .i64 0, .int .i64 0]]) ∧ w'.ownsRow w.heap.size 5 1 (.slice A' n' c') n' (bcells (pack L)) ∧ Below w.heap.size w w' := by
  subst hL hxi hci hr
  exact agamma_ok A n c l x _ w h (Nat.le_refl _) h01 hl hx1 hx hs
/-- The variables of lz.Encode: the results' cells, the code so far, the fault. -/
structure ERows (w0 w : World) (gb gf : Nat) (A : Option Addr) (n c m : Nat) (L : List Nat) : Prop where
  x : Res2 w w0.heap.size
  b : Two w gb 43 (.slice A n c) (.int .i64 (m : Nat))
  f : Two w gf 25 (.int .i64 0) (.int .i64 0)
  o : w.ownsRow (gf + 1) 5 1 (.slice A n c) n (bcells (pack L))
  y : Below w0.heap.size w0 w
  lt : w0.heap.size + 1 < gb ∧ gb < gf
section
variable {w0 w w' : World} {gb gf n c m : Nat} {A : Option Addr} {L : List Nat}
theorem ERows.on (h : ERows w0 w gb gf A n c m L) (hb : Below w.heap.size w w') : ERows w0 w' gb gf A n c m L :=
  ⟨h.x.on hb, h.b.on hb, h.f.on hb, own_on h.o hb, h.y.trans (hb.mono h.y.size), h.lt⟩
theorem ERows.alloc (h : ERows w0 w gb gf A n c m L) (o : Obj) : ERows w0 (w.alloc o) gb gf A n c m L := h.on ((Below.refl _ _).alloc (Nat.le_refl _) o)
theorem ERows.step (h : ERows w0 w gb gf A n c m L) (hb : Below w.heap.size w w') {A' : Option Addr} {n' c' m' : Nat} {L' : List Nat} (ho : w'.ownsRow w.heap.size 5 1 (.slice A' n' c') n' (bcells (pack L'))) :
    ERows w0 ((((w'.setCell ⟨gb, 0, none⟩ (.slice A' n' c')).setCell ⟨gb, 1, none⟩ (.int .i64 (m' : Nat))).setCell ⟨gf, 0, none⟩ (.int .i64 0)).setCell ⟨gf, 1, none⟩ (.int .i64 0)) gb gf A' n' c' m' L' := by
  have h1 := h.on hb
  have hlt := h.lt
  have hfl := h.f.lt
  have ho2 : w'.ownsRow (gf + 1) 5 1 (.slice A' n' c') n' (bcells (pack L')) := own_less ho (by omega)
  have nb : (Value.slice A' n' c').ownBlock ≠ some gb := fun e => by have := (ho2.lt _ e).1; omega
  have nf : (Value.slice A' n' c').ownBlock ≠ some gf := fun e => by have := (ho2.lt _ e).1; omega
  have e1 : gb ≠ gf := by omega
  have e2 : w0.heap.size ≤ gb := by omega
  have e3 : w0.heap.size ≤ gf := by omega
  refine ⟨(((h1.x.far (p := ⟨gb, 0, none⟩) hlt.1 _).far (p := ⟨gb, 1, none⟩) hlt.1 _).far (p := ⟨gf, 0, none⟩) (by show w0.heap.size + 1 < gf; omega) _).far (p := ⟨gf, 1, none⟩) (by show w0.heap.size + 1 < gf; omega) _,
    (((h1.b.set0 _).set1 _).far (p := ⟨gf, 0, none⟩) e1 _).far (p := ⟨gf, 1, none⟩) e1 _, (((h1.f.far (p := ⟨gb, 0, none⟩) e1.symm _).far (p := ⟨gb, 1, none⟩) e1.symm _).set0 _).set1 _,
    own_far_any (own_far_any (own_far_any (own_far_any ho2 (p := ⟨gb, 0, none⟩) nb _) (p := ⟨gb, 1, none⟩) nb _) (p := ⟨gf, 0, none⟩) nf _) (p := ⟨gf, 1, none⟩) nf _,
    (((h1.y.setCell e2 _).setCell e2 _).setCell e3 _).setCell e3 _, h.lt⟩
end
set_option maxHeartbeats 1600000 in
theorem lzenc_bad {A : Option Addr} {n c : Nat} {xs : List Tok} {code idx : Int} {w : World} (h : RdT w A n c xs) (hT : TOut xs code idx) (hc : code ≠ 0) :
    Calls Try.prog 22 #[.slice A n c] w fun e w' => e = .returned (.tuple #[.agg #[.slice none 0 0, .int .i64 0], .agg #[.int .i64 code, .int .i64 idx]]) ∧ Below w.heap.size w w' := by
  have X0 := Res2.start w
  have y0 : Below w.heap.size w ((w.alloc (.cells #[.slice none 0 0, .int .i64 0] 43)).alloc (.cells #[.int .i64 0, .int .i64 0] 25)) := ((Below.refl _ _).alloc (Nat.le_refl _) _).alloc (by simp) _
  have R0 := (h.alloc (.cells #[.slice none 0 0, .int .i64 0] 43)).alloc (.cells #[.int .i64 0, .int .i64 0] 25)
  have hnq := run_neq_flt code idx 0 0 (fun e => hc e.1)
  have HT := Lib.hid hT
  clear hT hc h
  go_enter Try.func22, Try.ntmps22
  go_wp2_with fail
  refine (lzcheck_any R0 HT.out).mono ?_
  rintro e w1 ⟨rfl, y1⟩
  have X1 := X0.on y1
  have Y1 := y0.trans (y1.mono y0.size)
  have X2 := X1.alloc (.cells #[.int .i64 code, .int .i64 idx] 25)
  have B2 := Two.new w1 25 (.int .i64 code) (.int .i64 idx)
  have Y2 := Y1.alloc Y1.size (.cells #[.int .i64 code, .int .i64 idx] 25)
  obtain ⟨f0, f1, f2, f3, f4, f5, f6, f7, f8⟩ := X2.facts
  obtain ⟨g0, g1, g2, g3, g4⟩ := B2.facts
  have hxl := X1.2.lt
  have e1 : ¬ w1.heap.size = w.heap.size := by omega
  have e2 : ¬ w.heap.size = w1.heap.size := by omega
  have e3 : ¬ w1.heap.size = w.heap.size + 1 := by omega
  have e4 : ¬ w.heap.size + 1 = w1.heap.size := by omega
  go_upto_region 3 with (fail)
  go_region
  go_wp2
  obtain ⟨r0, r1, r2, r3⟩ := X2.ends (.slice none 0 0) (.int .i64 0) (.int .i64 code) (.int .i64 idx)
  exact bodyPost_ret (v := .tuple #[.agg #[.slice none 0 0, .int .i64 0], .agg #[.int .i64 code, .int .i64 idx]]) (by simp [results, Try.results22, go_sem, r0, r1, r2, r3]) rfl ⟨rfl, belowD (below_res2 Y2 _ _ _ _)⟩
set_option maxRecDepth 100000 in
set_option maxHeartbeats 1600000 in
theorem lzenc_ok {A : Option Addr} {n c : Nat} {xs : List Tok} {w : World} (h : RdT w A n c xs) (hl : xs.length ≤ 1024) (hall : AllTok xs xs.length) (hlit : ∀ t ∈ xs, t.lit < 256) :
    Calls Try.prog 22 #[.slice A n c] w fun e w' => ∃ A' n' c', e = .returned (.tuple #[.agg #[.slice A' n' c', .int .i64 ((codeOf xs).length : Nat)], .agg #[.int .i64 0, .int .i64 0]]) ∧ w'.ownsRow w.heap.size 5 1 (.slice A' n' c') n' (bcells (pack (codeOf xs))) ∧ Below w.heap.size w w' := by
  have hn := h.1
  have hcap := h.2.1
  have hcm := h.2.2.1
  unfold maxLen at hcm
  obtain rfl := hn
  have X0 := Res2.start w
  have y0 : Below w.heap.size w ((w.alloc (.cells #[.slice none 0 0, .int .i64 0] 43)).alloc (.cells #[.int .i64 0, .int .i64 0] 25)) := ((Below.refl _ _).alloc (Nat.le_refl _) _).alloc (by simp) _
  have R0 := (h.alloc (.cells #[.slice none 0 0, .int .i64 0] 43)).alloc (.cells #[.int .i64 0, .int .i64 0] 25)
  have HA := Lib.hid hall
  have HLI := Lib.hid hlit
  have HCL := Lib.hid (codeOf_take_le xs hall)
  clear hall hlit
  go_enter Try.func22, Try.ntmps22
  go_wp2_with fail
  refine (lzcheck_any R0 (.inr (.inr ⟨hl, HA.out, rfl, rfl⟩))).mono ?_
  rintro e w1 ⟨rfl, y1⟩
  have X1 := X0.on y1
  have Y1 := y0.trans (y1.mono y0.size)
  have B2 := Two.new w1 25 (.int .i64 0) (.int .i64 0)
  have hxl := X1.2.lt
  obtain ⟨g0, g1, g2, g3, g4⟩ := B2.facts
  clear y1 X0 y0 R0
  go_wp2_with fail
  have E0 : ERows w (((w1.alloc (.cells #[.int .i64 0, .int .i64 0] 25)).alloc (.cells #[.slice none 0 0, .int .i64 0] 43)).alloc (.cells #[.int .i64 0, .int .i64 0] 25)) (w1.heap.size + 1) (w1.heap.size + 1 + 1) none 0 0 0 [] :=
    ⟨((X1.alloc _).alloc _).alloc _, (by simpa using (Two.new1 w1 (.cells #[.int .i64 0, .int .i64 0] 25) 43 (.slice none 0 0) (.int .i64 0)).alloc (.cells #[.int .i64 0, .int .i64 0] 25)),
      (by simpa using Two.new2 w1 (.cells #[.int .i64 0, .int .i64 0] 25) (.cells #[.slice none 0 0, .int .i64 0] 43) 25 (.int .i64 0) (.int .i64 0)), World.ownsRow_nil _ _ _ _,
      ((Y1.alloc Y1.size _).alloc (by have := Y1.size; simp; omega) _).alloc (by have := Y1.size; simp; omega) _, by omega⟩
  generalize (((w1.alloc (.cells #[.int .i64 0, .int .i64 0] 25)).alloc (.cells #[.slice none 0 0, .int .i64 0] 43)).alloc (.cells #[.int .i64 0, .int .i64 0] 25)) = w3 at E0 ⊢
  obtain ⟨gb, hgb⟩ : ∃ g, g = w1.heap.size + 1 := ⟨_, rfl⟩
  rw [← hgb] at E0 ⊢
  obtain ⟨gf, hgf⟩ : ∃ g, g = gb + 1 := ⟨_, rfl⟩
  rw [← hgf] at E0 ⊢
  clear hgb hgf X1 Y1 B2 g0 g1 g2 g3 g4 hxl
  have HE0 := Lib.hid E0
  clear E0
  go_loopw [18] (fun i wr => ∃ k m : Nat, ∃ A1 n1 c1, k ≤ xs.length ∧ i = .int .i64 k ∧ m = (codeOf (xs.take k)).length ∧ ERows w wr gb gf A1 n1 c1 m (codeOf (xs.take k))) (fun i _ => xs.length - (intOf i).toNat)
  case atStart => exact ⟨0, 0, none, 0, 0, Nat.zero_le _, rfl, rfl, HE0.out⟩
  case round =>
    obtain ⟨k, m, A1, n1, c1, hk, rfl, hm, hE⟩ := hrel
    clear HE0
    have HM := Lib.hid hm
    have hmb : m ≤ 1024 * 50 := by rw [hm]; have := HCL.out k; omega
    obtain ⟨L, hL⟩ : ∃ L, L = codeOf (xs.take k) := ⟨_, rfl⟩
    rw [← hL] at hE
    have HL := Lib.hid hL
    have HLm := Lib.hid (show m = L.length by rw [hm, hL])
    have HL01 := Lib.hid (show Is01 L by rw [hL]; exact codeOf_01 _)
    clear hm hL
    by_cases hlt : k < xs.length
    · obtain ⟨b, off, rfl, hb, q1, q2, q3⟩ := (h.on hE.y).at k hlt
      obtain ⟨xd, xn, xl, hx⟩ : ∃ xd xn xl, xs[k] = (⟨xd, xn, xl⟩ : Tok) := ⟨_, _, _, rfl⟩
      rw [hx] at q1 q2 q3
      dsimp only at q1 q2 q3
      have hok : Tok.ok ⟨xd, xn, xl⟩ := by rw [← hx]; exact HA.out k hlt hlt
      have hxl : xl < 256 := by have := HLI.out _ (List.getElem_mem hlt); rwa [hx] at this
      have HS := Lib.hid (show codeOf (xs.take (k + 1)) = L ++ tokbits ⟨xd, xn, xl⟩ by rw [codeOf_take_succ xs k hlt, hx, ← HL.out])
      clear hx
      have hgfw := hE.f.lt
      have hbf := hE.lt
      have ebf : ¬ gb = gf := by omega
      have efb : ¬ gf = gb := by omega
      have EV := hE.alloc (.cells #[.int .i64 xd, .int .i64 xn, .int .u8 (xl : Nat)] 37)
      have V0 := Three.new wr 37 (.int .i64 xd) (.int .i64 xn) (.int .u8 (xl : Nat))
      rcases hok with ⟨h1, h2⟩ | ⟨h0, h1, h2, h3, h4⟩
      · dsimp only at h1 h2
        subst h1 h2
        have htb : tokbits ⟨0, 0, xl⟩ = digs xl 9 := rfl
        rw [htb] at HS
        clear htb
        go_wp2_with fail
        refine (islit_any _ _ _ true (by simp) _).mono ?_
        rintro e w4 ⟨rfl, y4⟩
        have E4 := EV.on y4
        have V4 := V0.on y4
        have c2 := V4.c2
        have b0 := E4.b.c0
        have b1 := E4.b.c1
        clear q1 q2 q3 EV V0 hE
        obtain ⟨M, hM⟩ : ∃ M, M = m + 9 := ⟨_, rfl⟩
        have HMM := Lib.hid hM
        clear hM
        go_wp2_with fail
        refine (apo_append (v := xl) (m := 9) (Rd.own E4.o) HL01.out (by rw [← HLm.out]; omega) (by decide) (by omega) (by rw [← HLm.out]; omega) rfl rfl rfl (by rw [HLm.out]) M (by rw [List.length_append, digs_length, HMM.out, HLm.out])).mono ?_
        rintro e w5 ⟨A5, n5, c5, rfl, o5, y5⟩
        have E5 := E4.step (m' := M) y5 o5
        have T5 := E4.on y5
        obtain ⟨b0, b1, b2, b3, b4⟩ := T5.b.facts
        obtain ⟨f0, f1, f2, f3, f4⟩ := T5.f.facts
        go_upto_region 16 with (fail)
        generalize ((((w5.setCell ⟨gb, 0, none⟩ (.slice A5 n5 c5)).setCell ⟨gb, 1, none⟩ (.int .i64 (M : Nat))).setCell ⟨gf, 0, none⟩ (.int .i64 0)).setCell ⟨gf, 1, none⟩ (.int .i64 0)) = v5 at E5 ⊢
        clear c2 b0 b1 b2 b3 b4 f0 f1 f2 f3 f4 T5 E4
        have f0 := E5.f.c0
        have f1 := E5.f.c1
        go_wp2_with fail
        go_roundw
        case rel => exact ⟨k + 1, M, A5, n5, c5, by omega, by go_num, by rw [HS.out, List.length_append, digs_length, HMM.out, HLm.out], by rw [HS.out]; exact E5⟩
        case measure => simp [intOf] <;> omega
      · dsimp only at h0 h1 h2 h3 h4
        obtain ⟨d, rfl⟩ := Int.eq_ofNat_of_zero_le (show 0 ≤ xd by omega)
        obtain ⟨n, rfl⟩ := Int.eq_ofNat_of_zero_le (show 0 ≤ xn by omega)
        have htb : tokbits ⟨(d : Nat), (n : Nat), xl⟩ = 1 :: (gam d ++ gam (n - 2)) := by unfold tokbits; dsimp only; rw [if_neg (by omega)]; rfl
        rw [htb] at HS
        clear htb h0
        obtain ⟨G1, hG1⟩ : ∃ G, G = gsz d := ⟨_, rfl⟩
        obtain ⟨G2, hG2⟩ : ∃ G, G = gsz (n - 2) := ⟨_, rfl⟩
        have hg1 : G1 ≤ 22 := by rw [hG1]; unfold gsz; have := Lib.bitLen_le d 11 (by decide) (by omega); omega
        have hg2 : G2 ≤ 22 := by rw [hG2]; unfold gsz; have := Lib.bitLen_le (n - 2) 11 (by decide) (by omega); omega
        have HG1 := Lib.hid hG1
        have HG2 := Lib.hid hG2
        obtain ⟨M1, hM1⟩ : ∃ M, M = m + 1 := ⟨_, rfl⟩
        obtain ⟨M2, hM2⟩ : ∃ M, M = m + 1 + G1 := ⟨_, rfl⟩
        obtain ⟨M3, hM3⟩ : ∃ M, M = m + 1 + G1 + G2 := ⟨_, rfl⟩
        have HM1 := Lib.hid (show M1 = (L ++ [1]).length by rw [List.length_append, ← HLm.out, hM1]; rfl)
        have HM2 := Lib.hid (show M2 = (L ++ [1] ++ gam d).length by rw [List.length_append, gam_length, ← HM1.out, hM2, hM1, HG1.out])
        have HM3 := Lib.hid (show M3 = (L ++ [1] ++ gam d ++ gam (n - 2)).length by rw [List.length_append, gam_length, ← HM2.out, hM3, hM2, HG2.out])
        have l1 : M1 ≤ 60000 := by omega
        have l2 : M2 ≤ 60000 := by omega
        have l3 : M3 ≤ 60000 := by omega
        have l4 : M1 + G1 ≤ 60000 := by omega
        have l5 : M2 + G2 ≤ 60000 := by omega
        clear hG1 hG2 hM1 hM2 hM3
        have J1 := Lib.hid (HL01.out.append (b := [1]) (Is01.of_mem (by simp)))
        have J2 := Lib.hid (J1.out.append (b := gam d) (digs_01 _ _))
        go_wp2_with fail
        refine (islit_any _ _ _ false (by simp; omega) _).mono ?_
        rintro e w4 ⟨rfl, y4⟩
        have E4 := EV.on y4
        have V4 := V0.on y4
        have b0 := E4.b.c0
        have b1 := E4.b.c1
        clear q1 q2 q3 EV V0 hE
        obtain ⟨gt, hgt⟩ : ∃ gt, gt = wr.heap.size := ⟨_, rfl⟩
        have tf : gt ≠ gf := by omega
        have tb : gt ≠ gb := by omega
        rw [← hgt] at V4 ⊢
        clear hgt
        go_wp2_with fail
        refine (apo_append (v := 1) (m := 1) (L := L ++ [1]) (Rd.own E4.o) HL01.out (by rw [← HLm.out]; omega) (by decide) (by decide) (by rw [← HLm.out]; omega) rfl rfl rfl (by rw [HLm.out]) M1 HM1.out).mono ?_
        rintro e w5 ⟨A5, n5, c5, rfl, o5, y5⟩
        have E5 := E4.step (m' := M1) y5 o5
        have T5 := E4.on y5
        have V5 := ((((V4.on y5).far (p := ⟨gb, 0, none⟩) tb (.slice A5 n5 c5)).far (p := ⟨gb, 1, none⟩) tb (.int .i64 (M1 : Nat))).far (p := ⟨gf, 0, none⟩) tf (.int .i64 0)).far (p := ⟨gf, 1, none⟩) tf (.int .i64 0)
        obtain ⟨b0, b1, b2, b3, b4⟩ := T5.b.facts
        obtain ⟨f0, f1, f2, f3, f4⟩ := T5.f.facts
        go_upto_region 12 with (fail)
        generalize ((((w5.setCell ⟨gb, 0, none⟩ (.slice A5 n5 c5)).setCell ⟨gb, 1, none⟩ (.int .i64 (M1 : Nat))).setCell ⟨gf, 0, none⟩ (.int .i64 0)).setCell ⟨gf, 1, none⟩ (.int .i64 0)) = v5 at E5 V5 ⊢
        clear b0 b1 b2 b3 b4 f0 f1 f2 f3 f4 T5 E4
        clear V4 y4 y5 o5
        have f0 := E5.f.c0
        have f1 := E5.f.c1
        have b0 := E5.b.c0
        have b1 := E5.b.c1
        have t0 := V5.c0
        have t1 := V5.c1
        go_wp2_with fail
        refine (apo_agamma (x := d) (L := L ++ [1] ++ gam d) (Rd.own E5.o) J1.out (by rw [← HM1.out]; omega) (by omega) (by omega) (by rw [← HM1.out, ← HG1.out]; omega) rfl rfl (by rw [HM1.out]) M2 HM2.out).mono ?_
        clear f0 f1 b0 b1 t0 t1
        rintro e w6 ⟨A6, n6, c6, rfl, o6, y6⟩
        have E6 := E5.step (m' := M2) y6 o6
        have T6 := E5.on y6
        have V6 := ((((V5.on y6).far (p := ⟨gb, 0, none⟩) tb (.slice A6 n6 c6)).far (p := ⟨gb, 1, none⟩) tb (.int .i64 (M2 : Nat))).far (p := ⟨gf, 0, none⟩) tf (.int .i64 0)).far (p := ⟨gf, 1, none⟩) tf (.int .i64 0)
        obtain ⟨b0, b1, b2, b3, b4⟩ := T6.b.facts
        obtain ⟨f0, f1, f2, f3, f4⟩ := T6.f.facts
        go_upto_region 14 with (fail)
        generalize ((((w6.setCell ⟨gb, 0, none⟩ (.slice A6 n6 c6)).setCell ⟨gb, 1, none⟩ (.int .i64 (M2 : Nat))).setCell ⟨gf, 0, none⟩ (.int .i64 0)).setCell ⟨gf, 1, none⟩ (.int .i64 0)) = v6 at E6 V6 ⊢
        clear b0 b1 b2 b3 b4 f0 f1 f2 f3 f4 T6 E5
        clear V5 y6 o6
        have f0 := E6.f.c0
        have f1 := E6.f.c1
        have b0 := E6.b.c0
        have b1 := E6.b.c1
        have t0 := V6.c0
        have t1 := V6.c1
        go_wp2_with fail
        refine (apo_agamma (x := n - 2) (L := L ++ [1] ++ gam d ++ gam (n - 2)) (Rd.own E6.o) J2.out (by rw [← HM2.out]; omega) (by omega) (by omega) (by rw [← HM2.out, ← HG2.out]; omega) rfl (by omega) (by rw [HM2.out]) M3 HM3.out).mono ?_
        clear f0 f1 b0 b1 t0 t1
        rintro e w7 ⟨A7, n7, c7, rfl, o7, y7⟩
        have E7 := E6.step (m' := M3) y7 o7
        have T7 := E6.on y7
        obtain ⟨b0, b1, b2, b3, b4⟩ := T7.b.facts
        obtain ⟨f0, f1, f2, f3, f4⟩ := T7.f.facts
        go_upto_region 16 with (fail)
        generalize ((((w7.setCell ⟨gb, 0, none⟩ (.slice A7 n7 c7)).setCell ⟨gb, 1, none⟩ (.int .i64 (M3 : Nat))).setCell ⟨gf, 0, none⟩ (.int .i64 0)).setCell ⟨gf, 1, none⟩ (.int .i64 0)) = v7 at E7 ⊢
        clear b0 b1 b2 b3 b4 f0 f1 f2 f3 f4 T7 E6
        have f0 := E7.f.c0
        have f1 := E7.f.c1
        go_wp2_with fail
        go_roundw
        case rel => exact ⟨k + 1, M3, A7, n7, c7, by omega, by go_num, by rw [HS.out, HM3.out]; simp [List.append_assoc], by rw [HS.out]; simpa [List.append_assoc] using E7⟩
        case measure => simp [intOf] <;> omega
    · obtain rfl : k = xs.length := by omega
      have e : codeOf (xs.take xs.length) = codeOf xs := by rw [List.take_of_length_le (Nat.le_refl _)]
      have HLX := Lib.hid (show codeOf xs = L by rw [← e, HL.out])
      clear e
      have b0 := hE.b.c0
      have b1 := hE.b.c1
      obtain ⟨g0, g1, g2, g3, g4, g5, g6, g7, g8⟩ := hE.x.facts
      have hlt3 := hE.lt
      have u1 : ¬ gb = w.heap.size := by omega
      have u2 : ¬ w.heap.size = gb := by omega
      have u3 : ¬ gb = w.heap.size + 1 := by omega
      have u4 : ¬ w.heap.size + 1 = gb := by omega
      go_wp2
      obtain ⟨r0, r1, r2, r3⟩ := hE.x.ends (.slice A1 n1 c1) (.int .i64 (m : Nat)) (.int .i64 0) (.int .i64 0)
      refine bodyPost_ret (v := .tuple #[.agg #[.slice A1 n1 c1, .int .i64 (m : Nat)], .agg #[.int .i64 0, .int .i64 0]]) (by simp [results, Try.results22, go_sem, r0, r1, r2, r3]) rfl ⟨A1, n1, c1, by rw [HLX.out, HLm.out], ?_, below_res2 hE.y _ _ _ _⟩
      rw [HLX.out]
      exact own_res2 hE.x (own_less hE.o (by omega)) _ _ _ _
end PB
end Go.Proofs.Ytlhglomhfbbinaa
