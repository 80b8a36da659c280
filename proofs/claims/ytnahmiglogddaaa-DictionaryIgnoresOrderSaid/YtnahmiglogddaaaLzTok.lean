/-
  Tokens: what their cells hold; lz.isLiteral, lz.Valid, lz.cost, lz.fault; the reference's TokenOk, Length.
-/
import Derived.Test.YtnahmiglogddaaaRankMem
import Derived.Test.YtnahmiglogddaaaLzPlain
import Derived.Test.YtnahmiglogddaaaBitsGamma
namespace Go.Proofs.Ytnahmiglogddaaa
open Go.RowKit
attribute [local go_sem ↓] Go.wp_at_zero Go.wp_at_succ
set_option linter.unusedVariables false
set_option linter.unusedSimpArgs false
namespace PB
/-- A token is a literal or a match. -/
def TokOk (d n lit : Int) : Prop := (d = 0 ∧ n = 0) ∨ (lit = 0 ∧ 1 ≤ d ∧ d ≤ 1536 ∧ 3 ≤ n ∧ n ≤ 1024)
def Tok.ok (t : Tok) : Prop := TokOk t.d t.n t.lit
/-- The value of a token. -/
def tokV (d n lit : Int) : Value := .agg #[.int .i64 d, .int .i64 n, .int .u8 lit]
/-- The cells of a token, of tokens. -/
def tcell (t : Tok) : List Value := [.int .i64 t.d, .int .i64 t.n, .int .u8 (t.lit : Nat)]
def tcells (l : List Tok) : List Value := l.flatMap tcell
theorem tcells_length (l : List Tok) : (tcells l).length = l.length * 3 := by
  induction l with
  | nil => rfl
  | cons t l ih => simp only [tcells, List.flatMap_cons, List.length_append, List.length_cons] at ih ⊢; simp only [tcell, List.length_cons, List.length_nil] at ih ⊢; omega
theorem tcells_append (a b : List Tok) : tcells (a ++ b) = tcells a ++ tcells b := by simp [tcells]
theorem tcells_get (l : List Tok) (i : Nat) (t : Tok) (h : l[i]? = some t) : (tcells l)[i * 3]? = some (.int .i64 t.d) ∧ (tcells l)[i * 3 + 1]? = some (.int .i64 t.n) ∧ (tcells l)[i * 3 + 2]? = some (.int .u8 (t.lit : Nat)) := by
  induction l generalizing i with
  | nil => simp at h
  | cons x l ih =>
    have e : tcells (x :: l) = tcell x ++ tcells l := by simp [tcells]
    rw [e]
    cases i with
    | zero =>
      obtain rfl : x = t := by simpa using h
      simp [tcell]
    | succ i =>
      have := ih i (by simpa using h)
      have hl : (tcell x).length = 3 := rfl
      rw [List.getElem?_append_right (by omega), List.getElem?_append_right (by omega), List.getElem?_append_right (by omega), hl]
      rw [show (i + 1) * 3 - 3 = i * 3 by omega, show (i + 1) * 3 + 1 - 3 = i * 3 + 1 by omega, show (i + 1) * 3 + 2 - 3 = i * 3 + 2 by omega]
      exact this
/-- A slice of tokens that can be read. -/
def RdT (w : World) (A : Option Addr) (n c : Nat) (xs : List Tok) : Prop :=
  xs.length = n ∧ n ≤ c ∧ c ≤ maxLen ∧ (0 < n → ∃ b off, A = some ⟨b, off, none⟩ ∧ b < w.heap.size ∧ ∀ i x, xs[i]? = some x →
    w.cell? ⟨b, off + i * 3, none⟩ = some (.int .i64 x.d) ∧ w.cell? ⟨b, off + i * 3 + 1, none⟩ = some (.int .i64 x.n) ∧ w.cell? ⟨b, off + i * 3 + 2, none⟩ = some (.int .u8 (x.lit : Nat)))
section
variable {w w' : World} {A : Option Addr} {n c : Nat} {xs : List Tok}
theorem RdT.on (h : RdT w A n c xs) (hb : Below w.heap.size w w') : RdT w' A n c xs := by
  obtain ⟨h1, h2, h3, h4⟩ := h
  refine ⟨h1, h2, h3, fun hn => ?_⟩
  obtain ⟨b, off, e, hlt, hc⟩ := h4 hn
  refine ⟨b, off, e, Nat.lt_of_lt_of_le hlt hb.size, fun i x hx => ?_⟩
  obtain ⟨q1, q2, q3⟩ := hc i x hx
  exact ⟨(hb.cell (p := ⟨b, off + i * 3, none⟩) hlt).trans q1, (hb.cell (p := ⟨b, off + i * 3 + 1, none⟩) hlt).trans q2, (hb.cell (p := ⟨b, off + i * 3 + 2, none⟩) hlt).trans q3⟩
theorem RdT.alloc (h : RdT w A n c xs) (o : Obj) : RdT (w.alloc o) A n c xs := h.on ((Below.refl _ _).alloc (Nat.le_refl _) o)
theorem RdT.drew (h : RdT w A n c xs) : RdT w.drew A n c xs := h
theorem RdT.drewN (h : RdT w A n c xs) (q : Nat) : RdT (w.drewN q) A n c xs := h
theorem RdT.len (h : RdT w A n c xs) : xs.length = n := h.1
theorem RdT.nil (w : World) : RdT w none 0 0 [] := ⟨rfl, Nat.le_refl _, Nat.zero_le _, fun h => absurd h (by decide)⟩
theorem RdT.at (h : RdT w A n c xs) (k : Nat) (hk : k < xs.length) : ∃ b off, A = some ⟨b, off, none⟩ ∧ b < w.heap.size ∧
    w.cell? ⟨b, off + k * 3, none⟩ = some (.int .i64 xs[k].d) ∧ w.cell? ⟨b, off + k * 3 + 1, none⟩ = some (.int .i64 xs[k].n) ∧ w.cell? ⟨b, off + k * 3 + 2, none⟩ = some (.int .u8 (xs[k].lit : Nat)) := by
  obtain ⟨h1, h2, h3, h4⟩ := h
  obtain ⟨b, off, e, hlt, hc⟩ := h4 (by omega)
  exact ⟨b, off, e, hlt, hc k _ (List.getElem?_eq_getElem hk)⟩
theorem RdT.own {base : Nat} {e : TypeId} (h : w.ownsRow base e 3 (.slice A n c) n (tcells xs)) : RdT w A n c xs := by
  have hl := h.1
  rw [tcells_length] at hl
  have hl2 : xs.length = n := by omega
  rcases h.2 with ⟨h1, h2⟩ | ⟨g, cap, cur, h1, h2, h3, h4, h5, h6, h7⟩
  · injection h1 with e1 e2 e3
    subst e1 e2 e3
    exact ⟨hl2, Nat.le_refl _, Nat.zero_le _, fun h => absurd h (by decide)⟩
  · injection h1 with e1 e2 e3
    subst e1 e3
    refine ⟨hl2, h4, h5, fun hn => ?_⟩
    have hcells := World.ownsRow.cells h (g := g) rfl
    have key : ∀ j u, (tcells xs)[j]? = some u → w.cell? ⟨g, j, none⟩ = some u := by
      intro j u hu
      have := hcells j u hu
      have e : (⟨g, 0, none⟩ : Addr).add j = ⟨g, j, none⟩ := by
        unfold Addr.add
        by_cases hj : j = 0 <;> simp [hj]
      rwa [e] at this
    refine ⟨g, 0, rfl, ?_, fun i x hx => ?_⟩
    · rcases Nat.lt_or_ge g w.heap.size with h | h
      · exact h
      · rw [Array.getElem?_eq_none h] at h3; cases h3
    · obtain ⟨q1, q2, q3⟩ := tcells_get xs i x hx
      rw [show 0 + i * 3 = i * 3 by omega]
      exact ⟨key _ _ q1, key _ _ q2, key _ _ q3⟩
end
set_option maxHeartbeats 800000 in
/-- lz.fault. -/
theorem lzfault_any (code index : Int) (w : World) :
    Calls Try.prog 30 #[.int .i64 code, .int .i64 index] w fun e w' => e = .returned (.agg #[.int .i64 code, .int .i64 index]) ∧ Below w.heap.size w w' := by
  go_enter Try.func30, Try.ntmps30
  go_wp2
  refine bodyPost_ret (v := .agg #[.int .i64 code, .int .i64 index]) (by simp [results, Try.results30, go_sem]) rfl ⟨rfl, ?_⟩
  exact (Below.refl _ _).alloc (Nat.le_refl _) _
set_option maxHeartbeats 800000 in
/-- lz.isLiteral. -/
theorem islit_any (d n lit : Int) (b : Bool) (hb : b = decide (d = 0 ∧ n = 0)) (w : World) :
    Calls Try.prog 38 #[.agg #[.int .i64 d, .int .i64 n, .int .u8 lit]] w fun e w' => e = .returned (.bool b) ∧ Below w.heap.size w w' := by
  subst hb
  have X0 := Three.new w 54 (.int .i64 d) (.int .i64 n) (.int .u8 lit)
  have y0 : Below w.heap.size w (w.alloc (.cells #[.int .i64 d, .int .i64 n, .int .u8 lit] 54)) := (Below.refl _ _).alloc (Nat.le_refl _) _
  by_cases hd : d = 0
  · have q1 : (d == 0) = true := by simpa using hd
    by_cases hn : n = 0
    · have q2 : (n == 0) = true := by simpa using hn
      have e : decide (d = 0 ∧ n = 0) = true := by simp [hd, hn]
      rw [e]
      clear hd hn e
      go_enter Try.func38, Try.ntmps38
      go_wp2
      go_ret
      exact ⟨rfl, y0⟩
    · have q2 : (n == 0) = false := by simpa using hn
      have e : decide (d = 0 ∧ n = 0) = false := by simp [hn]
      rw [e]
      clear hd hn e
      go_enter Try.func38, Try.ntmps38
      go_wp2
      go_ret
      exact ⟨rfl, y0⟩
  · have q1 : (d == 0) = false := by simpa using hd
    have e : decide (d = 0 ∧ n = 0) = false := by simp [hd]
    rw [e]
    clear hd e
    go_enter Try.func38, Try.ntmps38
    go_wp2
    go_ret
    exact ⟨rfl, y0⟩
set_option maxHeartbeats 800000 in
/-- lz.Valid. -/
theorem lzvalid_any (d n lit : Int) (b : Bool) (hb : b = true ↔ TokOk d n lit) (w : World) :
    Calls Try.prog 40 #[.agg #[.int .i64 d, .int .i64 n, .int .u8 lit]] w fun e w' => e = .returned (.bool b) ∧ Below w.heap.size w w' := by
  have X0 := Three.new w 54 (.int .i64 d) (.int .i64 n) (.int .u8 lit)
  have y0 : Below w.heap.size w (w.alloc (.cells #[.int .i64 d, .int .i64 n, .int .u8 lit] 54)) := (Below.refl _ _).alloc (Nat.le_refl _) _
  by_cases h0 : d = 0 ∧ n = 0
  · obtain rfl : b = true := hb.2 (.inl h0)
    have HI := Lib.hid (show true = decide (d = 0 ∧ n = 0) by simp [h0])
    clear h0 hb
    go_enter Try.func40, Try.ntmps40
    go_wp2_with fail
    refine (islit_any _ _ _ true HI.out _).mono ?_
    rintro e w1 ⟨rfl, y1⟩
    have X1 := X0.on y1
    have Y1 := y0.trans (y1.mono y0.size)
    have c0 := X1.c0
    have c1 := X1.c1
    have c2 := X1.c2
    go_wp2
    go_ret
    exact ⟨rfl, Y1⟩
  have HI := Lib.hid (show false = decide (d = 0 ∧ n = 0) by simp [h0])
  have hb2 : b = true ↔ (lit = 0 ∧ 1 ≤ d ∧ d ≤ 1536 ∧ 3 ≤ n ∧ n ≤ 1024) := by
    rw [hb]; unfold TokOk; constructor
    · rintro (h | h)
      · exact absurd h h0
      · exact h
    · exact .inr
  clear h0 hb
  by_cases h1 : lit = 0
  case neg =>
    have q1 : (lit == 0) = false := by simpa using h1
    obtain rfl : b = false := by rw [Bool.eq_false_iff]; intro e; exact h1 (hb2.1 e).1
    clear hb2 h1
    go_enter Try.func40, Try.ntmps40
    go_wp2_with fail
    refine (islit_any _ _ _ false HI.out _).mono ?_
    rintro e w1 ⟨rfl, y1⟩
    have X1 := X0.on y1
    have Y1 := y0.trans (y1.mono y0.size)
    have c0 := X1.c0
    have c1 := X1.c1
    have c2 := X1.c2
    go_wp2
    go_ret
    exact ⟨rfl, Y1⟩
  subst h1
  by_cases h2 : 1 ≤ d
  case neg =>
    have q2 : decide ((1 : Int) ≤ d) = false := by simpa using h2
    obtain rfl : b = false := by rw [Bool.eq_false_iff]; intro e; exact h2 (hb2.1 e).2.1
    clear hb2 h2
    go_enter Try.func40, Try.ntmps40
    go_wp2_with fail
    refine (islit_any _ _ _ false HI.out _).mono ?_
    rintro e w1 ⟨rfl, y1⟩
    have X1 := X0.on y1
    have Y1 := y0.trans (y1.mono y0.size)
    have c0 := X1.c0
    have c1 := X1.c1
    have c2 := X1.c2
    go_wp2
    go_ret
    exact ⟨rfl, Y1⟩
  have q2 : decide ((1 : Int) ≤ d) = true := by simpa using h2
  by_cases h3 : d ≤ 1536
  case neg =>
    have q3 : decide (d ≤ (1536 : Int)) = false := by simpa using h3
    obtain rfl : b = false := by rw [Bool.eq_false_iff]; intro e; exact h3 (hb2.1 e).2.2.1
    clear hb2 h3
    go_enter Try.func40, Try.ntmps40
    go_wp2_with fail
    refine (islit_any _ _ _ false HI.out _).mono ?_
    rintro e w1 ⟨rfl, y1⟩
    have X1 := X0.on y1
    have Y1 := y0.trans (y1.mono y0.size)
    have c0 := X1.c0
    have c1 := X1.c1
    have c2 := X1.c2
    go_wp2
    go_ret
    exact ⟨rfl, Y1⟩
  have q3 : decide (d ≤ (1536 : Int)) = true := by simpa using h3
  by_cases h4 : 3 ≤ n
  case neg =>
    have q4 : decide ((3 : Int) ≤ n) = false := by simpa using h4
    obtain rfl : b = false := by rw [Bool.eq_false_iff]; intro e; exact h4 (hb2.1 e).2.2.2.1
    clear hb2 h4
    go_enter Try.func40, Try.ntmps40
    go_wp2_with fail
    refine (islit_any _ _ _ false HI.out _).mono ?_
    rintro e w1 ⟨rfl, y1⟩
    have X1 := X0.on y1
    have Y1 := y0.trans (y1.mono y0.size)
    have c0 := X1.c0
    have c1 := X1.c1
    have c2 := X1.c2
    go_wp2
    go_ret
    exact ⟨rfl, Y1⟩
  have q4 : decide ((3 : Int) ≤ n) = true := by simpa using h4
  by_cases h5 : n ≤ 1024
  case neg =>
    have q5 : decide (n ≤ (1024 : Int)) = false := by simpa using h5
    obtain rfl : b = false := by rw [Bool.eq_false_iff]; intro e; exact h5 (hb2.1 e).2.2.2.2
    clear hb2 h5
    go_enter Try.func40, Try.ntmps40
    go_wp2_with fail
    refine (islit_any _ _ _ false HI.out _).mono ?_
    rintro e w1 ⟨rfl, y1⟩
    have X1 := X0.on y1
    have Y1 := y0.trans (y1.mono y0.size)
    have c0 := X1.c0
    have c1 := X1.c1
    have c2 := X1.c2
    go_wp2
    go_ret
    exact ⟨rfl, Y1⟩
  have q5 : decide (n ≤ (1024 : Int)) = true := by simpa using h5
  obtain rfl : b = true := hb2.2 ⟨rfl, h2, h3, h4, h5⟩
  clear hb2
  go_enter Try.func40, Try.ntmps40
  go_wp2_with fail
  refine (islit_any _ _ _ false HI.out _).mono ?_
  rintro e w1 ⟨rfl, y1⟩
  have X1 := X0.on y1
  have Y1 := y0.trans (y1.mono y0.size)
  have c0 := X1.c0
  have c1 := X1.c1
  have c2 := X1.c2
  go_wp2
  go_ret
  exact ⟨rfl, Y1⟩
end PB
end Go.Proofs.Ytnahmiglogddaaa
