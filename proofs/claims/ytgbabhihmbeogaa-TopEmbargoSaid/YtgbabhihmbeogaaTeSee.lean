/-
  catalogue.maySee: exactly whether a reader may see an entry.
-/
import Derived.Test.YtgbabhihmbeogaaTeVal
namespace Go.Proofs.Ytgbabhihmbeogaa
open Go.RowKit
attribute [local go_sem ↓] Go.wp_at_zero Go.wp_at_succ
set_option linter.unusedVariables false
set_option linter.unusedSimpArgs false
namespace PB
theorem xcells_getD {w : World} {b off n c : Nat} {l : List ByteArray} (h : Rd w (some ⟨b, off, none⟩) n c (xcells l)) (hn : 0 < n) : ∀ j, j < l.length → w.cell? ⟨b, off + j, none⟩ = some (.string (l.getD j ByteArray.empty)) := by
  intro j hj
  obtain ⟨b', off', e, hb, hc⟩ := h.2.2.2 hn
  injection e with e
  injection e with e1 e2
  subst e1 e2
  rw [List.getD_eq_getElem?_getD, List.getElem?_eq_getElem hj]
  exact hc j _ (xcells_get l j hj)
theorem contains_any {w : World} {A : Option Addr} {n c : Nat} {l : List ByteArray} (h : Rd w A n c (xcells l)) (x : ByteArray) (b : Bool) (hb : b = Lib.containsS l x) :
    Calls Try.prog 26 #[.slice A n c, .string x] w fun e w' => e = .returned (.bool b) ∧ w' = w := by
  have hn : l.length = n := by have := h.len; unfold xcells at this; rw [List.length_map] at this; exact this
  have hcm := Reads.capMax h
  have hcap := Reads.cap h
  unfold maxLen at hcm
  rcases Nat.eq_zero_or_pos n with h0 | h0
  · subst h0
    obtain rfl : l = [] := List.eq_nil_of_length_eq_zero hn
    obtain rfl : b = false := by rw [hb]; rfl
    exact Try.slices_Contains_string_empty A c x w
  · obtain ⟨g, off, rfl, hg, hc⟩ := h.2.2.2 h0
    have := Try.slices_Contains_string g off n c l x w (by omega) (by omega) (xcells_getD h h0)
    rw [show l.take n = l from List.take_of_length_le (by omega)] at this
    rw [hb]
    exact this
set_option maxRecDepth 100000 in
theorem member_any {w : World} {s : Nat} {A : Option Addr} {n c : Nat} {R : List ByteArray} {day : Int} (h : Rd w A n c (xcells R)) (hs : Two w s 46 (.slice A n c) (.int .i64 day)) (x : ByteArray) (b : Bool) (hb : b = Lib.containsS R x) :
    Calls Try.prog 25 #[.string x, .pointer (some ⟨s, 0, none⟩)] w fun e w' => e = .returned (.bool b) ∧ w' = w := by
  have HC := Lib.hid (contains_any h x b hb)
  have s0 := hs.c0
  clear h hs hb
  go_enter Try.func25, Try.ntmps25
  go_wp2_with fail
  refine HC.out.mono ?_
  rintro e w5 ⟨rfl, rfl⟩
  go_wp2
  go_ret
  exact ⟨rfl, rfl⟩
/-- The function handed to slices.ContainsFunc. -/
def pMember (s : Nat) : Value := .func (.func 25) #[] #[.pointer (some ⟨s, 0, none⟩)]
set_option maxRecDepth 100000 in
set_option maxHeartbeats 1600000 in
theorem sidx_any {w : World} {s : Nat} {A B : Option Addr} {n c m d : Nat} {R l : List ByteArray} {day : Int} (h : Rd w A n c (xcells R)) (hs : Two w s 46 (.slice A n c) (.int .i64 day)) (hl : Rd w B m d (xcells l)) :
    Calls Try.prog 35 #[.slice B m d, pMember s] w fun e w' => ∃ k : Int, decide (0 ≤ k) = l.any (Lib.containsS R) ∧ e = .returned (.int .i64 k) ∧ w' = w := by
  have hn := hl.len
  unfold xcells at hn
  rw [List.length_map] at hn
  have hcap := Reads.cap hl
  have hcm := Reads.capMax hl
  unfold maxLen at hcm
  subst hn
  have HR := Lib.hid h
  have HL := Lib.hid hl
  have HS := Lib.hid hs
  clear h hl hs
  unfold pMember
  go_enter Try.func35, Try.ntmps35
  go_wp2_with fail
  go_loopw [8] (fun iv wr => ∃ k : Nat, k ≤ l.length ∧ iv = .int .i64 (k : Nat) ∧ (∀ j (h : j < l.length), j < k → Lib.containsS R l[j] = false) ∧ wr = w) (fun iv _ => l.length - (intOf iv).toNat)
  case atStart => exact ⟨0, Nat.zero_le _, rfl, fun j h hj => by omega, rfl⟩
  case round =>
    obtain ⟨k, hk, rfl, hno, rfl⟩ := hrel
    have HNO := Lib.hid hno
    clear hno
    by_cases hlt : k < l.length
    · obtain ⟨b, off, rfl, hb, hc⟩ := HL.out.2.2.2 (by omega)
      have q1 := hc k _ (xcells_get l k hlt)
      have HC := Lib.hid (member_any HR.out HS.out l[k] _ rfl)
      have HQ := Lib.hid (show Lib.containsS R l[k] = Lib.containsS R l[k] from rfl)
      obtain ⟨q, hq⟩ : ∃ q, q = Lib.containsS R l[k] := ⟨_, rfl⟩
      obtain ⟨x, hx⟩ : ∃ x, x = l[k] := ⟨_, rfl⟩
      rw [← hq] at HC
      rw [← hx] at HC q1
      have HQ := Lib.hid hq
      have i1 : (0 : Int) ≤ (k : Int) := by omega
      have i2 : (k : Int) < (l.length : Int) := by omega
      clear hc hx hq
      go_wp2_with fail
      refine HC.out.mono ?_
      rintro e w5 ⟨rfl, rfl⟩
      cases q
      · go_wp2_with fail
        refine ⟨⟨k + 1, by omega, by go_num, fun j h hj => ?_, trivial⟩, ?_⟩
        · rcases (by omega : j < k ∨ j = k) with hjk | rfl
          · exact HNO.out j h hjk
          · exact HQ.out.symm
        · simp [intOf] <;> omega
      · go_wp2_with fail
        go_ret
        refine ⟨_, ?_, rfl, rfl⟩
        have : l.any (Lib.containsS R) = true := List.any_eq_true.2 ⟨l[k], List.getElem_mem hlt, HQ.out.symm⟩
        rw [this]
        simp
    · obtain rfl : k = l.length := by omega
      go_wp2_with fail
      go_ret
      refine ⟨_, ?_, rfl, rfl⟩
      have : l.any (Lib.containsS R) = false := by
        rw [List.any_eq_false]
        intro x hx
        obtain ⟨j, hj, rfl⟩ := List.getElem_of_mem hx
        rw [HNO.out j hj hj]
        decide
      rw [this]
      rfl
set_option maxRecDepth 100000 in
set_option maxHeartbeats 1600000 in
theorem shas_any {w : World} {s : Nat} {A B : Option Addr} {n c m d : Nat} {R l : List ByteArray} {day : Int} (h : Rd w A n c (xcells R)) (hs : Two w s 46 (.slice A n c) (.int .i64 day)) (hl : Rd w B m d (xcells l)) (b : Bool) (hb : b = l.any (Lib.containsS R)) :
    Calls Try.prog 27 #[.slice B m d, pMember s] w fun e w' => e = .returned (.bool b) ∧ w' = w := by
  have HC := Lib.hid (sidx_any h hs hl)
  have HB := Lib.hid hb
  clear h hs hl hb
  unfold pMember at HC ⊢
  go_enter Try.func27, Try.ntmps27
  go_wp2_with fail
  refine HC.out.mono ?_
  rintro e w5 ⟨k, hk, rfl, rfl⟩
  have HK := Lib.hid hk
  clear hk
  go_wp2_with fail
  go_ret
  exact ⟨by rw [HB.out, ← HK.out]; rfl, rfl⟩
/-- Whether a reader with the groups R may see an entry on a day. -/
def seen (e : Ent) (R : List ByteArray) (day : Int) : Bool := decide (e.emb ≤ day) && (decide (e.gN = 0) || e.grp.any (Lib.containsS R))
set_option maxRecDepth 100000 in
set_option maxHeartbeats 1600000 in
theorem maysee_any {w : World} {e : Ent} (he : e.Is w) {A : Option Addr} {n c : Nat} {R : List ByteArray} (h : Rd w A n c (xcells R)) (day : Int) (b : Bool) (hb : b = seen e R day) :
    Calls Try.prog 18 #[.agg e.cs.toArray, .agg #[.slice A n c, .int .i64 day]] w fun r w' => r = .returned (.bool b) ∧ Below w.heap.size w w' := by
  have S0 := (Blk.new w 39 e.cs.toArray).alloc (.cells #[.slice A n c, .int .i64 day] 46)
  have X0 := Two.new1 w (.cells e.cs.toArray 39) 46 (.slice A n c) (.int .i64 day)
  have E0 := (he.alloc (.cells e.cs.toArray 39)).alloc (.cells #[.slice A n c, .int .i64 day] 46)
  have R0 := (Rd.alloc h (.cells e.cs.toArray 39)).alloc (.cells #[.slice A n c, .int .i64 day] 46)
  have Y0 := ((Below.refl w.heap.size w).alloc (Nat.le_refl _) (.cells e.cs.toArray 39)).alloc (by simp) (.cells #[.slice A n c, .int .i64 day] 46)
  have HC := Lib.hid (shas_any R0 X0 E0.grp _ rfl)
  have p38 := S0.lcell 38 he.c38
  have p39 := S0.lcell 39 he.c39
  have hl := he.len
  have x0 := X0.c0
  have x1 := X0.c1
  have HB := Lib.hid hb
  obtain ⟨xs, hxs⟩ : ∃ xs, xs = e.cs.toArray := ⟨_, rfl⟩
  have hsz : xs.size = 76 := by rw [hxs]; simpa using hl
  rw [← hxs] at p38 p39 x0 x1 Y0 HC ⊢
  obtain ⟨q, hq⟩ : ∃ q, q = e.grp.any (Lib.containsS R) := ⟨_, rfl⟩
  rw [← hq] at HC
  have HQ := Lib.hid hq
  unfold pMember at HC
  clear hxs S0 he hl E0 R0 X0 hb hq h
  by_cases h1 : e.emb ≤ day
  · by_cases h2 : e.gN = 0
    · have h3 : (e.gN == 0) = true := by simpa using h2
      obtain rfl : b = true := by rw [HB.out]; simp [seen, h1, h2]
      go_enter Try.func18, Try.ntmps18
      go_wp2_with fail
      go_ret
      exact ⟨rfl, Y0⟩
    · have h3 : ((e.gN : Int) == 0) = false := by simpa using h2
      obtain rfl : b = q := by rw [HB.out, HQ.out]; simp [seen, h1, h2]
      go_enter Try.func18, Try.ntmps18
      go_wp2_with fail
      refine HC.out.mono ?_
      rintro r w5 ⟨rfl, rfl⟩
      go_wp2_with fail
      go_ret
      exact ⟨rfl, Y0⟩
  · obtain rfl : b = false := by rw [HB.out]; simp [seen, h1]
    go_enter Try.func18, Try.ntmps18
    go_wp2_with fail
    go_ret
    exact ⟨rfl, Y0⟩
end PB
end Go.Proofs.Ytgbabhihmbeogaa
