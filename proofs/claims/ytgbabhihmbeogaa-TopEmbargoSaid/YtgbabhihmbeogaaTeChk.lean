/-
  store.Check: some fault for every manifest, none for the empty one; the function handed to slices.ContainsFunc by catalogue.checkEntry; slices.ContainsFunc of entries.
-/
import Derived.Test.YtgbabhihmbeogaaTeEnt
namespace Go.Proofs.Ytgbabhihmbeogaa
open Go.RowKit
attribute [local go_sem ↓] Go.wp_at_zero Go.wp_at_succ
set_option linter.unusedVariables false
set_option linter.unusedSimpArgs false
namespace PB
set_option maxRecDepth 100000 in
theorem stfault_any (code index : Int) (w : World) :
    Calls Try.prog 40 #[.int .i64 code, .int .i64 index] w fun e w' => e = .returned (.agg #[.int .i64 code, .int .i64 index]) ∧ Below w.heap.size w w' := by
  go_enter Try.func40, Try.ntmps40
  go_wp2
  refine bodyPost_ret (v := .agg #[.int .i64 code, .int .i64 index]) (by simp [results, Try.results40, go_sem]) rfl ⟨rfl, ?_⟩
  exact (Below.refl _ _).alloc (Nat.le_refl _) _
set_option maxRecDepth 100000 in
set_option maxHeartbeats 1600000 in
theorem stcheck_any {C : List Value} (hl : C.length = 34) (z : Int) (h0 : C[0]? = some (.int .i64 z)) (A : Option Addr) (n c : Nat) (h33 : C[33]? = some (.slice A n c)) (w : World) :
    Calls Try.prog 30 #[.agg C.toArray] w fun e w' => ∃ code idx : Int, ((z = 0 → n = 0 → code = 0) ∧ (code = 0 → idx = 0)) ∧ e = .returned (.agg #[.int .i64 code, .int .i64 idx]) ∧ Below w.heap.size w w' := by
  have B0 := (Blk.new w 37 C.toArray).alloc (.cells #[.int .i64 0, .int .i64 0] 29)
  have M0 := Two.new1 w (.cells C.toArray 37) 29 (.int .i64 0) (.int .i64 0)
  have Y0 := ((Below.refl w.heap.size w).alloc (Nat.le_refl _) (.cells C.toArray 37)).alloc (by simp) (.cells #[.int .i64 0, .int .i64 0] 29)
  have b0 := B0.lcell 0 h0
  have b33 := B0.lcell 33 h33
  have e0 : C.toArray.size = 34 := by simpa using hl
  clear h0 h33
  by_cases hz : z < 0 ∨ 2048 < z
  · rcases hz with hz | hz
    all_goals
      go_enter Try.func30, Try.ntmps30
      go_wp2_with fail
      refine (stfault_any _ _ _).mono ?_
      rintro e w3 ⟨rfl, y3⟩
      have M3 := M0.on y3
      have Y3 := Y0.trans (y3.mono Y0.size)
      clear y3
      have p0 := M3.c0
      have p1 := M3.c1
      have p2 := M3.f0
      have p3 := M3.f1
      go_wp2
      have rr := (M3.set0 (.int .i64 4)).set1 (.int .i64 (-2))
      have r0 := rr.c0
      have r1 := rr.c1
      refine bodyPost_ret (v := .agg #[.int .i64 4, .int .i64 (-2)]) (by simp [results, Try.results30, go_sem, r0, r1]) rfl ⟨4, (-2), ⟨fun h => by omega, fun h => by cases h⟩, rfl, ?_⟩
      exact ((Y3.setCell (p := ⟨w.heap.size + 1, 0, none⟩) (by simp) _).setCell (p := ⟨w.heap.size + 1, 1, none⟩) (by simp) _)
  · have z1 : 0 ≤ z := by omega
    have z2 : z ≤ 2048 := by omega
    by_cases hn : 86 < n
    · go_enter Try.func30, Try.ntmps30
      go_wp2_with fail
      refine (stfault_any _ _ _).mono ?_
      rintro e w3 ⟨rfl, y3⟩
      have M3 := M0.on y3
      have Y3 := Y0.trans (y3.mono Y0.size)
      clear y3
      have p0 := M3.c0
      have p1 := M3.c1
      have p2 := M3.f0
      have p3 := M3.f1
      go_wp2
      have rr := (M3.set0 (.int .i64 2)).set1 (.int .i64 (-2))
      have r0 := rr.c0
      have r1 := rr.c1
      refine bodyPost_ret (v := .agg #[.int .i64 2, .int .i64 (-2)]) (by simp [results, Try.results30, go_sem, r0, r1]) rfl ⟨2, (-2), ⟨fun _ h => by omega, fun h => by cases h⟩, rfl, ?_⟩
      exact ((Y3.setCell (p := ⟨w.heap.size + 1, 0, none⟩) (by simp) _).setCell (p := ⟨w.heap.size + 1, 1, none⟩) (by simp) _)
    · go_enter Try.func30, Try.ntmps30
      have p0 := M0.c0
      have p1 := M0.c1
      have p2 := M0.f0
      have p3 := M0.f1
      go_wp2
      have rr := (M0.set0 (.int .i64 0)).set1 (.int .i64 0)
      have r0 := rr.c0
      have r1 := rr.c1
      refine bodyPost_ret (v := .agg #[.int .i64 0, .int .i64 0]) (by simp [results, Try.results30, go_sem, r0, r1]) rfl ⟨0, 0, ⟨fun _ _ => rfl, fun _ => rfl⟩, rfl, ?_⟩
      exact Y0
/-- The function handed to slices.ContainsFunc. -/
def pEarlier (s : Nat) : Value := .func (.func 32) #[] #[.pointer (some ⟨s, 0, none⟩)]
set_option maxRecDepth 100000 in
set_option maxHeartbeats 1600000 in
theorem earlier_any {x e : Ent} {w : World} {s : Nat} (hx : x.Is w) (hs : Blk w s 39 e.cs.toArray) (he : e.Is w) :
    Calls Try.prog 32 #[.agg x.cs.toArray, .pointer (some ⟨s, 0, none⟩)] w fun r w' => ∃ b : Bool, r = .returned (.bool b) ∧ Below w.heap.size w w' := by
  have B0 := Blk.new w 39 x.cs.toArray
  have S0 := Blk.alloc hs (.cells x.cs.toArray 39)
  have Y0 := (Below.refl w.heap.size w).alloc (Nat.le_refl _) (.cells x.cs.toArray 39)
  have b0 := B0.lcell 0 hx.c0
  have b1 := B0.lcell 1 hx.c1
  have s0 := S0.lcell 0 he.c0
  have s1 := S0.lcell 1 he.c1
  obtain ⟨xs, hxs⟩ : ∃ xs, xs = x.cs.toArray := ⟨_, rfl⟩
  have hsz : xs.size = 76 := by rw [hxs]; simpa using hx.len
  rw [← hxs] at b0 b1 s0 s1 Y0 ⊢
  obtain ⟨n1, hn1⟩ : ∃ n1, n1 = x.name := ⟨_, rfl⟩
  obtain ⟨n2, hn2⟩ : ∃ n2, n2 = e.name := ⟨_, rfl⟩
  obtain ⟨v1, hv1⟩ : ∃ v1, v1 = x.ver := ⟨_, rfl⟩
  obtain ⟨v2, hv2⟩ : ∃ v2, v2 = e.ver := ⟨_, rfl⟩
  rw [← hn1] at b0
  rw [← hn2] at s0
  rw [← hv1] at b1
  rw [← hv2] at s1
  clear hxs hn1 hn2 hv1 hv2 hx he hs B0 S0
  by_cases h : n1 = n2
  · subst h
    go_enter Try.func32, Try.ntmps32
    go_wp2
    go_ret
    exact ⟨_, rfl, Y0⟩
  · have h2 : (n1.toList == n2.toList) = false := by
      rw [beq_eq_false_iff_ne]
      intro e
      apply h
      rw [Lib.toList_data, Lib.toList_data] at e
      cases n1 with
      | mk d1 => cases n2 with
        | mk d2 => exact congrArg _ (Array.toList_inj.1 e)
    go_enter Try.func32, Try.ntmps32
    go_wp2
    go_ret
    exact ⟨_, rfl, Y0⟩
set_option maxRecDepth 100000 in
set_option maxHeartbeats 1600000 in
theorem entidx_any {A : Option Addr} {n c : Nat} {es : List Ent} {w : World} (h : RdE w A n c es) {e : Ent} {s : Nat} (hs : Blk w s 39 e.cs.toArray) (he : e.Is w) :
    Calls Try.prog 41 #[.slice A n c, pEarlier s] w fun r w' => ∃ k : Int, (n = 0 → k = -1) ∧ r = .returned (.int .i64 k) ∧ Below w.heap.size w w' := by
  have hn := h.len
  have hcap := h.2.1
  have hcm := h.2.2.1
  unfold maxLen at hcm
  subst hn
  have HR := Lib.hid h
  have HS := Lib.hid hs
  have HE := Lib.hid he
  clear h hs he
  unfold pEarlier
  go_enter Try.func41, Try.ntmps41
  go_wp2_with fail
  go_loopw [8] (fun iv wr => ∃ k : Nat, k ≤ es.length ∧ iv = .int .i64 (k : Nat) ∧ Below w.heap.size w wr) (fun iv _ => es.length - (intOf iv).toNat)
  case atStart => exact ⟨0, Nat.zero_le _, rfl, Below.refl _ _⟩
  case round =>
    obtain ⟨k, hk, rfl, yr⟩ := hrel
    by_cases hlt : k < es.length
    · have hRr := HR.out.on yr
      have hSr := Blk.on HS.out yr
      have hEr := HE.out.on yr
      have hx := hRr.is k hlt
      obtain ⟨g, off, rfl, hg, q1⟩ := hRr.at k hlt
      have hld := ent_load q1 hx.len
      have HC := Lib.hid (earlier_any hx hSr hEr)
      obtain ⟨xs, hxs⟩ : ∃ xs, xs = (es[k]).cs.toArray := ⟨_, rfl⟩
      rw [← hxs] at hld HC
      have HY := Lib.hid yr
      have i1 : (0 : Int) ≤ (k : Int) := by omega
      have i2 : (k : Int) < (es.length : Int) := by omega
      clear hxs hx q1 hSr hEr hRr yr
      go_wp2_with fail
      refine wp_load_run _ _ rfl rfl hld ?_
      go_wp2_with fail
      refine HC.out.mono ?_
      rintro r w5 ⟨b, rfl, y5⟩
      have HY5 := Lib.hid (HY.out.trans (y5.mono HY.out.size))
      clear y5
      cases b
      · go_wp2_with fail
        refine ⟨⟨k + 1, by omega, by go_num, HY5.out⟩, ?_⟩
        simp [intOf] <;> omega
      · go_wp2_with fail
        go_ret
        exact ⟨_, (fun h => by omega), rfl, HY5.out⟩
    · obtain rfl : k = es.length := by omega
      go_wp2_with fail
      go_ret
      exact ⟨_, fun _ => rfl, rfl, yr⟩
set_option maxRecDepth 100000 in
set_option maxHeartbeats 1600000 in
theorem enthas_any {A : Option Addr} {n c : Nat} {es : List Ent} {w : World} (h : RdE w A n c es) {e : Ent} {s : Nat} (hs : Blk w s 39 e.cs.toArray) (he : e.Is w) :
    Calls Try.prog 31 #[.slice A n c, pEarlier s] w fun r w' => ∃ b : Bool, (n = 0 → b = false) ∧ r = .returned (.bool b) ∧ Below w.heap.size w w' := by
  have HC := Lib.hid (entidx_any h hs he)
  clear h hs he
  unfold pEarlier at HC ⊢
  go_enter Try.func31, Try.ntmps31
  go_wp2_with fail
  refine HC.out.mono ?_
  rintro r w5 ⟨k, hk, rfl, y5⟩
  have HK := Lib.hid hk
  clear hk
  go_wp2_with fail
  go_ret
  exact ⟨_, fun h => by rw [HK.out h]; rfl, rfl, y5⟩
end PB
end Go.Proofs.Ytgbabhihmbeogaa
