/-
  catalogue.in, catalogue.fault; catalogue.CheckReader: some fault for every reader; none for a reader without groups on a day of the calendar.
-/
import Derived.Test.YtgbabhihmbeogaaTeGroups
namespace Go.Proofs.Ytgbabhihmbeogaa
open Go.RowKit
attribute [local go_sem ↓] Go.wp_at_zero Go.wp_at_succ
set_option linter.unusedVariables false
set_option linter.unusedSimpArgs false
namespace PB
set_option maxRecDepth 100000 in
theorem cin_any (n low high : Int) (b : Bool) (hb : b = decide (low ≤ n ∧ n ≤ high)) (w : World) :
    Calls Try.prog 24 #[.int .i64 n, .int .i64 low, .int .i64 high] w fun e w' => e = .returned (.bool b) ∧ w' = w := by
  by_cases h1 : low ≤ n
  · by_cases h2 : n ≤ high
    · obtain rfl : b = true := by rw [hb]; simp [h1, h2]
      clear hb
      go_enter Try.func24, Try.ntmps24
      go_wp2
      go_ret
      exact ⟨rfl, rfl⟩
    · obtain rfl : b = false := by rw [hb]; simp [h2]
      clear hb
      go_enter Try.func24, Try.ntmps24
      go_wp2
      go_ret
      exact ⟨rfl, rfl⟩
  · obtain rfl : b = false := by rw [hb]; simp [h1]
    clear hb
    go_enter Try.func24, Try.ntmps24
    go_wp2
    go_ret
    exact ⟨rfl, rfl⟩
set_option maxRecDepth 100000 in
theorem cafault_any (code index : Int) (w : World) :
    Calls Try.prog 20 #[.int .i64 code, .int .i64 index] w fun e w' => e = .returned (.agg #[.int .i64 code, .int .i64 index]) ∧ Below w.heap.size w w' := by
  go_enter Try.func20, Try.ntmps20
  go_wp2
  refine bodyPost_ret (v := .agg #[.int .i64 code, .int .i64 index]) (by simp [results, Try.results20, go_sem]) rfl ⟨rfl, ?_⟩
  exact (Below.refl _ _).alloc (Nat.le_refl _) _
set_option maxRecDepth 100000 in
set_option maxHeartbeats 1600000 in
theorem reader_any {A : Option Addr} {n c : Nat} {l : List ByteArray} {w : World} (h : Rd w A n c (xcells l)) (day : Int) :
    Calls Try.prog 17 #[.agg #[.slice A n c, .int .i64 day]] w fun e w' => ∃ code idx : Int, ((n = 0 → 1 ≤ day → day ≤ 3652059 → code = 0 ∧ idx = 0) ∧ (code = 0 → idx = 0)) ∧ e = .returned (.agg #[.int .i64 code, .int .i64 idx]) ∧ Below w.heap.size w w' := by
  have hcap := Reads.cap h
  have hcm := Reads.capMax h
  unfold maxLen at hcm
  have R0 := (h.alloc (.cells #[.slice A n c, .int .i64 day] 46)).alloc (.cells #[.int .i64 0, .int .i64 0] 29)
  have B0 := (Two.new w 46 (.slice A n c) (.int .i64 day)).alloc (.cells #[.int .i64 0, .int .i64 0] 29)
  have M0 := Two.new1 w (.cells #[.slice A n c, .int .i64 day] 46) 29 (.int .i64 0) (.int .i64 0)
  have Y0 := ((Below.refl w.heap.size w).alloc (Nat.le_refl _) (.cells #[.slice A n c, .int .i64 day] 46)).alloc (by simp) (.cells #[.int .i64 0, .int .i64 0] 29)
  have b0 := B0.c0
  have b1 := B0.c1
  by_cases hn : 4 < n
  · go_enter Try.func17, Try.ntmps17
    go_wp2_with fail
    refine (cafault_any _ _ _).mono ?_
    rintro e w3 ⟨rfl, y3⟩
    have M3 := M0.on y3
    have Y3 := Y0.trans (y3.mono Y0.size)
    have p0 := M3.c0
    have p1 := M3.c1
    have p2 := M3.f0
    have p3 := M3.f1
    clear y3
    go_wp2
    have rr := (M3.set0 (.int .i64 2)).set1 (.int .i64 (-2))
    have r0 := rr.c0
    have r1 := rr.c1
    refine bodyPost_ret (v := .agg #[.int .i64 2, .int .i64 (-2)]) (by simp [results, Try.results17, go_sem, r0, r1]) rfl ⟨2, -2, ⟨fun h => by omega, fun h => by cases h⟩, rfl, ?_⟩
    exact ((Y3.setCell (p := ⟨w.heap.size + 1, 0, none⟩) (by simp) _).setCell (p := ⟨w.heap.size + 1, 1, none⟩) (by simp) _)
  · have HG := Lib.hid (groups_any R0)
    go_enter Try.func17, Try.ntmps17
    go_wp2_with fail
    refine HG.out.mono ?_
    rintro e w1 ⟨code, hcode, rfl, y1⟩
    have M1 := M0.on y1
    have Y1 := Y0.trans (y1.mono Y0.size)
    have B1 := B0.on y1
    have c1 := B1.c1
    clear y1 b0 b1
    by_cases hc : code = 0
    · subst hc
      have HIN := Lib.hid (cin_any day 1 3652059 _ rfl w1)
      obtain ⟨q, hq⟩ : ∃ q, q = decide (1 ≤ day ∧ day ≤ 3652059) := ⟨_, rfl⟩
      rw [← hq] at HIN
      have HQ := Lib.hid hq
      clear hq
      go_wp2_with fail
      refine HIN.out.mono ?_
      rintro e w2 ⟨rfl, rfl⟩
      cases q
      · go_wp2_with fail
        refine (cafault_any _ _ _).mono ?_
        rintro e w3 ⟨rfl, y3⟩
        have M3 := M1.on y3
        have Y3 := Y1.trans (y3.mono Y1.size)
        have p0 := M3.c0
        have p1 := M3.c1
        have p2 := M3.f0
        have p3 := M3.f1
        clear y3
        go_wp2
        have rr := (M3.set0 (.int .i64 4)).set1 (.int .i64 (-2))
        have r0 := rr.c0
        have r1 := rr.c1
        refine bodyPost_ret (v := .agg #[.int .i64 4, .int .i64 (-2)]) (by simp [results, Try.results17, go_sem, r0, r1]) rfl ⟨4, -2, ⟨fun _ g1 g2 => by have := HQ.out; simp [g1, g2] at this, fun h => by cases h⟩, rfl, ?_⟩
        exact ((Y3.setCell (p := ⟨w.heap.size + 1, 0, none⟩) (by simp) _).setCell (p := ⟨w.heap.size + 1, 1, none⟩) (by simp) _)
      · have p0 := M1.c0
        have p1 := M1.c1
        have p2 := M1.f0
        have p3 := M1.f1
        go_wp2
        have rr := (M1.set0 (.int .i64 0)).set1 (.int .i64 0)
        have r0 := rr.c0
        have r1 := rr.c1
        refine bodyPost_ret (v := .agg #[.int .i64 0, .int .i64 0]) (by simp [results, Try.results17, go_sem, r0, r1]) rfl ⟨0, 0, ⟨fun _ _ _ => ⟨rfl, rfl⟩, fun _ => rfl⟩, rfl, ?_⟩
        exact ((Y1.setCell (p := ⟨w.heap.size + 1, 0, none⟩) (by simp) _).setCell (p := ⟨w.heap.size + 1, 1, none⟩) (by simp) _)
    · have hc2 : (code != 0) = true := by rw [bne_iff_ne]; exact hc
      go_wp2_with fail
      refine (cafault_any _ _ _).mono ?_
      rintro e w3 ⟨rfl, y3⟩
      have M3 := M1.on y3
      have Y3 := Y1.trans (y3.mono Y1.size)
      have p0 := M3.c0
      have p1 := M3.c1
      have p2 := M3.f0
      have p3 := M3.f1
      clear y3
      go_wp2
      have rr := (M3.set0 (.int .i64 code)).set1 (.int .i64 (-2))
      have r0 := rr.c0
      have r1 := rr.c1
      refine bodyPost_ret (v := .agg #[.int .i64 code, .int .i64 (-2)]) (by simp [results, Try.results17, go_sem, r0, r1]) rfl ⟨code, -2, ⟨fun h => absurd (hcode h) hc, fun h => absurd h hc⟩, rfl, ?_⟩
      exact ((Y3.setCell (p := ⟨w.heap.size + 1, 0, none⟩) (by simp) _).setCell (p := ⟨w.heap.size + 1, 1, none⟩) (by simp) _)
end PB
end Go.Proofs.Ytgbabhihmbeogaa
