/-
  dictionary.Next: a dictionary that continues another one.
  The reference's functions for dictionaries: SamplesFault, Total, Occurs, Frequency, after, ends.
  The reference's next: the segment that follows another one in the order of segments.
  The reference's Trained: the dictionary of samples.
  dictionary.Worth: what a dictionary saves.
  The closed examples of package dictionary: trains answers true.
  An argument of type [][]byte, opened: what the walks are told of it; the cell of the package variable in a row's first world.
-/
import Derived.Test.YtnahmiglogddaaaDiOne
import Derived.Test.YtnahmiglogddaaaBitsEx
import Derived.Deep.QuietTactic
import Derived.BigQuiet
import Derived.Deep.LoopGhost
import Derived.Test.YtnahmiglogddaaaLzApi
import Derived.Test.YtnahmiglogddaaaRows
import Derived.Deep.RegionHeld3
import Derived.Deep.DrawnRows
import Derived.Deep.Cut
import Derived.Lib.SlBytesConst
import Derived.Test.YtnahmiglogddaaaBitsOpen
import Derived.Test.YtnahmiglogddaaaBitsOpen2
import Derived.Test.YtnahmiglogddaaaLzOpen
namespace Go.Proofs.Ytnahmiglogddaaa
open Go.RowKit
attribute [local go_sem ↓] Go.wp_at_zero Go.wp_at_succ
set_option linter.unusedVariables false
set_option linter.unusedSimpArgs false
namespace PB
set_option maxRecDepth 100000 in
set_option maxHeartbeats 1600000 in
theorem dnext_long {A : Option Addr} {n c : Nat} {xs : List SItem} {B : Option Addr} {m k : Nat} {dd : List Nat} {w : World} (h : RdSS w A n c xs) (hd : Rd w B m k (bcells dd)) (si : Int) (hl : 512 < m) :
    Calls Try.prog 16 #[.slice B m k, .slice A n c, .int .i64 si] w fun e w' => e = .returned (.tuple #[.slice none 0 0, .agg #[.int .i64 3, .int .i64 (-1)]]) ∧ Below w.heap.size w w' := by
  have hdn := hd.len
  rw [bcells_length] at hdn
  have hdc := Reads.cap hd
  have hdm := Reads.capMax hd
  unfold maxLen at hdm
  have M0 := Two.new w 25 (.int .i64 0) (.int .i64 0)
  have Y0 := (Below.refl w.heap.size w).alloc (Nat.le_refl _) (.cells #[.int .i64 0, .int .i64 0] 25)
  have R0 := h.alloc (.cells #[.int .i64 0, .int .i64 0] 25)
  have D0 := hd.alloc (.cells #[.int .i64 0, .int .i64 0] 25)
  have kl : decide ((512 : Int) < (m : Int)) = true := by simp; omega
  go_enter Try.func16, Try.ntmps16
  go_wp2_with fail
  refine (difault_any _ _ _).mono ?_
  rintro e w3 ⟨rfl, y3⟩
  have M3 := M0.on y3
  have Y3 := Y0.trans (y3.mono Y0.size)
  have p0 := M3.c0
  have p1 := M3.c1
  have p2 := M3.f0
  have p3 := M3.f1
  clear M0 Y0 R0 D0 y3
  
  go_wp2
  have rr := ((M3.set0 (.int .i64 3)).set1 (.int .i64 (-1)))
  have r0 := rr.c0
  have r1 := rr.c1
  refine bodyPost_ret (v := .tuple #[.slice none 0 0, .agg #[.int .i64 3, .int .i64 (-1)]]) (by simp [results, Try.results16, go_sem, r0, r1]) rfl ⟨rfl, ?_⟩
  exact ((Y3.setCell (p := ⟨w.heap.size, 0, none⟩) (by simp) _).setCell (p := ⟨w.heap.size, 1, none⟩) (by simp) _)
set_option maxRecDepth 100000 in
set_option maxHeartbeats 1600000 in
theorem dnext_sam {A : Option Addr} {n c : Nat} {xs : List SItem} {B : Option Addr} {m k : Nat} {dd : List Nat} {w : World} (h : RdSS w A n c xs) (hd : Rd w B m k (bcells dd)) (si code idx : Int) (hl : m ≤ 512) (hF : SFault xs (-2) code idx) (hc : code ≠ 0) :
    Calls Try.prog 16 #[.slice B m k, .slice A n c, .int .i64 si] w fun e w' => e = .returned (.tuple #[.slice none 0 0, .agg #[.int .i64 code, .int .i64 idx]]) ∧ Below w.heap.size w w' := by
  have hdn := hd.len
  rw [bcells_length] at hdn
  have hdc := Reads.cap hd
  have hdm := Reads.capMax hd
  unfold maxLen at hdm
  have M0 := Two.new w 25 (.int .i64 0) (.int .i64 0)
  have Y0 := (Below.refl w.heap.size w).alloc (Nat.le_refl _) (.cells #[.int .i64 0, .int .i64 0] 25)
  have R0 := h.alloc (.cells #[.int .i64 0, .int .i64 0] 25)
  have D0 := hd.alloc (.cells #[.int .i64 0, .int .i64 0] 25)
  have hc2 : (code == 0) = false := by rw [beq_eq_false_iff_ne]; exact hc
  have hc3 : (code != 0) = true := by rw [bne_iff_ne]; exact hc
  have kl : decide ((512 : Int) < (m : Int)) = false := by simp; omega
  go_enter Try.func16, Try.ntmps16
  go_wp2_with fail
  refine (dicheck_any R0 (-2) _ _ hF).mono ?_
  rintro e w1 ⟨rfl, y1⟩
  have M1 := (M0.on y1).alloc (.cells #[.int .i64 code, .int .i64 idx] 25)
  have F1 := Two.new w1 25 (.int .i64 code) (.int .i64 idx)
  have Y1 := (Y0.trans (y1.mono Y0.size)).alloc (Y0.trans (y1.mono Y0.size)).size (.cells #[.int .i64 code, .int .i64 idx] 25)
  have R1 := (R0.on y1).alloc (.cells #[.int .i64 code, .int .i64 idx] 25)
  have D1 := (D0.on y1).alloc (.cells #[.int .i64 code, .int .i64 idx] 25)
  have m0 := M1.c0
  have m1 := M1.c1
  have m2 := M1.f0
  have m3 := M1.f1
  have f0 := F1.c0
  have f1 := F1.c1
  have hsz := (Y0.trans (y1.mono Y0.size)).size
  have hszm := (M0.on y1).lt
  clear M0 Y0 R0 y1
  obtain ⟨W, hW⟩ : ∃ W, W = w1.alloc (.cells #[.int .i64 code, .int .i64 idx] 25) := ⟨_, rfl⟩
  rw [← hW] at M1 F1 Y1 R1 D1 m0 m1 m2 m3 f0 f1
  clear hc hF
  go_upto_region 5 with (fail)
  rw [← hW]
  clear hW
  go_region
  all_goals
    go_wp2
    have rr := ((M1.set0 (.int .i64 code)).set1 (.int .i64 idx)).drew
    have r0 := rr.c0
    have r1 := rr.c1
    refine bodyPost_ret (v := .tuple #[.slice none 0 0, .agg #[.int .i64 code, .int .i64 idx]]) (by simp [results, Try.results16, go_sem, r0, r1]) rfl ⟨rfl, ?_⟩
    exact belowD ((Y1.setCell (p := ⟨w.heap.size, 0, none⟩) (by simp) _).setCell (p := ⟨w.heap.size, 1, none⟩) (by simp) _)
set_option maxRecDepth 100000 in
set_option maxHeartbeats 1600000 in
theorem dnext_size {A : Option Addr} {n c : Nat} {xs : List SItem} {B : Option Addr} {m k : Nat} {dd : List Nat} {w : World} (h : RdSS w A n c xs) (hd : Rd w B m k (bcells dd)) (si : Int) (hl : m ≤ 512) (hok : SamOk xs) (hs : si < 0 ∨ 512 < si) :
    Calls Try.prog 16 #[.slice B m k, .slice A n c, .int .i64 si] w fun e w' => e = .returned (.tuple #[.slice none 0 0, .agg #[.int .i64 4, .int .i64 (-3)]]) ∧ Below w.heap.size w w' := by
  have hcs : si < 0 ∨ (0 ≤ si ∧ 512 < si) := by omega
  have hF : SFault xs (-2) 0 0 := .inr (.inr ⟨hok, rfl, rfl⟩)
  clear hs hok
  have hdn := hd.len
  rw [bcells_length] at hdn
  have hdc := Reads.cap hd
  have hdm := Reads.capMax hd
  unfold maxLen at hdm
  have M0 := Two.new w 25 (.int .i64 0) (.int .i64 0)
  have Y0 := (Below.refl w.heap.size w).alloc (Nat.le_refl _) (.cells #[.int .i64 0, .int .i64 0] 25)
  have R0 := h.alloc (.cells #[.int .i64 0, .int .i64 0] 25)
  have D0 := hd.alloc (.cells #[.int .i64 0, .int .i64 0] 25)
  have kl : decide ((512 : Int) < (m : Int)) = false := by simp; omega
  go_enter Try.func16, Try.ntmps16
  go_wp2_with fail
  refine (dicheck_any R0 (-2) _ _ hF).mono ?_
  rintro e w1 ⟨rfl, y1⟩
  have M1 := (M0.on y1).alloc (.cells #[.int .i64 0, .int .i64 0] 25)
  have F1 := Two.new w1 25 (.int .i64 0) (.int .i64 0)
  have Y1 := (Y0.trans (y1.mono Y0.size)).alloc (Y0.trans (y1.mono Y0.size)).size (.cells #[.int .i64 0, .int .i64 0] 25)
  have R1 := (R0.on y1).alloc (.cells #[.int .i64 0, .int .i64 0] 25)
  have D1 := (D0.on y1).alloc (.cells #[.int .i64 0, .int .i64 0] 25)
  have m0 := M1.c0
  have m1 := M1.c1
  have m2 := M1.f0
  have m3 := M1.f1
  have f0 := F1.c0
  have f1 := F1.c1
  have hsz := (Y0.trans (y1.mono Y0.size)).size
  have hszm := (M0.on y1).lt
  clear M0 Y0 R0 y1
  obtain ⟨W, hW⟩ : ∃ W, W = w1.alloc (.cells #[.int .i64 0, .int .i64 0] 25) := ⟨_, rfl⟩
  rw [← hW] at M1 F1 Y1 R1 D1 m0 m1 m2 m3 f0 f1
  clear hF
  rcases hcs with hs | ⟨hs, hs2⟩
  all_goals
    go_upto_region 6 with (fail)
    rw [← hW]
    clear hW
    go_wp2_with fail
    refine (difault_any _ _ _).mono ?_
    rintro e w3 ⟨rfl, y3⟩
    have M3 := M1.on y3
    have Y3 := Y1.trans (y3.mono Y1.size)
    have p0 := M3.c0
    have p1 := M3.c1
    have p2 := M3.f0
    have p3 := M3.f1
    clear M1 Y1 m0 m1 m2 m3 f0 f1 F1 R1 y3 D0 D1
    
    go_wp2
    have rr := ((M3.set0 (.int .i64 4)).set1 (.int .i64 (-3)))
    have r0 := rr.c0
    have r1 := rr.c1
    refine bodyPost_ret (v := .tuple #[.slice none 0 0, .agg #[.int .i64 4, .int .i64 (-3)]]) (by simp [results, Try.results16, go_sem, r0, r1]) rfl ⟨rfl, ?_⟩
    exact ((Y3.setCell (p := ⟨w.heap.size, 0, none⟩) (by simp) _).setCell (p := ⟨w.heap.size, 1, none⟩) (by simp) _)
set_option maxRecDepth 100000 in
set_option maxHeartbeats 1600000 in
theorem dnext_ok {A : Option Addr} {n c : Nat} {xs : List SItem} {B : Option Addr} {m k : Nat} {dd : List Nat} {w : World} (h : RdSS w A n c xs) (hd : Rd w B m k (bcells dd)) {mx : Int} (h0 : w.cell? ⟨0, 0, none⟩ = some (.int .i64 mx)) (hw0 : 0 < w.heap.size) (hl : m ≤ 512) (hok : SamOk xs) (size : Nat) (hs : size ≤ 512) (si : Int) (hsi : si = (size : Nat)) :
    Calls Try.prog 16 #[.slice B m k, .slice A n c, .int .i64 si] w fun e w' => ∃ A' n' c' l, Segs (samd xs) l ∧ e = .returned (.tuple #[.slice A' n' c', .agg #[.int .i64 0, .int .i64 0]]) ∧ Rd w' A' n' c' (bcells ((dd ++ traind size l).drop ((dd ++ traind size l).length - size))) ∧ Below w.heap.size w w' := by
  subst hsi
  obtain ⟨j0, bi, bz0, bz1, bz2⟩ := info_parts byte_info
  have BZ := Lib.hid bz1
  have hF : SFault xs (-2) 0 0 := .inr (.inr ⟨hok, rfl, rfl⟩)
  have hdn := hd.len
  rw [bcells_length] at hdn
  have hdc := Reads.cap hd
  have hdm := Reads.capMax hd
  unfold maxLen at hdm
  have M0 := Two.new w 25 (.int .i64 0) (.int .i64 0)
  have Y0 := (Below.refl w.heap.size w).alloc (Nat.le_refl _) (.cells #[.int .i64 0, .int .i64 0] 25)
  have R0 := h.alloc (.cells #[.int .i64 0, .int .i64 0] 25)
  have D0 := hd.alloc (.cells #[.int .i64 0, .int .i64 0] 25)
  have kl : decide ((512 : Int) < (m : Int)) = false := by simp; omega
  go_enter Try.func16, Try.ntmps16
  go_wp2_with fail
  refine (dicheck_any R0 (-2) _ _ hF).mono ?_
  rintro e w1 ⟨rfl, y1⟩
  have M1 := (M0.on y1).alloc (.cells #[.int .i64 0, .int .i64 0] 25)
  have F1 := Two.new w1 25 (.int .i64 0) (.int .i64 0)
  have Y1 := (Y0.trans (y1.mono Y0.size)).alloc (Y0.trans (y1.mono Y0.size)).size (.cells #[.int .i64 0, .int .i64 0] 25)
  have R1 := (R0.on y1).alloc (.cells #[.int .i64 0, .int .i64 0] 25)
  have D1 := (D0.on y1).alloc (.cells #[.int .i64 0, .int .i64 0] 25)
  have m0 := M1.c0
  have m1 := M1.c1
  have m2 := M1.f0
  have m3 := M1.f1
  have f0 := F1.c0
  have f1 := F1.c1
  have hsz := (Y0.trans (y1.mono Y0.size)).size
  have hszm := (M0.on y1).lt
  clear M0 Y0 R0 y1
  obtain ⟨W, hW⟩ : ∃ W, W = w1.alloc (.cells #[.int .i64 0, .int .i64 0] 25) := ⟨_, rfl⟩
  rw [← hW] at M1 F1 Y1 R1 D1 m0 m1 m2 m3 f0 f1
  clear hF
  have h0W : W.cell? ⟨0, 0, none⟩ = some (.int .i64 mx) := (Y1.cell (p := ⟨0, 0, none⟩) hw0).trans h0
  have hWl : w.heap.size < W.heap.size := M1.lt
  have HT := Lib.hid (train_any R1 hok h0W (by have := Y1.size; omega) size hs (size : Nat) rfl)
  clear h0 h0W hok
  go_upto_region 6 with (fail)
  rw [← hW]
  clear hW
  go_wp2_with fail
  refine HT.out.mono ?_
  rintro e w3 ⟨A3, n3, c3, l, hseg, rfl, hd3, y3⟩
  have hn3 := hd3.len
  have hts := traind_size size l
  have HS3 := Lib.hid hseg
  have HC := Lib.hid (concat_two 23 (D1.on y3) hd3.rd (by omega) w3.heap.size rfl)
  have M3 := Lib.hid (M1.on y3)
  have Y3 := Lib.hid (Y1.trans (y3.mono Y1.size))
  have hW3 := y3.size
  obtain ⟨L, hL⟩ : ∃ L, L = dd ++ traind size l := ⟨_, rfl⟩
  have hLl : m + n3 = L.length := by rw [hL, List.length_append, hdn, hn3]
  have hLb : L.length ≤ 1024 := by omega
  rw [← hL, hLl] at HC
  have HL := Lib.hid hL
  clear hseg hd3 y3 HT M1 Y1 m0 m1 m2 m3 f0 f1 F1 R1 D0 D1 hL hLl hn3
  go_wp2_with fail
  refine HC.out.mono ?_
  rintro e w4 ⟨A4, c4, rfl, o4, y4⟩
  have R4 := Rd.own o4
  have hc4 := Reads.cap R4
  have hm4 := Reads.capMax R4
  unfold maxLen at hm4
  obtain ⟨F, hF⟩ : ∃ F, F = L.length - size := ⟨_, rfl⟩
  have hmax : max ((L.length : Int) - (size : Int)) 0 = (F : Int) := by omega
  have hF0 : F ≤ L.length := by omega
  obtain ⟨A5, hrun5, hr5⟩ := Rd.tail (P := Try.prog) (A := A4) (c := c4) 23 5 j0 Try.underlying23 bi BZ.out hc4 F hF0
  have hr6 := hr5 w4 _ R4
  rw [bcells_drop] at hr6
  have HCL := Lib.hid (bclone_any hr6 (by omega))
  have HFF := Lib.hid hF
  have M4 := Lib.hid (M3.out.on y4)
  have Y4 := Lib.hid (Y3.out.trans (y4.mono Y3.out.size))
  have hW4 := y4.size
  clear hr5 hr6 R4 o4 y4 hF HC
  go_wp2_with fail
  refine HCL.out.mono ?_
  rintro e w5 ⟨A6, c6, rfl, o6, y6⟩
  have M5 := M4.out.on y6
  have HO6 := Lib.hid o6
  have HY6 := Lib.hid (Y4.out.trans (y6.mono Y4.out.size))
  have p0 := M5.c0
  have p1 := M5.c1
  have p2 := M5.f0
  have p3 := M5.f1
  have hWW : w.heap.size < w4.heap.size := by omega
  clear o6 y6 HCL hmax
  go_wp2
  have rr := ((M5.set0 (.int .i64 0)).set1 (.int .i64 0))
  have r0 := rr.c0
  have r1 := rr.c1
  have oo := own_lowp (own_lowp HO6.out (p := ⟨w.heap.size, 0, none⟩) hWW (.int .i64 0)) (p := ⟨w.heap.size, 1, none⟩) hWW (.int .i64 0)
  refine bodyPost_ret (v := .tuple #[.slice A6 (L.length - F) c6, .agg #[.int .i64 0, .int .i64 0]]) (by simp [results, Try.results16, go_sem, r0, r1]) rfl ⟨A6, L.length - F, c6, l, HS3.out, rfl, ?_, ?_⟩
  · rw [← HL.out, ← HFF.out]; exact Rd.own oo
  · exact (HY6.out.setCell (p := ⟨w.heap.size, 0, none⟩) (by simp) _).setCell (p := ⟨w.heap.size, 1, none⟩) (by simp) _
end PB
end Go.Proofs.Ytnahmiglogddaaa
namespace Go.Proofs.Ytnahmiglogddaaa
open Go.RowKit
attribute [local go_sem ↓] Go.wp_at_zero Go.wp_at_succ
set_option linter.unusedVariables false
set_option linter.unusedSimpArgs false
namespace PB
set_option maxHeartbeats 800000 in
theorem samfault_many {A : Option Addr} {n c : Nat} {xs : List SItem} {w : World} (h : RdSS w A n c xs) (index : Int) (hl : 64 < xs.length) :
    Calls Try.prog 9 #[.slice A n c, .int .i64 index] w fun e w' => e = .returned (.agg #[.int .i64 2, .int .i64 index]) ∧ Below w.heap.size w w' := by
  have hn := h.1
  have hcap := h.2.1
  have hcm := h.2.2.1
  unfold maxLen at hcm
  obtain rfl := hn
  have M0 := Two.new w 25 (.int .i64 0) (.int .i64 0)
  have Y0 := (Below.refl w.heap.size w).alloc (Nat.le_refl _) (.cells #[.int .i64 0, .int .i64 0] 25)
  have kl : decide ((64 : Int) < (xs.length : Int)) = true := by simp; omega
  have HM := Lib.hid M0
  have HY := Lib.hid Y0
  clear M0 Y0
  go_enter Try.func9, Try.ntmps9
  go_wp2_with fail
  refine (refat_any _ _ _).mono ?_
  rintro e w1 ⟨rfl, y1⟩
  have M1 := HM.out.on y1
  have Y1 := HY.out.trans (y1.mono HY.out.size)
  have m0 := M1.c0
  have m1 := M1.c1
  have m2 := M1.f0
  have m3 := M1.f1
  go_wp2
  have rr := (M1.set0 (.int .i64 2)).set1 (.int .i64 index)
  have r0 := rr.c0
  have r1 := rr.c1
  refine bodyPost_ret (v := .agg #[.int .i64 2, .int .i64 index]) (by simp [results, Try.results9, go_sem, r0, r1]) rfl ⟨rfl, ?_⟩
  exact (Y1.setCell (p := ⟨w.heap.size, 0, none⟩) (by simp) _).setCell (p := ⟨w.heap.size, 1, none⟩) (by simp) _
set_option maxHeartbeats 800000 in
theorem samfault_long {A : Option Addr} {n c : Nat} {xs : List SItem} {w : World} (h : RdSS w A n c xs) (index : Int) (hl : xs.length ≤ 64) (q : Nat) (hq : q < xs.length) (hall : ∀ j (hj : j < xs.length), j < q → xs[j].d.length ≤ 1024) (hbad : 1024 < xs[q].d.length) :
    Calls Try.prog 9 #[.slice A n c, .int .i64 index] w fun e w' => e = .returned (.agg #[.int .i64 3, .int .i64 (q : Nat)]) ∧ Below w.heap.size w w' := by
  have hn := h.1
  have hcap := h.2.1
  have hcm := h.2.2.1
  unfold maxLen at hcm
  obtain rfl := hn
  have M0 := Two.new w 25 (.int .i64 0) (.int .i64 0)
  have Y0 := (Below.refl w.heap.size w).alloc (Nat.le_refl _) (.cells #[.int .i64 0, .int .i64 0] 25)
  have HA := Lib.hid hall
  have HB := Lib.hid hbad
  clear hall hbad
  have HM := Lib.hid M0
  have HY := Lib.hid Y0
  clear M0 Y0
  go_enter Try.func9, Try.ntmps9
  go_wp2_with fail
  go_loop [5] (fun i => ∃ k : Nat, k ≤ q ∧ i = .int .i64 (k : Nat)) (fun i => q - (intOf i).toNat)
  case atStart => exact ⟨0, Nat.zero_le _, rfl⟩
  case round =>
    obtain ⟨k, hk, rfl⟩ := hrel
    by_cases hlt : k < q
    · obtain ⟨b, off, rfl, hb, q1, R⟩ := (h.alloc (.cells #[.int .i64 0, .int .i64 0] 25)).at k (by omega)
      obtain ⟨x, hx⟩ : ∃ x, x = xs[k] := ⟨_, rfl⟩
      rw [← hx] at q1 R
      have hxl : x.d.length = x.n := by have := R.len; rwa [bcells_length] at this
      have hxs : x.n ≤ 1024 := by rw [← hxl, hx]; exact HA.out k (by omega) hlt
      obtain ⟨xA, xn, xc, xd⟩ := x
      dsimp only at q1 hxs
      clear hx hxl R
      go_wp2_with fail
      go_round
      case rel => exact ⟨k + 1, by omega, by go_num⟩
      case measure => simp [intOf] <;> omega
    · obtain rfl : k = q := by omega
      obtain ⟨b, off, rfl, hb, q1, R⟩ := (h.alloc (.cells #[.int .i64 0, .int .i64 0] 25)).at k hq
      obtain ⟨x, hx⟩ : ∃ x, x = xs[k] := ⟨_, rfl⟩
      rw [← hx] at q1 R
      have hxl : x.d.length = x.n := by have := R.len; rwa [bcells_length] at this
      have hxs : 1024 < x.n := by rw [← hxl, hx]; exact HB.out
      obtain ⟨xA, xn, xc, xd⟩ := x
      dsimp only at q1 hxs
      clear hx hxl R
      go_wp2_with fail
      refine (refat_any _ _ _).mono ?_
      rintro e w1 ⟨rfl, y1⟩
      have M1 := HM.out.on y1
      have Y1 := HY.out.trans (y1.mono HY.out.size)
      have m0 := M1.c0
      have m1 := M1.c1
      have m2 := M1.f0
      have m3 := M1.f1
      go_wp2
      have rr := (M1.set0 (.int .i64 3)).set1 (.int .i64 (k : Nat))
      have r0 := rr.c0
      have r1 := rr.c1
      refine bodyPost_ret (v := .agg #[.int .i64 3, .int .i64 (k : Nat)]) (by simp [results, Try.results9, go_sem, r0, r1]) rfl ⟨rfl, ?_⟩
      exact (Y1.setCell (p := ⟨w.heap.size, 0, none⟩) (by simp) _).setCell (p := ⟨w.heap.size, 1, none⟩) (by simp) _
set_option maxHeartbeats 800000 in
theorem samfault_ok {A : Option Addr} {n c : Nat} {xs : List SItem} {w : World} (h : RdSS w A n c xs) (index : Int) (hok : SamOk xs) :
    Calls Try.prog 9 #[.slice A n c, .int .i64 index] w fun e w' => e = .returned (.agg #[.int .i64 0, .int .i64 0]) ∧ Below w.heap.size w w' := by
  have hn := h.1
  have hcap := h.2.1
  have hcm := h.2.2.1
  unfold maxLen at hcm
  obtain rfl := hn
  have M0 := Two.new w 25 (.int .i64 0) (.int .i64 0)
  have Y0 := (Below.refl w.heap.size w).alloc (Nat.le_refl _) (.cells #[.int .i64 0, .int .i64 0] 25)
  have hl := hok.few
  have HA := Lib.hid hok
  clear hok
  have HM := Lib.hid M0
  have HY := Lib.hid Y0
  clear M0 Y0
  go_enter Try.func9, Try.ntmps9
  go_wp2_with fail
  go_loop [5] (fun i => ∃ k : Nat, k ≤ xs.length ∧ i = .int .i64 (k : Nat)) (fun i => xs.length - (intOf i).toNat)
  case atStart => exact ⟨0, Nat.zero_le _, rfl⟩
  case round =>
    obtain ⟨k, hk, rfl⟩ := hrel
    by_cases hlt : k < xs.length
    · obtain ⟨b, off, rfl, hb, q1, R⟩ := (h.alloc (.cells #[.int .i64 0, .int .i64 0] 25)).at k hlt
      obtain ⟨x, hx⟩ : ∃ x, x = xs[k] := ⟨_, rfl⟩
      rw [← hx] at q1 R
      have hxl : x.d.length = x.n := by have := R.len; rwa [bcells_length] at this
      have hxs : x.n ≤ 1024 := by rw [← hxl, hx]; exact HA.out.short _ (List.getElem_mem hlt)
      obtain ⟨xA, xn, xc, xd⟩ := x
      dsimp only at q1 hxs
      clear hx hxl R
      go_wp2_with fail
      go_round
      case rel => exact ⟨k + 1, by omega, by go_num⟩
      case measure => simp [intOf] <;> omega
    · obtain rfl : k = xs.length := by omega
      have m0 := HM.out.c0
      have m1 := HM.out.c1
      have m2 := HM.out.f0
      have m3 := HM.out.f1
      go_wp2
      refine bodyPost_ret (v := .agg #[.int .i64 0, .int .i64 0]) (by simp [results, Try.results9, go_sem, m0, m1]) rfl ⟨rfl, ?_⟩
      exact HY.out
theorem samfault_any {A : Option Addr} {n c : Nat} {xs : List SItem} {w : World} (h : RdSS w A n c xs) (index code idx : Int) (hF : SFault xs index code idx) :
    Calls Try.prog 9 #[.slice A n c, .int .i64 index] w fun e w' => e = .returned (.agg #[.int .i64 code, .int .i64 idx]) ∧ Below w.heap.size w w' := by
  rcases hF with ⟨h1, rfl, rfl⟩ | ⟨h1, ⟨q, h2, h3, h4, rfl⟩, rfl⟩ | ⟨h1, rfl, rfl⟩
  · exact samfault_many h _ h1
  · exact samfault_long h _ h1 q h2 h3 h4
  · exact samfault_ok h _ h1
/-! Total. -/
def tsum (xs : List SItem) : Nat := (xs.map fun x => x.d.length).sum
theorem tsum_take_succ (xs : List SItem) (k : Nat) (h : k < xs.length) : tsum (xs.take (k + 1)) = tsum (xs.take k) + xs[k].d.length := by
  unfold tsum
  rw [List.take_succ_eq_append_getElem h, List.map_append, List.sum_append]
  simp
theorem tsum_take_le (xs : List SItem) (k : Nat) : tsum (xs.take k) ≤ tsum xs := by
  have : tsum xs = tsum (xs.take k) + tsum (xs.drop k) := by
    unfold tsum
    rw [← List.sum_append, ← List.map_append, List.take_append_drop]
  omega
set_option maxHeartbeats 800000 in
theorem total_any {A : Option Addr} {n c : Nat} {xs : List SItem} {w : World} (h : RdSS w A n c xs) (most : Nat) (hm : most ≤ 100000) (mi : Int) (hmi : mi = (most : Nat)) (r : Nat) (hr : r = if tsum xs ≤ most then tsum xs else most + 1) :
    Calls Try.prog 13 #[.slice A n c, .int .i64 mi] w fun e w' => e = .returned (.int .i64 (r : Nat)) ∧ w' = w := by
  subst hmi
  have hn := h.1
  have hcap := h.2.1
  have hcm := h.2.2.1
  unfold maxLen at hcm
  obtain rfl := hn
  have HR := Lib.hid hr
  clear hr
  go_enter Try.func13, Try.ntmps13
  go_wp2_with fail
  go_loop [5, 6] (fun s i => ∃ k T : Nat, k ≤ xs.length ∧ i = .int .i64 (k : Nat) ∧ s = .int .i64 (T : Nat) ∧ T = tsum (xs.take k) ∧ T ≤ 2 * most) (fun _ i => xs.length + 1 - (intOf i).toNat)
  case atStart => exact ⟨0, 0, Nat.zero_le _, rfl, rfl, rfl, Nat.zero_le _⟩
  case round =>
    obtain ⟨k, T, hk, rfl, rfl, hT, hTm⟩ := hrel
    have HT := Lib.hid hT
    clear hT
    by_cases hTs : T ≤ most
    · by_cases hlt : k < xs.length
      · obtain ⟨b, off, rfl, hb, q1, R⟩ := h.at k hlt
        obtain ⟨x, hx⟩ : ∃ x, x = xs[k] := ⟨_, rfl⟩
        have HX := Lib.hid (tsum_take_succ xs k hlt)
        rw [← hx] at q1 R HX
        have hxl : x.d.length = x.n := by have := R.len; rwa [bcells_length] at this
        obtain ⟨xA, xn, xc, xd⟩ := x
        dsimp only at q1 hxl HX
        rw [hxl] at HX
        have HLE := Lib.hid (tsum_take_le xs (k + 1))
        clear hx R hxl
        by_cases hbig : most < xn
        · go_wp2
          go_ret
          exact ⟨by rw [HR.out, if_neg (by have := HX.out; have := HLE.out; omega)]; first | rfl | simp, rfl⟩
        · go_wp2_with fail
          go_round
          case rel => exact ⟨k + 1, T + xn, by omega, by go_num, by go_num, by rw [HX.out, ← HT.out], by omega⟩
          case measure => simp [intOf] <;> omega
      · obtain rfl : k = xs.length := by omega
        have HT2 := Lib.hid (show T = tsum xs by rw [HT.out, List.take_of_length_le (Nat.le_refl _)])
        go_wp2
        go_ret
        exact ⟨by rw [HR.out, if_pos (by rw [← HT2.out]; exact hTs), ← HT2.out]; rfl, rfl⟩
    · have HLE := Lib.hid (tsum_take_le xs k)
      by_cases hlt : k < xs.length
      all_goals
        go_wp2
        go_ret
        exact ⟨by rw [HR.out, if_neg (by rw [← HT.out] at HLE; have := HLE.out; omega)]; first | rfl | simp, rfl⟩
/-! Occurs. -/
theorem infix_at {s t : List Nat} (i : Nat) (h : (t.drop i).take s.length = s) : s <:+: t := ⟨t.take i, (t.drop i).drop s.length, by
  calc t.take i ++ s ++ (t.drop i).drop s.length = t.take i ++ (t.drop i).take s.length ++ (t.drop i).drop s.length := by rw [h]
    _ = t := by rw [List.append_assoc, List.take_append_drop, List.take_append_drop]⟩
theorem infix_of {s t : List Nat} (h : s <:+: t) : ∃ i, i + s.length ≤ t.length ∧ (t.drop i).take s.length = s := by
  obtain ⟨a, b, rfl⟩ := h
  exact ⟨a.length, by simp, by rw [List.append_assoc, List.drop_left, List.take_left]⟩
set_option maxHeartbeats 800000 in
theorem occurs_any {A B : Option Addr} {n c m d : Nat} {t s : List Nat} {w : World} (h : Rd w A n c (bcells t)) (h2 : Rd w B m d (bcells s)) (ht : ByteL t) (hs : ByteL s) (hm : m ≤ 100000) (hn : n ≤ 100000) (r : Bool) (hr : r = decide (s <:+: t)) :
    Calls Try.prog 18 #[.slice A n c, .slice B m d] w fun e w' => e = .returned (.bool r) ∧ w' = w := by
  obtain ⟨j0, bi, bz0, bz1, bz2⟩ := info_parts byte_info
  have BZ := Lib.hid bz1
  have hl := h.len
  have hl2 := h2.len
  rw [bcells_length] at hl hl2
  subst hl hl2
  have hc := Reads.cap h
  have hcm := Reads.capMax h
  unfold maxLen at hcm
  have HT := Lib.hid ht
  have HS := Lib.hid hs
  have HR := Lib.hid hr
  clear ht hs hr
  go_enter Try.func18, Try.ntmps18
  go_wp2_with fail
  go_loop [5] (fun i => ∃ k : Nat, i = .int .i64 (k : Nat) ∧ k ≤ t.length + 1 ∧ ∀ j, j < k → ¬ (t.drop j).take s.length = s) (fun i => t.length + 2 - (intOf i).toNat)
  case atStart => exact ⟨0, rfl, Nat.zero_le _, fun j hj => absurd hj (Nat.not_lt_zero _)⟩
  case round =>
    obtain ⟨k, rfl, hk, hno⟩ := hrel
    have HNO := Lib.hid hno
    clear hno
    by_cases hlt : k + s.length ≤ t.length
    · obtain ⟨A1, hrun, hrd⟩ := Rd.mid (P := Try.prog) 23 5 j0 Try.underlying23 bi BZ.out h k (k + s.length) (by omega) hlt
      rw [show k + s.length - k = s.length by omega] at hrun hrd
      rw [bcells_drop, bcells_take] at hrd
      have hrun2 : ∀ W, (Instr.slice 23 (.slice A t.length c) (some (.int .i64 (k : Nat))) (some (.int .i64 ((k : Int) + (s.length : Int)))) none).run Try.prog W = .ok (.slice A1 s.length (c - k)) W := hrun
      have HSB := Lib.hid (samebytes_any A1 s.length (c - k) ((t.drop k).take s.length) B s.length d s w hrd h2 (fun j => ((HT.out.drop k).take _).getD j) (fun j => HS.out.getD j))
      clear hrun hrd
      by_cases he : (t.drop k).take s.length = s
      · rw [decide_eq_true he] at HSB
        have HE := Lib.hid he
        clear he
        go_wp2_with fail
        refine HSB.out.mono ?_
        rintro e w9 ⟨rfl, rfl⟩
        go_wp2
        go_ret
        exact ⟨by rw [HR.out, decide_eq_true (infix_at k HE.out)]; rfl, rfl⟩
      · rw [decide_eq_false he] at HSB
        have HE := Lib.hid he
        clear he
        go_wp2_with fail
        refine HSB.out.mono ?_
        rintro e w9 ⟨rfl, rfl⟩
        go_wp2_with fail
        go_round
        case rel => exact ⟨k + 1, by go_num, by omega, fun j hj => by
          rcases (by omega : j < k ∨ j = k) with h1 | rfl
          · exact HNO.out j h1
          · exact HE.out⟩
        case measure => simp [intOf] <;> omega
    · have HN := Lib.hid (show ¬ s <:+: t by
        intro hin
        obtain ⟨i, h1, h2⟩ := infix_of hin
        exact HNO.out i (by omega) h2)
      go_wp2
      go_ret
      exact ⟨by rw [HR.out, decide_eq_false HN.out]; rfl, rfl⟩
/-! Frequency. -/
structure SamB (xs : List SItem) : Prop where
  ok : SamOk xs
  byte : ∀ x ∈ xs, ByteL x.d
theorem win_infix {s : List Nat} (hs : ByteL s) {x : Txt} (hx : x.length = 8) : x ∈ wins s ↔ byt x <:+: s := by
  rw [mem_wins]
  constructor
  · rintro ⟨i, hi, rfl⟩
    refine infix_at i ?_
    unfold seg
    rw [byt_length, utx_length, byt_utx ((hs.drop i).take 8), List.length_take, List.length_drop]
    rw [show min 8 (s.length - i) = 8 by omega]
  · intro h
    obtain ⟨i, h1, h2⟩ := infix_of h
    rw [byt_length, hx] at h1 h2
    refine ⟨i, h1, ?_⟩
    unfold seg
    rw [h2, utx_byt]
theorem fr_take_succ (xs : List SItem) (k : Nat) (h : k < xs.length) (x : Txt) : fr (samd (xs.take (k + 1))) x = fr (samd (xs.take k)) x + if x ∈ wins xs[k].d then 1 else 0 := by
  rw [samd_take_succ xs k h, fr_snoc]
set_option maxHeartbeats 800000 in
theorem freq_any {A B : Option Addr} {n c d : Nat} {xs : List SItem} {x : Txt} {w : World} (h : RdSS w A n c xs) (hok : SamB xs) (h2 : Rd w B 8 d (bcells (byt x))) (hx : x.length = 8) :
    Calls Try.prog 17 #[.slice A n c, .slice B 8 d] w fun e w' => e = .returned (.int .i64 (fr (samd xs) x : Nat)) ∧ w' = w := by
  have hn := h.1
  have hcap := h.2.1
  have hcm := h.2.2.1
  unfold maxLen at hcm
  obtain rfl := hn
  have HOK := Lib.hid hok
  have hfew := hok.ok.few
  clear hok
  go_enter Try.func17, Try.ntmps17
  go_wp2_with fail
  go_loop [5, 6] (fun s i => ∃ k T : Nat, k ≤ xs.length ∧ i = .int .i64 (k : Nat) ∧ s = .int .i64 (T : Nat) ∧ T = fr (samd (xs.take k)) x ∧ T ≤ k) (fun _ i => xs.length - (intOf i).toNat)
  case atStart => exact ⟨0, 0, Nat.zero_le _, rfl, rfl, rfl, Nat.zero_le _⟩
  case round =>
    obtain ⟨k, T, hk, rfl, rfl, hT, hTk⟩ := hrel
    have HT := Lib.hid hT
    clear hT
    by_cases hlt : k < xs.length
    · obtain ⟨b, off, rfl, hb, q1, R⟩ := h.at k hlt
      obtain ⟨y, hy⟩ : ∃ y, y = xs[k] := ⟨_, rfl⟩
      have HX := Lib.hid (fr_take_succ xs k hlt x)
      have hyb : ByteL y.d := by rw [hy]; exact HOK.out.byte _ (List.getElem_mem hlt)
      have hys : y.d.length ≤ 1024 := by rw [hy]; exact HOK.out.ok.short _ (List.getElem_mem hlt)
      rw [← hy] at q1 R HX
      have hyl : y.d.length = y.n := by have := R.len; rwa [bcells_length] at this
      obtain ⟨yA, yn, yc, yd⟩ := y
      dsimp only at q1 hyl HX R hyb hys
      by_cases hin : x ∈ wins yd
      · rw [if_pos hin] at HX
        have HO := Lib.hid (occurs_any R h2 hyb (byt_lt x) (by decide) (by omega) true (decide_eq_true ((win_infix hyb hx).1 hin)).symm)
        clear hy R hyl hin hyb hys
        go_wp2_with fail
        refine HO.out.mono ?_
        rintro e w9 ⟨rfl, rfl⟩
        go_wp2_with fail
        go_round
        case rel => exact ⟨k + 1, T + 1, by omega, by go_num, by go_num, by rw [HX.out, ← HT.out], by omega⟩
        case measure => simp [intOf] <;> omega
      · rw [if_neg hin] at HX
        have HO := Lib.hid (occurs_any R h2 hyb (byt_lt x) (by decide) (by omega) false (decide_eq_false (fun k => hin ((win_infix hyb hx).2 k))).symm)
        clear hy R hyl hin hyb hys
        go_wp2_with fail
        refine HO.out.mono ?_
        rintro e w9 ⟨rfl, rfl⟩
        go_wp2_with fail
        go_round
        case rel => exact ⟨k + 1, T, by omega, by go_num, rfl, by rw [HX.out, ← HT.out]; rfl, by omega⟩
        case measure => simp [intOf] <;> omega
    · obtain rfl : k = xs.length := by omega
      have HT2 := Lib.hid (show T = fr (samd xs) x by rw [HT.out, List.take_of_length_le (Nat.le_refl _)])
      go_wp2
      go_ret
      exact ⟨by rw [← HT2.out]; rfl, rfl⟩
/-! after. -/
/-- Comes behind: rarer, or as often and greater. -/
def aft (n : Nat) (t : Txt) (m : Nat) (last : Txt) : Prop := n < m ∨ (n = m ∧ last < t)
instance (n : Nat) (t : Txt) (m : Nat) (last : Txt) : Decidable (aft n t m last) := by unfold aft; infer_instance
theorem after_any (n m : Nat) (t last : Txt) (w : World) (r : Bool) (hr : r = decide (aft n t m last)) :
    Calls Try.prog 36 #[.int .i64 (n : Nat), encStr t, .int .i64 (m : Nat), encStr last] w fun e w' => e = .returned (.bool r) ∧ w' = w := by
  have hcs : (decide (n < m) = true ∧ r = true) ∨ (decide (n < m) = false ∧ ((n : Int) == (m : Int)) = false ∧ r = false) ∨ (decide (n < m) = false ∧ ((n : Int) == (m : Int)) = true ∧ (!(Op.bytesLess t last || t == last)) = r) := by
    by_cases h1 : n < m
    · left; exact ⟨decide_eq_true h1, by rw [hr]; exact decide_eq_true (.inl h1)⟩
    · by_cases h2 : n = m
      · right; right
        refine ⟨decide_eq_false h1, by simp [h2], ?_⟩
        rw [hr, less_iff, Bool.eq_iff_iff]
        simp only [Bool.not_eq_true', Bool.or_eq_false_iff, decide_eq_false_iff_not, beq_eq_false_iff_ne, decide_eq_true_eq]
        constructor
        · rintro ⟨k1, k2⟩
          refine .inr ⟨h2, ?_⟩
          rcases utx_tri last t with k | k | k
          · exact k
          · exact absurd k.symm k2
          · exact absurd k k1
        · rintro (k | ⟨_, k⟩)
          · exact absurd k h1
          · exact ⟨fun k2 => utx_irrefl t (utx_trans k2 k), by rintro rfl; exact utx_irrefl _ k⟩
      · right; left
        exact ⟨decide_eq_false h1, by rw [beq_eq_false_iff_ne]; omega, by rw [hr]; exact decide_eq_false (by rintro (k | ⟨k, _⟩) <;> omega)⟩
  clear hr
  unfold encStr
  rcases hcs with ⟨h1, rfl⟩ | ⟨h1, h2, rfl⟩ | ⟨h1, h2, h3⟩
  · have h1' : decide ((n : Int) < (m : Int)) = true := by simpa using h1
    go_enter Try.func36, Try.ntmps36
    go_wp2
    go_ret
    exact ⟨rfl, rfl⟩
  · have h1' : decide ((n : Int) < (m : Int)) = false := by simpa using h1
    go_enter Try.func36, Try.ntmps36
    go_wp2
    go_ret
    exact ⟨rfl, rfl⟩
  · have h1' : decide ((n : Int) < (m : Int)) = false := by simpa using h1
    have H3 := Lib.hid h3
    clear h3
    go_enter Try.func36, Try.ntmps36
    go_wp2
    go_ret
    exact ⟨by rw [← H3.out]; simp, rfl⟩
/-! ends. -/
theorem same_q {A B : Option Addr} {n c m d : Nat} {a b : List Nat} {w : World} (h : Rd w A n c (bcells a)) (h2 : Rd w B m d (bcells b)) (ha : ByteL a) (hb : ByteL b) (r : Bool) (hr : r = decide (a = b)) :
    Calls Try.prog 14 #[.slice A n c, .slice B m d] w fun e w' => e = .returned (.bool r) ∧ w' = w := by
  subst hr
  exact (samebytes_any A n c a B m d b w h h2 (fun j => ha.getD j) (fun j => hb.getD j)).mono fun _ _ h => ⟨h.1, h.2.symm⟩
set_option maxRecDepth 100000 in
set_option maxHeartbeats 1600000 in
theorem ends_any {A B : Option Addr} {n c m d : Nat} {a b : List Nat} {w : World} (h : Rd w A n c (bcells a)) (h2 : Rd w B m d (bcells b)) (ha : ByteL a) (hb : ByteL b) (hn : n ≤ 100000) (hm : m ≤ 100000) :
    Calls Try.prog 26 #[.slice A n c, .slice B m d] w fun e w' => e = .returned (.int .i64 (ovl a b : Nat)) ∧ ∃ q, w' = w.drewN q := by
  obtain ⟨j0, bi, bz0, bz1, bz2⟩ := info_parts byte_info
  have hla := h.len
  have hlb := h2.len
  rw [bcells_length] at hla hlb
  subst hla hlb
  have hc := Reads.cap h
  have hc2 := Reads.cap h2
  have hcm := Reads.capMax h
  have hcm2 := Reads.capMax h2
  unfold maxLen at hcm hcm2
  have HA := Lib.hid ha
  have HB := Lib.hid hb
  have BZ := Lib.hid bz1
  obtain ⟨M, hM⟩ : ∃ M, M = min a.length b.length := ⟨_, rfl⟩
  have hMa : M ≤ a.length := by omega
  have hMb : M ≤ b.length := by omega
  have HMM := Lib.hid hM
  have HV := Lib.hid (show ovl a b = ovf a b M by rw [hM]; rfl)
  clear ha hb hM
  go_enter Try.func26, Try.ntmps26
  go_wp2_with fail
  go_loopw [5, 6] (fun mv nv wr => ∃ k q : Nat, k ≤ M ∧ nv = .int .i64 (((k + 1 : Nat)) : Int) ∧ mv = .int .i64 (ovf a b k : Nat) ∧ wr = w.drewN q) (fun _ nv _ => M + 2 - (intOf nv).toNat)
  case atStart => exact ⟨0, 0, Nat.zero_le _, rfl, rfl, rfl⟩
  case round =>
    obtain ⟨k, q, hk, rfl, rfl, rfl⟩ := hrel
    have hov := ovf_le a b k
    obtain ⟨V, hV⟩ : ∃ V, V = ovf a b k := ⟨_, rfl⟩
    rw [← hV] at hov ⊢
    have HVV := Lib.hid hV
    obtain ⟨W, hW⟩ : ∃ W, W = w.drewN q := ⟨_, rfl⟩
    rw [← hW]
    have HW := Lib.hid hW
    obtain ⟨K, hK⟩ : ∃ K, K = k + 1 := ⟨_, rfl⟩
    rw [← hK]
    have hK1 : 1 ≤ K := by omega
    have HK := Lib.hid hK
    have hKk : k < K := by omega
    by_cases hlt : K ≤ M
    · have hKa : K ≤ a.length := by omega
      have hKb : K ≤ b.length := by omega
      obtain ⟨F, hF⟩ : ∃ F, F = a.length - K := ⟨_, rfl⟩
      have hsub : (a.length : Int) - (K : Int) = (F : Int) := by omega
      have hwF : IntKind.i64.wrap (F : Int) = (F : Int) := IntWalk.i64_in _ (by omega)
      obtain ⟨A1, hrun1, hr1⟩ := Rd.tail (P := Try.prog) (A := A) (c := c) 23 5 j0 Try.underlying23 bi BZ.out hc F (by omega)
      obtain ⟨B1, hrun2, hr2⟩ := Rd.first (P := Try.prog) 23 5 j0 Try.underlying23 bi BZ.out h2 K (by omega)
      have hr3 := hr1 w _ h
      rw [bcells_drop] at hr3
      rw [bcells_take] at hr2
      have HR2 := Lib.hid (show Rd W B1 K d (bcells (b.take K)) by rw [hW]; exact hr2)
      have HR3 := Lib.hid (show Rd W A1 (a.length - F) (c - F) (bcells (a.drop F)) by rw [hW]; exact hr3)
      have HF := Lib.hid hF
      have i1 : (0 : Int) ≤ (K : Int) := by omega
      have i2 : (K : Int) ≤ (b.length : Int) := by omega
      have i3 : (K : Int) ≤ (a.length : Int) := by omega
      clear hr1 hr2 hr3 hF hW hK hV
      by_cases heq : a.drop F = b.take K
      · have HEQ := Lib.hid (fun W (h1 : Rd W A1 (a.length - F) (c - F) (bcells (a.drop F))) (h2 : Rd W B1 K d (bcells (b.take K))) => same_q h1 h2 (HA.out.drop F) (HB.out.take K) true (decide_eq_true heq).symm)
        have HE := Lib.hid heq
        clear heq
        go_upto_region 5 with (fail)
        go_quiet ((go_at_call 14; exact Calls.quiet_of_same (HEQ.out _ (HR3.out.drewN _) (HR2.out.drewN _))))
        go_wp2_with fail
        refine ⟨⟨K, q + nq, by omega, by go_num, ?_, by rw [HW.out]; exact World.drewN_drewN _ _ _⟩, by simp [intOf]; omega⟩
        rw [HK.out]
        unfold ovf
        rw [if_pos (by rw [← HK.out, ← HF.out]; exact HE.out)]
      · have HEQ := Lib.hid (fun W (h1 : Rd W A1 (a.length - F) (c - F) (bcells (a.drop F))) (h2 : Rd W B1 K d (bcells (b.take K))) => same_q h1 h2 (HA.out.drop F) (HB.out.take K) false (decide_eq_false heq).symm)
        have HE := Lib.hid heq
        clear heq
        go_upto_region 5 with (fail)
        go_quiet ((go_at_call 14; exact Calls.quiet_of_same (HEQ.out _ (HR3.out.drewN _) (HR2.out.drewN _))))
        go_wp2_with fail
        refine ⟨⟨K, q + nq, by omega, by go_num, ?_, by rw [HW.out]; exact World.drewN_drewN _ _ _⟩, by simp [intOf]; omega⟩
        rw [HVV.out, HK.out]
        conv => rhs; unfold ovf
        rw [if_neg (by rw [← HK.out, ← HF.out]; exact HE.out)]
    · have HKM := Lib.hid (show k = M by omega)
      have hside : (a.length < K) ∨ (K ≤ a.length ∧ b.length < K) := by have := HMM.out; omega
      clear hW hK hV
      rcases hside with hs | ⟨hs, hs2⟩
      all_goals
        go_wp2
        go_ret
        exact ⟨by rw [HV.out, ← HKM.out, ← HVV.out]; rfl, q, HW.out⟩
end PB
end Go.Proofs.Ytnahmiglogddaaa
namespace Go.Proofs.Ytnahmiglogddaaa
open Go.RowKit
attribute [local go_sem ↓] Go.wp_at_zero Go.wp_at_succ
set_option linter.unusedVariables false
set_option linter.unusedSimpArgs false
namespace PB
/-- Comes behind a place in the order, and occurs twice. -/
def DCand (f : Txt → Nat) (m : Nat) (last x : Txt) : Prop := 2 ≤ f x ∧ aft (f x) x m last
/-- The best of what has been seen. -/
def NB (f : Txt → Nat) (m : Nat) (last : Txt) (seen : List Txt) (b : Txt) (mo : Nat) : Prop :=
  (mo = 0 ∧ b = [] ∧ ∀ y ∈ seen, ¬ DCand f m last y) ∨ (DCand f m last b ∧ mo = f b ∧ b ∈ seen ∧ ∀ y ∈ seen, DCand f m last y → y = b ∨ tlt f b y)
section
variable {f : Txt → Nat} {m : Nat} {last : Txt} {seen : List Txt} {b : Txt} {mo : Nat}
theorem NB.start : NB f m last [] [] 0 := .inl ⟨rfl, rfl, fun y hy => by cases hy⟩
theorem NB.pass (h : NB f m last seen b mo) {x : Txt} (hx : ¬ DCand f m last x) : NB f m last (seen ++ [x]) b mo := by
  rcases h with ⟨h1, h2, h3⟩ | ⟨h1, h2, h3, h4⟩
  · refine .inl ⟨h1, h2, fun y hy => ?_⟩
    rcases List.mem_append.1 hy with k | k
    · exact h3 y k
    · rw [List.mem_singleton] at k; subst k; exact hx
  · refine .inr ⟨h1, h2, List.mem_append_left _ h3, fun y hy hc => ?_⟩
    rcases List.mem_append.1 hy with k | k
    · exact h4 y k hc
    · rw [List.mem_singleton] at k; subst k; exact absurd hc hx
theorem NB.first (h : NB f m last seen b mo) (h0 : mo = 0) {x : Txt} (hx : DCand f m last x) : NB f m last (seen ++ [x]) x (f x) := by
  rcases h with ⟨_, _, h3⟩ | ⟨h1, h2, _, _⟩
  · refine .inr ⟨hx, rfl, List.mem_append_right _ (List.mem_singleton.2 rfl), fun y hy hc => ?_⟩
    rcases List.mem_append.1 hy with k | k
    · exact absurd hc (h3 y k)
    · exact .inl (List.mem_singleton.1 k)
  · have := h1.1; omega
theorem NB.better (h : NB f m last seen b mo) (h0 : mo ≠ 0) {x : Txt} (hx : DCand f m last x) (hb : aft mo b (f x) x) : NB f m last (seen ++ [x]) x (f x) := by
  rcases h with ⟨h1, _, _⟩ | ⟨h1, h2, h3, h4⟩
  · exact absurd h1 h0
  · have hxb : tlt f x b := by
      rcases hb with k | ⟨k, k'⟩
      · left; omega
      · right; exact ⟨by omega, k'⟩
    refine .inr ⟨hx, rfl, List.mem_append_right _ (List.mem_singleton.2 rfl), fun y hy hc => ?_⟩
    rcases List.mem_append.1 hy with k | k
    · rcases h4 y k hc with e | e
      · subst e; exact .inr hxb
      · exact .inr (tlt_trans hxb e)
    · exact .inl (List.mem_singleton.1 k)
theorem NB.worse (h : NB f m last seen b mo) (h0 : mo ≠ 0) {x : Txt} (hb : ¬ aft mo b (f x) x) : NB f m last (seen ++ [x]) b mo := by
  rcases h with ⟨h1, _, _⟩ | ⟨h1, h2, h3, h4⟩
  · exact absurd h1 h0
  · refine .inr ⟨h1, h2, List.mem_append_left _ h3, fun y hy hc => ?_⟩
    rcases List.mem_append.1 hy with k | k
    · exact h4 y k hc
    · rw [List.mem_singleton] at k
      subst k
      rcases tlt_tri f y b with e | e | e
      · refine absurd ?_ hb
        rcases e with e | ⟨e, e'⟩
        · left; omega
        · right; exact ⟨by omega, e'⟩
      · exact .inl e
      · exact .inr e
end
/-- All segments of samples. -/
def allw (S : List (List Nat)) : List Txt := S.flatMap wins
theorem allw_snoc (S : List (List Nat)) (s : List Nat) : allw (S ++ [s]) = allw S ++ wins s := by unfold allw; rw [List.flatMap_append, List.flatMap_singleton]
theorem mem_allw {S : List (List Nat)} {x : Txt} (h : 0 < fr S x) : x ∈ allw S := by
  obtain ⟨s, hs, hx⟩ := fr_pos h
  exact List.mem_flatMap.2 ⟨s, hs, hx⟩
/-- The answer, where what comes behind is the rest of the list. -/
theorem NB.answer {S : List (List Nat)} {l : List Txt} (hS : Segs S l) {m : Nat} {last b : Txt} {mo k : Nat} (hk : k ≤ l.length) (hc : ∀ x, DCand (fr S) m last x ↔ x ∈ l.drop k) (h : NB (fr S) m last (allw S) b mo) :
    (k = l.length ∧ b = [] ∧ mo = 0) ∨ ∃ hk : k < l.length, b = l[k] ∧ mo = fr S l[k] := by
  rcases Nat.lt_or_ge k l.length with hlt | hge
  · right
    refine ⟨hlt, ?_⟩
    have hd : l.drop k = l[k] :: l.drop (k + 1) := (List.drop_eq_getElem_cons hlt)
    have hck : DCand (fr S) m last l[k] := (hc _).2 (by rw [hd]; exact List.mem_cons_self)
    have hmem : l[k] ∈ allw S := mem_allw (by have := hck.1; omega)
    rcases h with ⟨_, _, h3⟩ | ⟨h1, h2, _, h4⟩
    · exact absurd hck (h3 _ hmem)
    · have hb : b = l[k] := by
        have hbm := (hc b).1 h1
        rw [hd] at hbm
        rcases h4 _ hmem hck with e | e
        · exact e.symm
        · rcases List.mem_cons.1 hbm with e2 | e2
          · exact e2
          · have hs := hS.sorted.sublist (List.drop_sublist k l)
            rw [hd, List.pairwise_cons] at hs
            exact absurd (hs.1 b e2) (tlt_asymm e)
      exact ⟨hb, by rw [h2, hb]⟩
  · left
    have hkl : k = l.length := by omega
    subst hkl
    rcases h with ⟨h1, h2, _⟩ | ⟨h1, _, _, _⟩
    · exact ⟨rfl, h2, h1⟩
    · have := (hc b).1 h1
      rw [List.drop_length] at this
      cases this
theorem cand_start {S : List (List Nat)} {l : List Txt} (hS : Segs S l) (x : Txt) : DCand (fr S) (S.length + 1) [] x ↔ x ∈ l.drop 0 := by
  rw [List.drop_zero, hS.mem x]
  constructor
  · exact fun h => h.1
  · intro h; exact ⟨h, .inl (by have := fr_le S x; omega)⟩
theorem cand_step {S : List (List Nat)} {l : List Txt} (hS : Segs S l) (k : Nat) (hk : k < l.length) (x : Txt) : DCand (fr S) (fr S l[k]) l[k] x ↔ x ∈ l.drop (k + 1) := by
  have e : aft (fr S x) x (fr S l[k]) l[k] ↔ tlt (fr S) l[k] x := by
    unfold aft tlt
    constructor
    · rintro (h | ⟨h, h'⟩)
      · exact .inl h
      · exact .inr ⟨h.symm, h'⟩
    · rintro (h | ⟨h, h'⟩)
      · exact .inl h
      · exact .inr ⟨h.symm, h'⟩
  unfold DCand
  rw [e, ← hS.mem x]
  have hp := hS.sorted
  have hsplit : l = l.take k ++ (l[k] :: l.drop (k + 1)) := by rw [← List.drop_eq_getElem_cons hk, List.take_append_drop]
  constructor
  · rintro ⟨h1, h2⟩
    rw [hsplit] at h1 hp
    rw [List.pairwise_append] at hp
    rcases List.mem_append.1 h1 with h3 | h3
    · exact absurd (hp.2.2 x h3 _ List.mem_cons_self) (tlt_asymm h2)
    · rcases List.mem_cons.1 h3 with h4 | h4
      · exact absurd h2 (by rw [h4]; exact tlt_irrefl _ _)
      · exact h4
  · intro h
    refine ⟨List.mem_of_mem_drop h, ?_⟩
    rw [hsplit, List.pairwise_append, List.pairwise_cons] at hp
    exact hp.2.1.1 x h
set_option maxRecDepth 100000 in
set_option maxHeartbeats 3200000 in
theorem next_any {A : Option Addr} {n c : Nat} {xs : List SItem} {w : World} (h : RdSS w A n c xs) (hok : SamB xs) (m : Nat) (hm : m ≤ 100) (last : Txt) :
    Calls Try.prog 25 #[.slice A n c, .int .i64 (m : Nat), encStr last] w fun e w' => (∃ b mo, e = .returned (.tuple #[encStr b, .int .i64 (mo : Nat)]) ∧ NB (fr (samd xs)) m last (allw (samd xs)) b mo) ∧ w' = w := by
  obtain ⟨j0, bi, bz0, bz1, bz2⟩ := info_parts byte_info
  have BZ := Lib.hid bz1
  have hn := h.1
  have hcap := h.2.1
  have hcm := h.2.2.1
  unfold maxLen at hcm
  obtain rfl := hn
  have hfew := hok.ok.few
  have HOK := Lib.hid hok
  obtain ⟨f, hf⟩ : ∃ f, f = fr (samd xs) := ⟨_, rfl⟩
  have HF := Lib.hid hf
  have hfb : ∀ x, f x ≤ 64 := fun x => by rw [hf]; refine Nat.le_trans (fr_le _ x) ?_; unfold samd; rw [List.length_map]; exact hfew
  rw [← hf]
  have HFB := Lib.hid hfb
  clear hf hok hfb
  unfold encStr
  go_enter Try.func25, Try.ntmps25
  go_wp2_with fail
  go_loop [8, 9, 10] (fun bv mv i => ∃ (k : Nat) (b : Txt) (mo : Nat), k ≤ xs.length ∧ i = .int .i64 (k : Nat) ∧ bv = .string ⟨b.toArray⟩ ∧ mv = .int .i64 (mo : Nat) ∧ NB f m last (allw (samd (xs.take k))) b mo) (fun _ _ i => xs.length - (intOf i).toNat)
  case atStart => exact ⟨0, [], 0, Nat.zero_le _, rfl, rfl, rfl, NB.start⟩
  case round =>
    obtain ⟨k, b, mo, hk, rfl, rfl, rfl, hnb⟩ := hrel
    have HNB := Lib.hid hnb
    clear hnb
    by_cases hlt : k < xs.length
    · obtain ⟨bb, off, rfl, hbb, q1, R⟩ := h.at k hlt
      obtain ⟨x, hx⟩ : ∃ x, x = xs[k] := ⟨_, rfl⟩
      rw [← hx] at q1 R
      have hsh : x.d.length ≤ 1024 := HOK.out.ok.short x (by rw [hx]; exact List.getElem_mem hlt)
      have hyb : ByteL x.d := by rw [hx]; exact HOK.out.byte _ (List.getElem_mem hlt)
      have hxn : x.d.length = x.n := by have := R.len; rwa [bcells_length] at this
      have hxc := Reads.cap R
      have hxm := Reads.capMax R
      unfold maxLen at hxm
      have HSD := Lib.hid (samd_take_succ xs k hlt)
      rw [← hx] at HSD
      obtain ⟨xA, xn, xc, d⟩ := x
      dsimp only at q1 R hsh hxn hxc hxm HSD hyb
      have HYB := Lib.hid hyb
      clear hyb
      subst hxn
      obtain ⟨S, hS⟩ : ∃ S, S = samd (xs.take k) := ⟨_, rfl⟩
      rw [← hS] at HNB HSD
      clear hx hS
      go_wp2_with fail
      go_loop [8, 9, 11] (fun bv mv i => ∃ (j : Nat) (b : Txt) (mo : Nat), j ≤ d.length - 7 ∧ i = .int .i64 (j : Nat) ∧ bv = .string ⟨b.toArray⟩ ∧ mv = .int .i64 (mo : Nat) ∧ NB f m last (allw S ++ (wins d).take j) b mo) (fun _ _ i => d.length + 1 - (intOf i).toNat)
      case atStart => exact ⟨0, b, mo, Nat.zero_le _, rfl, rfl, rfl, by rw [List.take_zero, List.append_nil]; exact HNB.out⟩
      case round =>
        obtain ⟨j, b, mo, hj, rfl, rfl, rfl, hnb⟩ := hrel
        have HN := Lib.hid hnb
        clear hnb
        by_cases hj8 : j + 8 ≤ d.length
        · obtain ⟨A8, hrun, hrd⟩ := Rd.mid (P := Try.prog) 23 5 j0 Try.underlying23 bi BZ.out R j (j + 8) (by omega) hj8
          rw [show j + 8 - j = 8 by omega] at hrun hrd
          rw [bcells_drop, bcells_take] at hrd
          have hconv := run_to_utx hrd
          obtain ⟨x, hx⟩ : ∃ x, x = seg d j := ⟨_, rfl⟩
          have hx8 : x.length = 8 := by rw [hx]; exact seg_length hj8
          have hconv2 : (convert 23 9 (.slice A8 8 (xc - j))).run Try.prog w = .ok (.string ⟨x.toArray⟩) w := by rw [hx]; exact hconv
          have hrun2 : ∀ W, (Instr.slice 23 (.slice xA d.length xc) (some (.int .i64 (j : Nat))) (some (.int .i64 ((j : Int) + 8))) none).run Try.prog W = .ok (.slice A8 8 (xc - j)) W := hrun
          have hdb : ByteL d := HYB.out
          have hbx : byt x = (d.drop j).take 8 := by rw [hx]; unfold seg; exact byt_utx ((hdb.drop j).take 8)
          have HFR := Lib.hid (freq_any h HOK.out (by rw [hbx]; exact hrd) hx8)
          rw [← HF.out] at HFR
          have HW := Lib.hid (wins_take_succ d j hj8)
          rw [← hx] at HW
          have hpb := HFB.out x
          obtain ⟨p, hp⟩ : ∃ p, p = f x := ⟨_, rfl⟩
          rw [← hp] at HFR hpb
          have HP := Lib.hid hp
          have HA1 := Lib.hid (fun r hr => after_any p m x last w r hr)
          have HA2 := Lib.hid (fun r hr => after_any mo p b x w r hr)
          unfold encStr at HA1 HA2
          have hmo : mo ≤ 64 := by
            rcases HN.out with ⟨e, _⟩ | ⟨_, e, _⟩
            · omega
            · rw [e]; exact HFB.out b
          clear hrun hrd hconv hx hp hbx hdb
          by_cases h2 : 2 ≤ p
          · have k2 : decide ((2 : Int) ≤ (p : Int)) = true := by simp; omega
            by_cases ha : aft p x m last
            · have HA := Lib.hid (HA1.out true (decide_eq_true ha).symm)
              have HCA := Lib.hid (show DCand f m last x from ⟨by rw [← HP.out]; exact h2, by rw [← HP.out]; exact ha⟩)
              clear ha
              by_cases h0 : mo = 0
              · subst h0
                go_wp2_with fail
                refine HFR.out.mono ?_
                rintro e w9 ⟨rfl, rfl⟩
                go_wp2_with fail
                refine HA.out.mono ?_
                rintro e w9 ⟨rfl, rfl⟩
                go_wp2_with fail
                go_round
                case rel => exact ⟨j + 1, x, p, by omega, by go_num, rfl, rfl, by rw [HW.out, ← List.append_assoc, HP.out]; exact HN.out.first rfl HCA.out⟩
                case measure => simp [intOf] <;> omega
              · have k3 : ((mo : Int) == 0) = false := by rw [beq_eq_false_iff_ne]; omega
                have HM0 := Lib.hid h0
                by_cases hb : aft mo b p x
                · have HB := Lib.hid (HA2.out true (decide_eq_true hb).symm)
                  have HBB := Lib.hid hb
                  clear hb h0
                  go_wp2_with fail
                  refine HFR.out.mono ?_
                  rintro e w9 ⟨rfl, rfl⟩
                  go_wp2_with fail
                  refine HA.out.mono ?_
                  rintro e w9 ⟨rfl, rfl⟩
                  go_wp2_with fail
                  refine HB.out.mono ?_
                  rintro e w9 ⟨rfl, rfl⟩
                  go_wp2_with fail
                  go_round
                  case rel => exact ⟨j + 1, x, p, by omega, by go_num, rfl, rfl, by rw [HW.out, ← List.append_assoc, HP.out]; exact HN.out.better HM0.out HCA.out (by rw [← HP.out]; exact HBB.out)⟩
                  case measure => simp [intOf] <;> omega
                · have HB := Lib.hid (HA2.out false (decide_eq_false hb).symm)
                  have HBB := Lib.hid hb
                  clear hb h0
                  go_wp2_with fail
                  refine HFR.out.mono ?_
                  rintro e w9 ⟨rfl, rfl⟩
                  go_wp2_with fail
                  refine HA.out.mono ?_
                  rintro e w9 ⟨rfl, rfl⟩
                  go_wp2_with fail
                  refine HB.out.mono ?_
                  rintro e w9 ⟨rfl, rfl⟩
                  go_wp2_with fail
                  go_round
                  case rel => exact ⟨j + 1, b, mo, by omega, by go_num, rfl, rfl, by rw [HW.out, ← List.append_assoc]; exact HN.out.worse HM0.out (by rw [← HP.out]; exact HBB.out)⟩
                  case measure => simp [intOf] <;> omega
            · have HA := Lib.hid (HA1.out false (decide_eq_false ha).symm)
              have HCA := Lib.hid (show ¬ DCand f m last x from fun hc => ha (by rw [HP.out]; exact hc.2))
              clear ha
              go_wp2_with fail
              refine HFR.out.mono ?_
              rintro e w9 ⟨rfl, rfl⟩
              go_wp2_with fail
              refine HA.out.mono ?_
              rintro e w9 ⟨rfl, rfl⟩
              go_wp2_with fail
              go_round
              case rel => exact ⟨j + 1, b, mo, by omega, by go_num, rfl, rfl, by rw [HW.out, ← List.append_assoc]; exact HN.out.pass HCA.out⟩
              case measure => simp [intOf] <;> omega
          · have k2 : decide ((2 : Int) ≤ (p : Int)) = false := by simp; omega
            have HCA := Lib.hid (show ¬ DCand f m last x from fun hc => h2 (by rw [HP.out]; exact hc.1))
            go_wp2_with fail
            refine HFR.out.mono ?_
            rintro e w9 ⟨rfl, rfl⟩
            go_wp2_with fail
            go_round
            case rel => exact ⟨j + 1, b, mo, by omega, by go_num, rfl, rfl, by rw [HW.out, ← List.append_assoc]; exact HN.out.pass HCA.out⟩
            case measure => simp [intOf] <;> omega
        · go_wp2_with fail
          go_round
          case rel => exact ⟨k + 1, b, mo, by omega, by go_num, rfl, rfl, by rw [HSD.out, allw_snoc]; have := HN.out; rwa [List.take_of_length_le (by rw [wins_length]; omega)] at this⟩
          case measure => simp [intOf] <;> omega
    · obtain rfl : k = xs.length := by omega
      have hnb := HNB.out
      rw [List.take_of_length_le (Nat.le_refl _)] at hnb
      have HN2 := Lib.hid hnb
      clear hnb
      go_wp2
      go_ret2
      exact ⟨⟨b, mo, rfl, HN2.out⟩, rfl⟩
end PB
end Go.Proofs.Ytnahmiglogddaaa
namespace Go.Proofs.Ytnahmiglogddaaa
open Go.RowKit
attribute [local go_sem ↓] Go.wp_at_zero Go.wp_at_succ
set_option linter.unusedVariables false
set_option linter.unusedSimpArgs false
namespace PB
set_option maxRecDepth 100000 in
set_option maxHeartbeats 3200000 in
theorem trained_any {A : Option Addr} {n c : Nat} {xs : List SItem} {w : World} (h : RdSS w A n c xs) (hok : SamB xs) {l : List Txt} (hS : Segs (samd xs) l) (size : Nat) (hs : size ≤ 512) (si : Int) (hsi : si = (size : Nat)) :
    Calls Try.prog 15 #[.slice A n c, .int .i64 si] w fun e w' => ∃ A' n' c', e = .returned (.slice A' n' c') ∧ Rd w' A' n' c' (bcells (traind size l)) ∧ Below w.heap.size w w' := by
  subst hsi
  obtain ⟨j0, bi, bz0, bz1, bz2⟩ := info_parts byte_info
  have BZ := Lib.hid bz1
  have hn := h.1
  have hcap := h.2.1
  have hcm := h.2.2.1
  unfold maxLen at hcm
  obtain rfl := hn
  have hfew := hok.ok.few
  have HOK := Lib.hid hok
  have HS := Lib.hid hS
  have hsl : (samd xs).length = xs.length := by unfold samd; rw [List.length_map]
  have HN0 := Lib.hid (next_any h hok (xs.length + 1) (by omega) [])
  have HC0 := Lib.hid (fun x => by have := cand_start hS x; rw [hsl] at this; exact this)
  have HFB := Lib.hid (fun x => Nat.le_trans (fr_le (samd xs) x) (by rw [hsl]; exact hfew))
  unfold encStr at HN0
  clear hok hS hsl
  go_enter Try.func15, Try.ntmps15
  go_wp2_with fail
  refine HN0.out.mono ?_
  rintro e w1 ⟨⟨b0, mo0, rfl, hnb⟩, rfl⟩
  have hans := NB.answer HS.out (Nat.zero_le _) HC0.out hnb
  have hst : (l.length = 0 ∧ b0 = [] ∧ mo0 = 0) ∨ ∃ hk : 0 < l.length, b0 = l[0] ∧ mo0 = fr (samd xs) l[0] := by
    rcases hans with ⟨k1, k2, k3⟩ | k
    · exact .inl ⟨k1.symm, k2, k3⟩
    · exact .inr k
  have HST := Lib.hid hst
  clear hnb hans hst
  go_wp2_with fail
  go_loopg [5, 6, 7] l.length (fun gk dv tv nv wr => ∃ (k : Nat) (A2 : Option Addr) (n2 c2 : Nat) (b : Txt) (mo : Nat), gk + k = l.length ∧ tv = .string ⟨b.toArray⟩ ∧ nv = .int .i64 (mo : Nat) ∧ dv = .slice A2 n2 c2 ∧ Rd wr A2 n2 c2 (bcells (traind size (l.take k))) ∧ Below w1.heap.size w1 wr ∧ ((k = l.length ∧ b = [] ∧ mo = 0) ∨ ∃ hk : k < l.length, b = l[k] ∧ mo = fr (samd xs) l[k]))
  case atStart => exact ⟨0, none, 0, 0, b0, mo0, by omega, rfl, rfl, rfl, Reads.nil _ _ none 0 (Nat.zero_le _), Below.refl _ _, by rcases HST.out with ⟨k1, k2⟩ | k3; exact .inl ⟨k1.symm, k2⟩; exact .inr k3⟩
  case round =>
    obtain ⟨k, A2, n2, c2, b, mo, hgk, rfl, rfl, rfl, hrd, yr, hst⟩ := hrel
    have HGK := Lib.hid hgk
    have HRD := Lib.hid hrd
    have HY := Lib.hid yr
    clear hgk hrd yr HST
    rcases hst with ⟨hkl, rfl, rfl⟩ | ⟨hk, hbe, hme⟩
    · subst hkl
      have hd := HRD.out
      rw [List.take_of_length_le (Nat.le_refl _)] at hd
      have HD2 := Lib.hid hd
      clear hd
      go_wp2
      go_ret
      exact ⟨A2, n2, c2, rfl, HD2.out, HY.out⟩
    · have hx8 : b.length = 8 := by rw [hbe]; exact HS.out.eight (List.getElem_mem hk)
      have hmo2 : 2 ≤ mo := by rw [hme]; exact (HS.out.mem _).1 (List.getElem_mem hk)
      have hmo64 : mo ≤ 64 := by rw [hme]; exact HFB.out _
      have HCS := Lib.hid (cand_step HS.out k hk)
      rw [← hbe, ← show mo = fr (samd xs) b by rw [hme, hbe]] at HCS
      have HNX := Lib.hid (fun W (hW : Below w1.heap.size w1 W) => next_any (w := W) (h.on hW) HOK.out mo (by omega) b)
      unfold encStr at HNX
      have HSTP := Lib.hid (traind_take_succ size l k hk)
      rw [← hbe] at HSTP
      obtain ⟨d, hdd⟩ : ∃ d, d = traind size (l.take k) := ⟨_, rfl⟩
      have hdl : d.length ≤ 512 := by rw [hdd]; exact Nat.le_trans (traind_size size _) hs
      have hdb : ByteL d := by rw [hdd]; exact traind_byte size _
      rw [← hdd] at HSTP HRD
      have hn2 : d.length = n2 := by have := HRD.out.len; rwa [bcells_length] at this
      obtain ⟨A8, c8, w3, hconv, hr8, y3⟩ := str_to_bytes wr b (by omega)
      rw [hx8] at hconv hr8
      have hconv2 : (convert 9 23 (.string ⟨b.toArray⟩)).run Try.prog wr = .ok (.slice A8 8 c8) w3 := hconv
      have Z3 := HY.out.trans (y3.mono HY.out.size)
      have RD3 := HRD.out.on y3
      obtain ⟨s, hse⟩ : ∃ s, s = byt b := ⟨_, rfl⟩
      have hsl : s.length = 8 := by rw [hse, byt_length, hx8]
      have hsb : ByteL s := by rw [hse]; exact byt_lt b
      rw [← hse] at hr8
      have HSE := Lib.hid hse
      have HE1 := Lib.hid (ends_any RD3 hr8 hdb hsb (by omega) (by decide))
      have HE2 := Lib.hid (fun q => ends_any (w := w3.drewN q) (hr8.drewN q) (RD3.drewN q) hsb hdb (by decide) (by omega))
      obtain ⟨f1, f2⟩ := ovl_le s d
      obtain ⟨g1, g2⟩ := ovl_le d s
      obtain ⟨J, hJ⟩ : ∃ J, J = joind d s := ⟨_, rfl⟩
      have hJ2 : J = if ovl s d < ovl d s then d ++ s.drop (ovl d s) else s.take (s.length - ovl s d) ++ d := hJ
      obtain ⟨F, hF⟩ : ∃ F, F = ovl s d := ⟨_, rfl⟩
      obtain ⟨G, hG⟩ : ∃ G, G = ovl d s := ⟨_, rfl⟩
      rw [← hF] at f1 f2 hJ2 HE2
      rw [← hG] at g1 g2 hJ2 HE1
      have HJ := Lib.hid hJ
      have HJ2 := Lib.hid hJ2
      have HF := Lib.hid hF
      have HG := Lib.hid hG
      have HDB := Lib.hid hdb
      have HSB := Lib.hid hsb
      have HR8 := Lib.hid hr8
      have HR3 := Lib.hid RD3
      have HZ3 := Lib.hid Z3
      have HKK := Lib.hid hk
      have kmo : decide ((0 : Int) < (mo : Int)) = true := by simp; omega
      clear hbe hme hdd hconv hr8 y3 Z3 RD3 hse hsb hdb hJ hJ2 hF hG
      go_wp2_with fail
      refine HE1.out.mono ?_
      rintro e w4 ⟨rfl, q4, rfl⟩
      go_wp2_with fail
      refine (HE2.out q4).mono ?_
      rintro e w5 ⟨rfl, q5, rfl⟩
      obtain ⟨W5, hW5⟩ : ∃ W5, W5 = (w3.drewN q4).drewN q5 := ⟨_, rfl⟩
      have hW5' : W5 = w3.drewN (q4 + q5) := by rw [hW5, World.drewN_drewN]
      have R8 := (HR8.out.drewN q4).drewN q5
      have R3 := (HR3.out.drewN q4).drewN q5
      have Y5 := belowDN (belowDN HZ3.out q4) q5
      rw [← hW5] at R8 R3 Y5 ⊢
      have HR85 := Lib.hid R8
      have HR35 := Lib.hid R3
      have HY5 := Lib.hid Y5
      clear hW5 hW5' R8 R3 Y5 HE1 HE2
      by_cases hlt : F < G
      · have hJe := HJ2.out
        rw [if_pos hlt] at hJe
        have R3 := HR35.out
        go_wp2_with (at_builtin; refine wpList_append_any _ rfl _ _ _ rfl W5.heap.size 5 j0 _ 1 Try.underlying23 bi bz0 bz1 bz2 rfl _ _ _ rfl (World.ownsRow_nil _ _ _ _) _ _ n2 c2 _ rfl R3 (bcells_one _) ?g1 ?g2 (Nat.le_refl _) ?_)
        case g1 => unfold maxLen; omega
        case g2 => omega
        intro A6 c6 w6 o6 gr6 a6
        have Y6 := (Below.refl W5.heap.size W5).grown gr6 (Nat.le_refl _) (fun g hg => by cases hg)
        have z0 : 0 + n2 = n2 := Nat.zero_add n2
        (try simp only [Nat.zero_add, List.nil_append] at o6)
        (try rw [z0])
        have HO6 := Lib.hid o6
        have HY6 := Lib.hid Y6
        have HE6 := Lib.hid (ends_any (HR35.out.on Y6) (HR85.out.on Y6) HDB.out HSB.out (by omega) (by decide))
        rw [← HG.out] at HE6
        have hY6s := Y6.size
        clear o6 gr6 a6 Y6 R3 z0
        go_wp2_with fail
        refine HE6.out.mono ?_
        rintro e w7 ⟨rfl, q7, rfl⟩
        have hc8 := Reads.cap HR85.out
        obtain ⟨A9, hrun9, hr9⟩ := Rd.tail (P := Try.prog) (A := A8) (c := c8) 23 5 j0 Try.underlying23 bi BZ.out hc8 G (by omega)
        have hr9' := hr9 (w6.drewN q7) _ ((HR85.out.on HY6.out).drewN q7)
        rw [bcells_drop] at hr9'
        have o7 := own_drewN HO6.out q7
        have HJL := Lib.hid (show n2 + (8 - G) = J.length by rw [hJe, List.length_append, List.length_drop]; omega)
        have HJB := Lib.hid (show bcells d ++ bcells (s.drop G) = bcells J by rw [hJe, bcells_append])
        clear hr9 hJe
        go_wp2_with (at_builtin; refine wpList_append_any _ rfl _ _ _ rfl W5.heap.size 5 j0 _ 1 Try.underlying23 bi bz0 bz1 bz2 rfl _ _ _ rfl o7 _ _ (8 - G) (c8 - G) _ rfl hr9' (bcells_one _) ?g1 ?g2 hY6s ?_)
        case g1 => unfold maxLen; omega
        case g2 => omega
        intro A10 c10 w10 o10 gr10 a10
        have Y10 := below_grown (belowDN HY6.out q7) o7 gr10 (Nat.le_refl _) hY6s
        rw [HJL.out, HJB.out] at o10
        rw [HJL.out]
        have HRJ := Lib.hid (Rd.own o10)
        have HRD10 := Lib.hid (HR35.out.on Y10)
        have HRS10 := Lib.hid (HR85.out.on Y10)
        have HY10 := Lib.hid (HY5.out.trans (Y10.mono HY5.out.size))
        clear o10 gr10 a10 Y10 o7 hr9'
        have hjl : J.length ≤ 600 := by rw [HJ.out]; exact Nat.le_trans (joind_length d s) (by omega)
        by_cases hin : s <:+: d
        · have HOC := Lib.hid (occurs_any HRD10.out HRS10.out HDB.out HSB.out (by decide) (by omega) true (decide_eq_true hin).symm)
          have HE := Lib.hid (stepd_has_ (size := size) (x := b) (by rw [← HSE.out]; exact hin))
          clear hin
          go_wp2_with fail
          refine HOC.out.mono ?_
          rintro e w9 ⟨rfl, rfl⟩
          go_wp2_with fail
          refine (HNX.out _ HY10.out).mono ?_
          rintro e w11 ⟨⟨b', mo', rfl, hnb⟩, rfl⟩
          have hans := NB.answer HS.out (show k + 1 ≤ l.length by have := HKK.out; omega) HCS.out hnb
          have HANS := Lib.hid hans
          clear hnb hans
          go_wp2_with fail
          go_roundg (gk - 1)
          case measure => have := HGK.out; have := HKK.out; omega
          case rel => exact ⟨k + 1, A2, n2, c2, b', mo', by have := HGK.out; have := HKK.out; omega, rfl, rfl, rfl, by rw [HSTP.out, HE.out]; exact HRD10.out, HY10.out, HANS.out⟩
        · have HOC := Lib.hid (occurs_any HRD10.out HRS10.out HDB.out HSB.out (by decide) (by omega) false (decide_eq_false hin).symm)
          have HI := Lib.hid hin
          clear hin
          by_cases hsz : J.length ≤ size
          · have HE := Lib.hid (stepd_join (size := size) (d := d) (x := b) (by rw [← HSE.out]; exact HI.out) (by rw [← HSE.out, ← HJ.out]; exact hsz))
            rw [← HSE.out, ← HJ.out] at HE
            go_wp2_with fail
            refine HOC.out.mono ?_
            rintro e w9 ⟨rfl, rfl⟩
            go_wp2_with fail
            refine (HNX.out _ HY10.out).mono ?_
            rintro e w11 ⟨⟨b', mo', rfl, hnb⟩, rfl⟩
            have hans := NB.answer HS.out (show k + 1 ≤ l.length by have := HKK.out; omega) HCS.out hnb
            have HANS := Lib.hid hans
            clear hnb hans
            go_wp2_with fail
            go_roundg (gk - 1)
            case measure => have := HGK.out; have := HKK.out; omega
            case rel => exact ⟨k + 1, A10, J.length, c10, b', mo', by have := HGK.out; have := HKK.out; omega, rfl, rfl, rfl, by rw [HSTP.out, HE.out]; exact HRJ.out, HY10.out, HANS.out⟩
          · have HE := Lib.hid (stepd_big (size := size) (d := d) (x := b) (by rw [← HSE.out]; exact HI.out) (by rw [← HSE.out, ← HJ.out]; exact hsz))
            go_wp2_with fail
            refine HOC.out.mono ?_
            rintro e w9 ⟨rfl, rfl⟩
            go_wp2_with fail
            refine (HNX.out _ HY10.out).mono ?_
            rintro e w11 ⟨⟨b', mo', rfl, hnb⟩, rfl⟩
            have hans := NB.answer HS.out (show k + 1 ≤ l.length by have := HKK.out; omega) HCS.out hnb
            have HANS := Lib.hid hans
            clear hnb hans
            go_wp2_with fail
            go_roundg (gk - 1)
            case measure => have := HGK.out; have := HKK.out; omega
            case rel => exact ⟨k + 1, A2, n2, c2, b', mo', by have := HGK.out; have := HKK.out; omega, rfl, rfl, rfl, by rw [HSTP.out, HE.out]; exact HRD10.out, HY10.out, HANS.out⟩
      · have hJe := HJ2.out
        rw [if_neg hlt] at hJe
        have HE6 := Lib.hid (ends_any HR85.out HR35.out HSB.out HDB.out (by decide) (by omega))
        rw [← HF.out] at HE6
        go_wp2_with fail
        refine HE6.out.mono ?_
        rintro e w7 ⟨rfl, q7, rfl⟩
        obtain ⟨T, hT⟩ : ∃ T, T = 8 - F := ⟨_, rfl⟩
        have hsub : (8 : Int) - (F : Int) = (T : Int) := by omega
        have hwT : IntKind.i64.wrap (T : Int) = (T : Int) := IntWalk.i64_in _ (by omega)
        obtain ⟨A9, hrun9, hr9⟩ := Rd.first (P := Try.prog) 23 5 j0 Try.underlying23 bi BZ.out (HR85.out.drewN q7) T (by omega)
        rw [bcells_take] at hr9
        rw [hsl, ← hT] at hJe
        have HJL := Lib.hid (show T + n2 = J.length by rw [hJe, List.length_append, List.length_take]; omega)
        have HJB := Lib.hid (show bcells (s.take T) ++ bcells d = bcells J by rw [hJe, bcells_append])
        have hT8 : T ≤ 8 := by omega
        clear hJe hT
        go_wp2_with (at_builtin; refine wpList_append_any _ rfl _ _ _ rfl W5.heap.size 5 j0 _ 1 Try.underlying23 bi bz0 bz1 bz2 rfl _ _ _ rfl (World.ownsRow_nil _ _ _ _) _ _ T c8 _ rfl hr9 (bcells_one _) ?g1 ?g2 (Nat.le_refl _) ?_)
        case g1 => unfold maxLen; omega
        case g2 => omega
        intro A6 c6 w6 o6 gr6 a6
        have Y6 := (belowDN (Below.refl W5.heap.size W5) q7).grown gr6 (Nat.le_refl _) (fun g hg => by cases hg)
        have z0 : 0 + T = T := Nat.zero_add T
        (try simp only [Nat.zero_add, List.nil_append] at o6)
        (try rw [z0])
        have HO6 := Lib.hid o6
        have HY6 := Lib.hid Y6
        have hY6s := Y6.size
        have R3 := HR35.out.on Y6
        clear o6 gr6 a6 Y6 z0 hr9
        go_wp2_with (at_builtin; refine wpList_append_any _ rfl _ _ _ rfl W5.heap.size 5 j0 _ 1 Try.underlying23 bi bz0 bz1 bz2 rfl _ _ _ rfl HO6.out _ _ n2 c2 _ rfl R3 (bcells_one _) ?g1 ?g2 hY6s ?_)
        case g1 => unfold maxLen; omega
        case g2 => omega
        intro A10 c10 w10 o10 gr10 a10
        have Y10 := below_grown HY6.out HO6.out gr10 (Nat.le_refl _) hY6s
        rw [HJL.out, HJB.out] at o10
        rw [HJL.out]
        have HRJ := Lib.hid (Rd.own o10)
        have HRD10 := Lib.hid (HR35.out.on Y10)
        have HRS10 := Lib.hid (HR85.out.on Y10)
        have HY10 := Lib.hid (HY5.out.trans (Y10.mono HY5.out.size))
        clear o10 gr10 a10 Y10 R3
        have hjl : J.length ≤ 600 := by rw [HJ.out]; exact Nat.le_trans (joind_length d s) (by omega)
        by_cases hin : s <:+: d
        · have HOC := Lib.hid (occurs_any HRD10.out HRS10.out HDB.out HSB.out (by decide) (by omega) true (decide_eq_true hin).symm)
          have HE := Lib.hid (stepd_has_ (size := size) (x := b) (by rw [← HSE.out]; exact hin))
          clear hin
          go_wp2_with fail
          refine HOC.out.mono ?_
          rintro e w9 ⟨rfl, rfl⟩
          go_wp2_with fail
          refine (HNX.out _ HY10.out).mono ?_
          rintro e w11 ⟨⟨b', mo', rfl, hnb⟩, rfl⟩
          have hans := NB.answer HS.out (show k + 1 ≤ l.length by have := HKK.out; omega) HCS.out hnb
          have HANS := Lib.hid hans
          clear hnb hans
          go_wp2_with fail
          go_roundg (gk - 1)
          case measure => have := HGK.out; have := HKK.out; omega
          case rel => exact ⟨k + 1, A2, n2, c2, b', mo', by have := HGK.out; have := HKK.out; omega, rfl, rfl, rfl, by rw [HSTP.out, HE.out]; exact HRD10.out, HY10.out, HANS.out⟩
        · have HOC := Lib.hid (occurs_any HRD10.out HRS10.out HDB.out HSB.out (by decide) (by omega) false (decide_eq_false hin).symm)
          have HI := Lib.hid hin
          clear hin
          by_cases hsz : J.length ≤ size
          · have HE := Lib.hid (stepd_join (size := size) (d := d) (x := b) (by rw [← HSE.out]; exact HI.out) (by rw [← HSE.out, ← HJ.out]; exact hsz))
            rw [← HSE.out, ← HJ.out] at HE
            go_wp2_with fail
            refine HOC.out.mono ?_
            rintro e w9 ⟨rfl, rfl⟩
            go_wp2_with fail
            refine (HNX.out _ HY10.out).mono ?_
            rintro e w11 ⟨⟨b', mo', rfl, hnb⟩, rfl⟩
            have hans := NB.answer HS.out (show k + 1 ≤ l.length by have := HKK.out; omega) HCS.out hnb
            have HANS := Lib.hid hans
            clear hnb hans
            go_wp2_with fail
            go_roundg (gk - 1)
            case measure => have := HGK.out; have := HKK.out; omega
            case rel => exact ⟨k + 1, A10, J.length, c10, b', mo', by have := HGK.out; have := HKK.out; omega, rfl, rfl, rfl, by rw [HSTP.out, HE.out]; exact HRJ.out, HY10.out, HANS.out⟩
          · have HE := Lib.hid (stepd_big (size := size) (d := d) (x := b) (by rw [← HSE.out]; exact HI.out) (by rw [← HSE.out, ← HJ.out]; exact hsz))
            go_wp2_with fail
            refine HOC.out.mono ?_
            rintro e w9 ⟨rfl, rfl⟩
            go_wp2_with fail
            refine (HNX.out _ HY10.out).mono ?_
            rintro e w11 ⟨⟨b', mo', rfl, hnb⟩, rfl⟩
            have hans := NB.answer HS.out (show k + 1 ≤ l.length by have := HKK.out; omega) HCS.out hnb
            have HANS := Lib.hid hans
            clear hnb hans
            go_wp2_with fail
            go_roundg (gk - 1)
            case measure => have := HGK.out; have := HKK.out; omega
            case rel => exact ⟨k + 1, A2, n2, c2, b', mo', by have := HGK.out; have := HKK.out; omega, rfl, rfl, rfl, by rw [HSTP.out, HE.out]; exact HRD10.out, HY10.out, HANS.out⟩
end PB
end Go.Proofs.Ytnahmiglogddaaa
namespace Go.Proofs.Ytnahmiglogddaaa
open Go.RowKit
attribute [local go_sem ↓] Go.wp_at_zero Go.wp_at_succ
set_option linter.unusedVariables false
set_option linter.unusedSimpArgs false
namespace PB
open Classical in
/-- What a parse of data with a dictionary costs. -/
noncomputable def mc (s dict : List Nat) : Nat := if h : ∃ ts, PTok s dict ts then costs (Classical.choose h) else 0
theorem ptok_same {s dict : List Nat} {ts us : List Tok} (h : PTok s dict ts) (h' : PTok s dict us) (h1 : s.length ≤ 1024) (h2 : dict.length ≤ 512) : costs ts = costs us := by
  have a := PTok.more (more := []) h (by simpa using h') h1 (by simpa using h2)
  have b := PTok.more (more := []) h' (by simpa using h) h1 (by simpa using h2)
  omega
theorem mc_eq {s dict : List Nat} {ts : List Tok} (h : PTok s dict ts) (h1 : s.length ≤ 1024) (h2 : dict.length ≤ 512) : costs ts = mc s dict := by
  have he : ∃ ts, PTok s dict ts := ⟨ts, h⟩
  unfold mc
  rw [dif_pos he]
  exact ptok_same h (Classical.choose_spec he) h1 h2
theorem mc_le {s dict : List Nat} (h1 : s.length ≤ 1024) (h2 : dict.length ≤ 512) : mc s dict ≤ 9216 := by
  unfold mc
  split
  · rename_i h
    have := (Classical.choose_spec h).cost_le h1 h2
    omega
  · omega
theorem mc_less {s dict : List Nat} {ts us : List Tok} (h : PTok s [] ts) (h' : PTok s dict us) (h1 : s.length ≤ 1024) (h2 : dict.length ≤ 512) : mc s dict ≤ mc s [] := by
  rw [← mc_eq h h1 (by simp), ← mc_eq h' h1 h2]
  exact PTok.more (more := dict) h (by simpa using h') h1 (by simpa using h2)
set_option maxHeartbeats 800000 in
theorem wcost_any {A B : Option Addr} {n c m d : Nat} {s dict : List Nat} {w : World} {C : Nat} (h : Rd w A n c (bcells s)) (h2 : Rd w B m d (bcells dict)) (hn : n ≤ 1024) (hm : m ≤ 512) (hC : mc s dict = C) :
    Calls Try.prog 29 #[.slice A n c, .slice B m d] w fun e w' => e = .returned (.int .i64 (C : Nat)) ∧ (∃ ts, PTok s dict ts) ∧ Below w.heap.size w w' := by
  have hl := h.len
  have hl2 := h2.len
  rw [bcells_length] at hl hl2
  have HP := Lib.hid (parse_api h h2 hn hm)
  clear h h2
  go_enter Try.func29, Try.ntmps29
  go_wp2_with fail
  refine HP.out.mono ?_
  rintro e w1 ⟨A1, m1, c1, ts, rfl, ⟨hr, hp⟩, y1⟩
  have hmc := mc_eq hp (by omega) (by omega)
  have R1 := hr.alloc (.cells #[.int .i64 0, .int .i64 0] 25)
  have Y1 := y1.alloc y1.size (.cells #[.int .i64 0, .int .i64 0] 25)
  have HCO := Lib.hid (cost_api R1 hp (by omega) (by omega) C (hC.symm.trans hmc.symm))
  have HPT := Lib.hid hp
  have HY := Lib.hid Y1
  clear hr hp y1 hmc R1 Y1 hC
  go_wp2_with fail
  refine HCO.out.mono ?_
  rintro e w2 ⟨rfl, y2⟩
  have Y2 := Lib.hid ((HY.out.trans (y2.mono HY.out.size)).alloc (HY.out.trans (y2.mono HY.out.size)).size (.cells #[.int .i64 0, .int .i64 0] 25))
  clear y2
  go_wp2
  go_ret
  exact ⟨rfl, ⟨ts, HPT.out⟩, Y2.out⟩
/-- What a dictionary saves. -/
noncomputable def wsum (dict : List Nat) (xs : List SItem) : Int := (xs.map fun x => (mc x.d [] : Int) - (mc x.d dict : Int)).sum
theorem wsum_take_succ (dict : List Nat) (xs : List SItem) (k : Nat) (h : k < xs.length) : wsum dict (xs.take (k + 1)) = wsum dict (xs.take k) + ((mc xs[k].d [] : Int) - (mc xs[k].d dict : Int)) := by
  unfold wsum
  rw [List.take_succ_eq_append_getElem h, List.map_append, List.sum_append]
  simp
set_option maxRecDepth 100000 in
set_option maxHeartbeats 1600000 in
theorem dworth_sam {A : Option Addr} {n c : Nat} {xs : List SItem} {B : Option Addr} {m k : Nat} {dd : List Nat} {w : World} (h : RdSS w A n c xs) (hd : Rd w B m k (bcells dd)) (code idx : Int) (hF : SFault xs (-1) code idx) (hc : code ≠ 0) :
    Calls Try.prog 19 #[.slice A n c, .slice B m k] w fun e w' => e = .returned (.tuple #[.int .i64 0, .agg #[.int .i64 code, .int .i64 idx]]) ∧ Below w.heap.size w w' := by
  have hdn := hd.len
  rw [bcells_length] at hdn
  have hdc := Reads.cap hd
  have hdm := Reads.capMax hd
  unfold maxLen at hdm
  have M0 := Two.new w 25 (.int .i64 0) (.int .i64 0)
  have Y0 := (Below.refl w.heap.size w).alloc (Nat.le_refl _) (.cells #[.int .i64 0, .int .i64 0] 25)
  have R0 := h.alloc (.cells #[.int .i64 0, .int .i64 0] 25)
  have D0 := hd.alloc (.cells #[.int .i64 0, .int .i64 0] 25)
  have hc2 : (code == 0) = false := by rw [beq_eq_false_iff_ne]; exact hc
  have hc3 : (code != 0) = true := by rw [bne_iff_ne]; exact hc
  go_enter Try.func19, Try.ntmps19
  go_wp2_with fail
  refine (dicheck_any R0 (-1) _ _ hF).mono ?_
  rintro e w1 ⟨rfl, y1⟩
  have M1 := (M0.on y1).alloc (.cells #[.int .i64 code, .int .i64 idx] 25)
  have F1 := Two.new w1 25 (.int .i64 code) (.int .i64 idx)
  have Y1 := (Y0.trans (y1.mono Y0.size)).alloc (Y0.trans (y1.mono Y0.size)).size (.cells #[.int .i64 code, .int .i64 idx] 25)
  have R1 := (R0.on y1).alloc (.cells #[.int .i64 code, .int .i64 idx] 25)
  have D1 := (D0.on y1).alloc (.cells #[.int .i64 code, .int .i64 idx] 25)
  have m0 := M1.c0
  have m1 := M1.c1
  have m2 := M1.f0
  have m3 := M1.f1
  have f0 := F1.c0
  have f1 := F1.c1
  have hsz := (Y0.trans (y1.mono Y0.size)).size
  have hszm := (M0.on y1).lt
  clear M0 Y0 R0 y1
  obtain ⟨W, hW⟩ : ∃ W, W = w1.alloc (.cells #[.int .i64 code, .int .i64 idx] 25) := ⟨_, rfl⟩
  rw [← hW] at M1 F1 Y1 R1 D1 m0 m1 m2 m3 f0 f1
  clear hc hF
  go_upto_region 3 with (fail)
  rw [← hW]
  clear hW
  go_region
  all_goals
    go_wp2
    have rr := ((M1.set0 (.int .i64 code)).set1 (.int .i64 idx)).drew
    have r0 := rr.c0
    have r1 := rr.c1
    refine bodyPost_ret (v := .tuple #[.int .i64 0, .agg #[.int .i64 code, .int .i64 idx]]) (by simp [results, Try.results19, go_sem, r0, r1]) rfl ⟨rfl, ?_⟩
    exact belowD ((Y1.setCell (p := ⟨w.heap.size, 0, none⟩) (by simp) _).setCell (p := ⟨w.heap.size, 1, none⟩) (by simp) _)
set_option maxRecDepth 100000 in
set_option maxHeartbeats 1600000 in
theorem dworth_long {A : Option Addr} {n c : Nat} {xs : List SItem} {B : Option Addr} {m k : Nat} {dd : List Nat} {w : World} (h : RdSS w A n c xs) (hd : Rd w B m k (bcells dd)) (hl : 512 < m) (hok : SamOk xs) :
    Calls Try.prog 19 #[.slice A n c, .slice B m k] w fun e w' => e = .returned (.tuple #[.int .i64 0, .agg #[.int .i64 3, .int .i64 (-2)]]) ∧ Below w.heap.size w w' := by
  have hF : SFault xs (-1) 0 0 := .inr (.inr ⟨hok, rfl, rfl⟩)
  clear hok
  have hdn := hd.len
  rw [bcells_length] at hdn
  have hdc := Reads.cap hd
  have hdm := Reads.capMax hd
  unfold maxLen at hdm
  have M0 := Two.new w 25 (.int .i64 0) (.int .i64 0)
  have Y0 := (Below.refl w.heap.size w).alloc (Nat.le_refl _) (.cells #[.int .i64 0, .int .i64 0] 25)
  have R0 := h.alloc (.cells #[.int .i64 0, .int .i64 0] 25)
  have D0 := hd.alloc (.cells #[.int .i64 0, .int .i64 0] 25)
  have kl : decide ((512 : Int) < (m : Int)) = true := by simp; omega
  go_enter Try.func19, Try.ntmps19
  go_wp2_with fail
  refine (dicheck_any R0 (-1) _ _ hF).mono ?_
  rintro e w1 ⟨rfl, y1⟩
  have M1 := (M0.on y1).alloc (.cells #[.int .i64 0, .int .i64 0] 25)
  have F1 := Two.new w1 25 (.int .i64 0) (.int .i64 0)
  have Y1 := (Y0.trans (y1.mono Y0.size)).alloc (Y0.trans (y1.mono Y0.size)).size (.cells #[.int .i64 0, .int .i64 0] 25)
  have R1 := (R0.on y1).alloc (.cells #[.int .i64 0, .int .i64 0] 25)
  have D1 := (D0.on y1).alloc (.cells #[.int .i64 0, .int .i64 0] 25)
  have m0 := M1.c0
  have m1 := M1.c1
  have m2 := M1.f0
  have m3 := M1.f1
  have f0 := F1.c0
  have f1 := F1.c1
  have hsz := (Y0.trans (y1.mono Y0.size)).size
  have hszm := (M0.on y1).lt
  clear M0 Y0 R0 y1
  obtain ⟨W, hW⟩ : ∃ W, W = w1.alloc (.cells #[.int .i64 0, .int .i64 0] 25) := ⟨_, rfl⟩
  rw [← hW] at M1 F1 Y1 R1 D1 m0 m1 m2 m3 f0 f1
  clear hF
  go_upto_region 4 with (fail)
  rw [← hW]
  clear hW
  go_wp2_with fail
  refine (difault_any _ _ _).mono ?_
  rintro e w3 ⟨rfl, y3⟩
  have M3 := M1.on y3
  have Y3 := Y1.trans (y3.mono Y1.size)
  have p0 := M3.c0
  have p1 := M3.c1
  have p2 := M3.f0
  have p3 := M3.f1
  clear M1 Y1 m0 m1 m2 m3 f0 f1 F1 R1 y3 D0 D1
  
  go_wp2
  have rr := ((M3.set0 (.int .i64 3)).set1 (.int .i64 (-2)))
  have r0 := rr.c0
  have r1 := rr.c1
  refine bodyPost_ret (v := .tuple #[.int .i64 0, .agg #[.int .i64 3, .int .i64 (-2)]]) (by simp [results, Try.results19, go_sem, r0, r1]) rfl ⟨rfl, ?_⟩
  exact ((Y3.setCell (p := ⟨w.heap.size, 0, none⟩) (by simp) _).setCell (p := ⟨w.heap.size, 1, none⟩) (by simp) _)
set_option maxRecDepth 100000 in
set_option maxHeartbeats 1600000 in
theorem dworth_ok {A : Option Addr} {n c : Nat} {xs : List SItem} {B : Option Addr} {m k : Nat} {dd : List Nat} {w : World} (h : RdSS w A n c xs) (hd : Rd w B m k (bcells dd)) (hl : m ≤ 512) (hok : SamOk xs) :
    Calls Try.prog 19 #[.slice A n c, .slice B m k] w fun e w' => (e = .returned (.tuple #[.int .i64 (wsum dd xs), .agg #[.int .i64 0, .int .i64 0]]) ∧ 0 ≤ wsum dd xs) ∧ Below w.heap.size w w' := by
  have hF : SFault xs (-1) 0 0 := .inr (.inr ⟨hok, rfl, rfl⟩)
  have hn := h.1
  have hcap := h.2.1
  have hcm := h.2.2.1
  unfold maxLen at hcm
  obtain rfl := hn
  have hfew := hok.few
  have HOK := Lib.hid hok
  clear hok
  have hdn := hd.len
  rw [bcells_length] at hdn
  have hdc := Reads.cap hd
  have hdm := Reads.capMax hd
  unfold maxLen at hdm
  have M0 := Two.new w 25 (.int .i64 0) (.int .i64 0)
  have Y0 := (Below.refl w.heap.size w).alloc (Nat.le_refl _) (.cells #[.int .i64 0, .int .i64 0] 25)
  have R0 := h.alloc (.cells #[.int .i64 0, .int .i64 0] 25)
  have D0 := hd.alloc (.cells #[.int .i64 0, .int .i64 0] 25)
  have kl : decide ((512 : Int) < (m : Int)) = false := by simp; omega
  go_enter Try.func19, Try.ntmps19
  go_wp2_with fail
  refine (dicheck_any R0 (-1) _ _ hF).mono ?_
  rintro e w1 ⟨rfl, y1⟩
  have M1 := (M0.on y1).alloc (.cells #[.int .i64 0, .int .i64 0] 25)
  have F1 := Two.new w1 25 (.int .i64 0) (.int .i64 0)
  have Y1 := (Y0.trans (y1.mono Y0.size)).alloc (Y0.trans (y1.mono Y0.size)).size (.cells #[.int .i64 0, .int .i64 0] 25)
  have R1 := (R0.on y1).alloc (.cells #[.int .i64 0, .int .i64 0] 25)
  have D1 := (D0.on y1).alloc (.cells #[.int .i64 0, .int .i64 0] 25)
  have m0 := M1.c0
  have m1 := M1.c1
  have m2 := M1.f0
  have m3 := M1.f1
  have f0 := F1.c0
  have f1 := F1.c1
  have hsz := (Y0.trans (y1.mono Y0.size)).size
  have hszm := (M0.on y1).lt
  clear M0 Y0 R0 y1
  obtain ⟨W, hW⟩ : ∃ W, W = w1.alloc (.cells #[.int .i64 0, .int .i64 0] 25) := ⟨_, rfl⟩
  rw [← hW] at M1 F1 Y1 R1 D1 m0 m1 m2 m3 f0 f1
  clear hF
  have HW0 := Lib.hid M1.lt
  go_upto_region 4 with (fail)
  rw [← hW]
  clear hW
  have HM1 := Lib.hid M1
  have HY1 := Lib.hid Y1
  have HR1 := Lib.hid R1
  have HD1 := Lib.hid D1
  clear M1 Y1 m0 m1 m2 m3 f0 f1 F1 R1 D0 D1
  go_wp2_with fail
  go_loopw [8, 23] (fun nv iv wr => ∃ (k : Nat) (N : Int), k ≤ xs.length ∧ iv = .int .i64 (k : Nat) ∧ nv = .int .i64 N ∧ N = wsum dd (xs.take k) ∧ 0 ≤ N ∧ N ≤ 9216 * k ∧ Below W.heap.size W wr) (fun _ iv _ => xs.length - (intOf iv).toNat)
  case atStart => exact ⟨0, 0, Nat.zero_le _, rfl, rfl, rfl, by omega, by omega, Below.refl _ _⟩
  case round =>
    obtain ⟨k, N, hk, rfl, rfl, hN, hN0, hNb, yr⟩ := hrel
    have HN := Lib.hid hN
    have HYR := Lib.hid yr
    clear hN yr
    by_cases hlt : k < xs.length
    · obtain ⟨b, off, rfl, hb, q1, RX⟩ := (HR1.out.on HYR.out).at k hlt
      obtain ⟨x, hx⟩ : ∃ x, x = xs[k] := ⟨_, rfl⟩
      have hsh : x.d.length ≤ 1024 := by rw [hx]; exact HOK.out.short _ (List.getElem_mem hlt)
      have HWS := Lib.hid (wsum_take_succ dd xs k hlt)
      rw [← hx] at q1 RX HWS
      have hxl : x.d.length = x.n := by have := RX.len; rwa [bcells_length] at this
      obtain ⟨xA, xn, xc, xd⟩ := x
      dsimp only at q1 RX hxl hsh HWS
      have c1 := mc_le (s := xd) (dict := []) hsh (by simp)
      have c2 := mc_le (s := xd) (dict := dd) hsh (by omega)
      have hnil : Rd wr none 0 0 (bcells []) := Reads.nil _ _ none 0 (Nat.zero_le _)
      obtain ⟨C1, hC1⟩ : ∃ C1, C1 = mc xd [] := ⟨_, rfl⟩
      have HC1 := Lib.hid (wcost_any RX hnil (by omega) (by decide) hC1.symm)
      have HRX := Lib.hid RX
      clear hnil
      obtain ⟨C2, hC2⟩ : ∃ C2, C2 = mc xd dd := ⟨_, rfl⟩
      rw [← hC1] at HWS c1
      rw [← hC2] at HWS c2
      have H1 := Lib.hid hC1
      have H2 := Lib.hid hC2
      clear hx RX hC1 hC2
      go_wp2_with fail
      refine HC1.out.mono ?_
      rintro e w4 ⟨rfl, ⟨ts1, hp1⟩, y4⟩
      have HC2 := Lib.hid (wcost_any (HRX.out.on y4) ((HD1.out.on HYR.out).on y4) (by omega) (by omega) H2.out.symm)
      have HP1 := Lib.hid hp1
      have HY4 := Lib.hid (HYR.out.trans (y4.mono HYR.out.size))
      clear hp1 y4
      go_wp2_with fail
      refine HC2.out.mono ?_
      rintro e w5 ⟨rfl, ⟨ts2, hp2⟩, y5⟩
      have hle : C2 ≤ C1 := by rw [H1.out, H2.out]; exact mc_less HP1.out hp2 hsh (by omega)
      have HY5 := Lib.hid (HY4.out.trans (y5.mono HY4.out.size))
      clear hp2 y5
      go_wp2_with fail
      go_roundw
      case rel => exact ⟨k + 1, N + ((C1 : Int) - (C2 : Int)), by omega, by go_num, by go_num, by rw [HWS.out, ← HN.out], by omega, by omega, HY5.out⟩
      case measure => simp [intOf] <;> omega
    · obtain rfl : k = xs.length := by omega
      have HN2 := Lib.hid (show N = wsum dd xs by rw [HN.out, List.take_of_length_le (Nat.le_refl _)])
      have M3 := HM1.out.on HYR.out
      have Y3 := HY1.out.trans (HYR.out.mono HY1.out.size)
      have p0 := M3.c0
      have p1 := M3.c1
      have p2 := M3.f0
      have p3 := M3.f1
      go_wp2
      have rr := ((M3.set0 (.int .i64 0)).set1 (.int .i64 0))
      have r0 := rr.c0
      have r1 := rr.c1
      refine bodyPost_ret (v := .tuple #[.int .i64 N, .agg #[.int .i64 0, .int .i64 0]]) (by simp [results, Try.results19, go_sem, r0, r1]) rfl ⟨⟨by rw [HN2.out], by rw [← HN2.out]; exact hN0⟩, ?_⟩
      exact ((Y3.setCell (p := ⟨w.heap.size, 0, none⟩) (by simp) _).setCell (p := ⟨w.heap.size, 1, none⟩) (by simp) _)
end PB
end Go.Proofs.Ytnahmiglogddaaa
namespace Go.Proofs.Ytnahmiglogddaaa
open Go.RowKit
attribute [local go_sem ↓] Go.wp_at_zero Go.wp_at_succ
set_option linter.unusedVariables false
set_option linter.unusedSimpArgs false
namespace PB
/-- The package variable that bytes.Contains reads. -/
structure Mx (w : World) (mx : Int) : Prop where
  cell : w.cell? ⟨0, 0, none⟩ = some (.int .i64 mx)
  lt : 0 < w.heap.size
theorem Mx.on {w w' : World} {mx : Int} (h : Mx w mx) (hb : Below w.heap.size w w') : Mx w' mx :=
  ⟨(hb.cell (p := ⟨0, 0, none⟩) h.lt).trans h.cell, Nat.lt_of_lt_of_le h.lt hb.size⟩
theorem Mx.alloc {w : World} {mx : Int} (h : Mx w mx) (o : Obj) : Mx (w.alloc o) mx := h.on ((Below.refl _ _).alloc (Nat.le_refl _) o)
theorem Mx.drew {w : World} {mx : Int} (h : Mx w mx) : Mx w.drew mx := ⟨h.cell, h.lt⟩
theorem Mx.drewN {w : World} {mx : Int} (h : Mx w mx) (q : Nat) : Mx (w.drewN q) mx := ⟨h.cell, h.lt⟩
theorem byteL_of {d : List Nat} (h : d.all (fun b => decide (b < 256)) = true) : ByteL d := fun b hb => by simpa using List.all_eq_true.1 h b hb
theorem ex_segs (xs : List SItem) (hx : samd xs = [[97, 98, 99, 100, 101, 102, 103, 104, 105], [120, 97, 98, 99, 100, 101, 102, 103, 104, 105]]) : Segs (samd xs) [utx [97, 98, 99, 100, 101, 102, 103, 104], utx [98, 99, 100, 101, 102, 103, 104, 105]] := by
  rw [hx]
  constructor
  · simp only [List.pairwise_cons, List.mem_singleton, forall_eq, List.Pairwise.nil, List.not_mem_nil, false_implies, implies_true, and_true]
    right
    decide
  · intro x
    have w1 : wins [97, 98, 99, 100, 101, 102, 103, 104, 105] = [utx [97, 98, 99, 100, 101, 102, 103, 104], utx [98, 99, 100, 101, 102, 103, 104, 105]] := by decide
    have w2 : wins [120, 97, 98, 99, 100, 101, 102, 103, 104, 105] = [utx [120, 97, 98, 99, 100, 101, 102, 103], utx [97, 98, 99, 100, 101, 102, 103, 104], utx [98, 99, 100, 101, 102, 103, 104, 105]] := by decide
    unfold fr
    rw [List.countP_cons, List.countP_cons, List.countP_nil, w2, w1]
    generalize utx [97, 98, 99, 100, 101, 102, 103, 104] = a
    generalize utx [98, 99, 100, 101, 102, 103, 104, 105] = b
    generalize utx [120, 97, 98, 99, 100, 101, 102, 103] = c
    simp only [List.mem_cons, List.not_mem_nil, or_false, decide_eq_true_eq]
    by_cases h : x = a ∨ x = b
    · have h2 : x = c ∨ x = a ∨ x = b := .inr h
      rw [if_pos h2, if_pos h]
      exact ⟨fun _ => by omega, fun _ => h⟩
    · rw [if_neg h]
      exact ⟨fun k => absurd k h, fun k => by split at k <;> omega⟩
theorem ex_traind : traind 512 [utx [97, 98, 99, 100, 101, 102, 103, 104], utx [98, 99, 100, 101, 102, 103, 104, 105]] = [97, 98, 99, 100, 101, 102, 103, 104, 105] := by
  decide +kernel
theorem ex_train {A A1 A2 : Option Addr} {c c1 c2 : Nat} {w : World} {mx : Int} (hm : Mx w mx) (h : RdSS w A 2 c [⟨A1, 9, c1, [97, 98, 99, 100, 101, 102, 103, 104, 105]⟩, ⟨A2, 10, c2, [120, 97, 98, 99, 100, 101, 102, 103, 104, 105]⟩]) :
    Calls Try.prog 8 #[.slice A 2 c, .int .i64 512] w fun e w' => ∃ A' c', e = .returned (.tuple #[.slice A' 9 c', .agg #[.int .i64 0, .int .i64 0]]) ∧ Rd w' A' 9 c' (bcells [97, 98, 99, 100, 101, 102, 103, 104, 105]) ∧ Below w.heap.size w w' := by
  refine (dtrain_ok h ⟨(by decide : 2 ≤ 64), by intro x hx; simp at hx; rcases hx with rfl | rfl <;> simp⟩ hm.cell hm.lt 512 (Nat.le_refl _) 512 rfl).mono ?_
  rintro e w' ⟨A', n', c', l, hS, rfl, ho, hb⟩
  have e1 := hS.unique (ex_segs _ rfl) (fun _ => rfl)
  rw [e1, ex_traind] at ho
  have hr := Rd.own ho
  have hl := hr.len
  rw [bcells_length] at hl
  obtain rfl : n' = 9 := hl.symm
  exact ⟨A', c', rfl, hr, hb⟩
theorem ex_tab1 : Tab gsz ([] ++ [97, 98, 99]) 0 (fun j => [27, 18, 9, 0].getD j 0) (fun _ => 0) (fun _ => 0) := by
  have hc : ∀ j n d, ¬ Cand ([] ++ [97, 98, 99]) j n d := by
    intro j n d ⟨h1, h2, h3, h4⟩
    have := rep_le (all := [] ++ [97, 98, 99]) (i := j) (d := d)
    have : ([] ++ [97, 98, 99] : List Nat).length = 3 := rfl
    omega
  refine ⟨rfl, fun j h1 h2 => ?_⟩
  rcases (by have : ([] ++ [97, 98, 99] : List Nat).length = 3 := rfl; omega : j = 0 ∨ j = 1 ∨ j = 2) with rfl | rfl | rfl
  all_goals exact ⟨.inl ⟨rfl, rfl, rfl⟩, by decide, fun n' d' h _ => absurd h (hc _ _ _)⟩
theorem ex_tab2 : Tab gsz ([97, 98, 99] ++ [97, 98, 99]) 3 (fun j => [0, 0, 0, 5, 18, 9, 0].getD j 0) (fun j => [0, 0, 0, 3, 0, 0].getD j 0) (fun j => [0, 0, 0, 3, 0, 0].getD j 0) := by
  have hc : ∀ j n d, 3 ≤ j → Cand ([97, 98, 99] ++ [97, 98, 99]) j n d → j = 3 ∧ n = 3 ∧ d = 3 := by
    intro j n d h0 ⟨h1, h2, h3, h4⟩
    have := rep_le (all := [97, 98, 99] ++ [97, 98, 99]) (i := j) (d := d)
    have : ([97, 98, 99] ++ [97, 98, 99] : List Nat).length = 6 := rfl
    obtain rfl : j = 3 := by omega
    obtain rfl : n = 3 := by omega
    have r1 : rep ([97, 98, 99] ++ [97, 98, 99]) 3 1 = 0 := by decide
    have r2 : rep ([97, 98, 99] ++ [97, 98, 99]) 3 2 = 0 := by decide
    rcases (by omega : d = 1 ∨ d = 2 ∨ d = 3) with rfl | rfl | rfl
    · omega
    · omega
    · exact ⟨rfl, rfl, rfl⟩
  refine ⟨rfl, fun j h1 h2 => ?_⟩
  rcases (by have : ([97, 98, 99] ++ [97, 98, 99] : List Nat).length = 6 := rfl; omega : j = 3 ∨ j = 4 ∨ j = 5) with rfl | rfl | rfl
  · refine ⟨.inr ⟨⟨by decide, by decide, by decide, by decide⟩, by decide⟩, by decide, fun n' d' h _ => ?_⟩
    obtain ⟨_, rfl, rfl⟩ := hc _ _ _ h1 h
    right
    exact ⟨by decide, .inr ⟨rfl, Nat.le_refl _⟩⟩
  all_goals exact ⟨.inl ⟨rfl, rfl, rfl⟩, by decide, fun n' d' h _ => by have := hc _ _ _ h1 h; omega⟩
theorem ex_cost1 : mc [97, 98, 99] [] = 27 := by
  have hP : PTok [97, 98, 99] [] _ := ⟨_, _, _, ex_tab1, rfl⟩
  rw [← mc_eq hP (by decide) (by decide)]
  decide +kernel
theorem ex_cost2 : mc [97, 98, 99] [97, 98, 99] = 5 := by
  have hP : PTok [97, 98, 99] [97, 98, 99] _ := ⟨_, _, _, ex_tab2, rfl⟩
  rw [← mc_eq hP (by decide) (by decide)]
  decide +kernel
theorem ex_worth {A A1 B : Option Addr} {c c1 k : Nat} {w : World} (h : RdSS w A 1 c [⟨A1, 3, c1, [97, 98, 99]⟩]) (hd : Rd w B 3 k (bcells [97, 98, 99])) :
    Calls Try.prog 19 #[.slice A 1 c, .slice B 3 k] w fun e w' => e = .returned (.tuple #[.int .i64 22, .agg #[.int .i64 0, .int .i64 0]]) ∧ Below w.heap.size w w' := by
  refine (dworth_ok h hd (by decide) ⟨(by decide : 1 ≤ 64), by intro x hx; simp at hx; subst hx; simp⟩).mono ?_
  rintro e w' ⟨⟨rfl, _⟩, hb⟩
  refine ⟨?_, hb⟩
  rw [show wsum [97, 98, 99] [⟨A1, 3, c1, [97, 98, 99]⟩] = 22 by unfold wsum; simp [ex_cost1, ex_cost2]]
theorem segs_nil {l : List Txt} (h : Segs [] l) : l = [] := by
  cases l with
  | nil => rfl
  | cons x r => have := (h.mem x).1 List.mem_cons_self; simp [fr] at this
theorem RdSS.none_ (w : World) : RdSS w none 0 0 [] := ⟨rfl, Nat.le_refl _, by decide, fun h => absurd h (by omega)⟩
theorem ex_next {B : Option Addr} {k : Nat} {w : World} {mx : Int} (hm : Mx w mx) (hd : Rd w B 4 k (bcells [97, 98, 99, 100])) :
    Calls Try.prog 16 #[.slice B 4 k, .slice none 0 0, .int .i64 3] w fun e w' => ∃ A' c', e = .returned (.tuple #[.slice A' 3 c', .agg #[.int .i64 0, .int .i64 0]]) ∧ Rd w' A' 3 c' (bcells [98, 99, 100]) ∧ Below w.heap.size w w' := by
  refine (dnext_ok (RdSS.none_ w) hd hm.cell hm.lt (by decide) ⟨by decide, by intro x hx; cases hx⟩ 3 (by decide) 3 rfl).mono ?_
  rintro e w' ⟨A', n', c', l, hS, rfl, hr, hb⟩
  obtain rfl := segs_nil hS
  have e1 : (([97, 98, 99, 100] ++ traind 3 []).drop (([97, 98, 99, 100] ++ traind 3 []).length - 3)) = [98, 99, 100] := rfl
  rw [e1] at hr
  have hl := hr.len
  rw [bcells_length] at hl
  obtain rfl : n' = 3 := hl.symm
  exact ⟨A', c', rfl, hr, hb⟩
theorem ex_sameq {A : Option Addr} {n c : Nat} {A2 : Option Addr} {n2 c2 : Nat} {d : List Nat} {w : World} (h : Rd w A n c (bcells d)) (h2 : Rd w A2 n2 c2 (bcells d)) (hd : d.all (fun b => decide (b < 256)) = true) :
    Calls Try.prog 14 #[.slice A n c, .slice A2 n2 c2] w fun e w' => e = .returned (.bool true) ∧ w' = w := same_q h h2 (byteL_of hd) (byteL_of hd) true (by simp)
theorem RdSS.one (w : World) {g : Nat} (hg : g = w.heap.size) (t : TypeId) {A1 : Option Addr} {n1 c1 : Nat} {d1 : List Nat} (h1 : Rd w A1 n1 c1 (bcells d1)) :
    RdSS (w.alloc (.cells #[.slice A1 n1 c1] t)) (some ⟨g, 0, none⟩) 1 1 [⟨A1, n1, c1, d1⟩] := by
  subst hg
  refine ⟨rfl, Nat.le_refl _, by decide, fun _ => ⟨w.heap.size, 0, rfl, by simp, fun i x hx => ?_⟩⟩
  have hB := Blk.new w t #[.slice A1 n1 c1]
  match i, hx with
  | 0, hx => obtain rfl : _ = x := by simpa using hx
             exact ⟨by rw [hB.cell]; rfl, h1.alloc _⟩
  | i + 1, hx => simp at hx
theorem RdSS.twoG (w : World) {g : Nat} (hg : g = w.heap.size) (t : TypeId) {A1 A2 : Option Addr} {n1 c1 n2 c2 : Nat} {d1 d2 : List Nat} (h1 : Rd w A1 n1 c1 (bcells d1)) (h2 : Rd w A2 n2 c2 (bcells d2)) :
    RdSS (w.alloc (.cells #[.slice A1 n1 c1, .slice A2 n2 c2] t)) (some ⟨g, 0, none⟩) 2 2 [⟨A1, n1, c1, d1⟩, ⟨A2, n2, c2, d2⟩] := by
  subst hg
  exact RdSS.two w t h1 h2
set_option maxRecDepth 100000 in
set_option maxHeartbeats 3200000 in
theorem trains_true {w : World} {mx : Int} (hm : Mx w mx) :
    Calls Try.prog 12 #[] w fun e w' => e = .returned (.bool true) ∧ Below w.heap.size w w' := by
  have kc := run_conv_g
  have X_0 := hm
  have Z0 := Below.refl w.heap.size w
  go_enter Try.func12, Try.ntmps12
  have X_1 := X_0.alloc (.cells #[.int .u8 97, .int .u8 98, .int .u8 99, .int .u8 100, .int .u8 101, .int .u8 102, .int .u8 103, .int .u8 104, .int .u8 105] 5 (9, 10))
  have D_1 := (show Rd ((w).alloc (.cells #[.int .u8 97, .int .u8 98, .int .u8 99, .int .u8 100, .int .u8 101, .int .u8 102, .int .u8 103, .int .u8 104, .int .u8 105] 5 (9, 10))) (some ⟨w.heap.size, 0, none⟩) 9 9 (bcells [97, 98, 99, 100, 101, 102, 103, 104, 105]) from Rd.litG (w) (by simp) 5 #[.int .u8 97, .int .u8 98, .int .u8 99, .int .u8 100, .int .u8 101, .int .u8 102, .int .u8 103, .int .u8 104, .int .u8 105] (9, 10) 9 rfl (by decide))
  have Z1 := Z0.alloc Z0.size (.cells #[.int .u8 97, .int .u8 98, .int .u8 99, .int .u8 100, .int .u8 101, .int .u8 102, .int .u8 103, .int .u8 104, .int .u8 105] 5 (9, 10))
  have X_2 := X_1.alloc (.cells #[.int .u8 120, .int .u8 97, .int .u8 98, .int .u8 99, .int .u8 100, .int .u8 101, .int .u8 102, .int .u8 103, .int .u8 104, .int .u8 105] 5 (10, 11))
  have D_2 := D_1.alloc (.cells #[.int .u8 120, .int .u8 97, .int .u8 98, .int .u8 99, .int .u8 100, .int .u8 101, .int .u8 102, .int .u8 103, .int .u8 104, .int .u8 105] 5 (10, 11))
  have E_2 := (show Rd (((w).alloc (.cells #[.int .u8 97, .int .u8 98, .int .u8 99, .int .u8 100, .int .u8 101, .int .u8 102, .int .u8 103, .int .u8 104, .int .u8 105] 5 (9, 10))).alloc (.cells #[.int .u8 120, .int .u8 97, .int .u8 98, .int .u8 99, .int .u8 100, .int .u8 101, .int .u8 102, .int .u8 103, .int .u8 104, .int .u8 105] 5 (10, 11))) (some ⟨w.heap.size + 1, 0, none⟩) 10 10 (bcells [120, 97, 98, 99, 100, 101, 102, 103, 104, 105]) from Rd.litG ((w).alloc (.cells #[.int .u8 97, .int .u8 98, .int .u8 99, .int .u8 100, .int .u8 101, .int .u8 102, .int .u8 103, .int .u8 104, .int .u8 105] 5 (9, 10))) (by simp) 5 #[.int .u8 120, .int .u8 97, .int .u8 98, .int .u8 99, .int .u8 100, .int .u8 101, .int .u8 102, .int .u8 103, .int .u8 104, .int .u8 105] (10, 11) 10 rfl (by decide))
  have Z2 := Z1.alloc Z1.size (.cells #[.int .u8 120, .int .u8 97, .int .u8 98, .int .u8 99, .int .u8 100, .int .u8 101, .int .u8 102, .int .u8 103, .int .u8 104, .int .u8 105] 5 (10, 11))
  have X_3 := X_2.alloc (.cells #[.slice (some ⟨w.heap.size, 0, none⟩) 9 9, .slice (some ⟨w.heap.size + 1, 0, none⟩) 10 10] 23)
  have D_3 := D_2.alloc (.cells #[.slice (some ⟨w.heap.size, 0, none⟩) 9 9, .slice (some ⟨w.heap.size + 1, 0, none⟩) 10 10] 23)
  have E_3 := E_2.alloc (.cells #[.slice (some ⟨w.heap.size, 0, none⟩) 9 9, .slice (some ⟨w.heap.size + 1, 0, none⟩) 10 10] 23)
  have S_3 := RdSS.twoG (((w).alloc (.cells #[.int .u8 97, .int .u8 98, .int .u8 99, .int .u8 100, .int .u8 101, .int .u8 102, .int .u8 103, .int .u8 104, .int .u8 105] 5 (9, 10))).alloc (.cells #[.int .u8 120, .int .u8 97, .int .u8 98, .int .u8 99, .int .u8 100, .int .u8 101, .int .u8 102, .int .u8 103, .int .u8 104, .int .u8 105] 5 (10, 11))) (g := w.heap.size + 1 + 1) (by simp) 23 D_2 E_2
  have Z3 := Z2.alloc Z2.size (.cells #[.slice (some ⟨w.heap.size, 0, none⟩) 9 9, .slice (some ⟨w.heap.size + 1, 0, none⟩) 10 10] 23)
  go_wp2_with fail
  refine (ex_train X_3 S_3).mono ?_
  rintro e w4 ⟨A1, c1, rfl, P1, y4⟩
  have X_4 := (X_3.on y4).alloc (.cells #[.int .i64 0, .int .i64 0] 25)
  have P_4 := (P1).alloc (.cells #[.int .i64 0, .int .i64 0] 25)
  have F_4 := (Two.new w4 25 (.int .i64 0) (.int .i64 0))
  clear X_0 X_1 D_1 X_2 D_2 E_2 X_3 D_3 E_3 S_3
  have z4 := Z3.trans (y4.mono Z3.size)
  have Z4 := (z4).alloc (by have := z4.size; omega) (.cells #[.int .i64 0, .int .i64 0] 25)
  have F_4_c0 := F_4.c0
  have F_4_c1 := F_4.c1
  have X_5 := X_4.alloc (.cells #[.int .u8 97, .int .u8 98, .int .u8 99] 5 (3, 4))
  have P_5 := P_4.alloc (.cells #[.int .u8 97, .int .u8 98, .int .u8 99] 5 (3, 4))
  have F_5 := F_4.alloc (.cells #[.int .u8 97, .int .u8 98, .int .u8 99] 5 (3, 4))
  have D_5 := (show Rd (((w4).alloc (.cells #[.int .i64 0, .int .i64 0] 25)).alloc (.cells #[.int .u8 97, .int .u8 98, .int .u8 99] 5 (3, 4))) (some ⟨w4.heap.size + 1, 0, none⟩) 3 3 (bcells [97, 98, 99]) from Rd.litG ((w4).alloc (.cells #[.int .i64 0, .int .i64 0] 25)) (by simp) 5 #[.int .u8 97, .int .u8 98, .int .u8 99] (3, 4) 3 rfl (by decide))
  have Z5 := Z4.alloc Z4.size (.cells #[.int .u8 97, .int .u8 98, .int .u8 99] 5 (3, 4))
  have F_5_c0 := F_5.c0
  have F_5_c1 := F_5.c1
  have X_6 := X_5.alloc (.cells #[.slice (some ⟨w4.heap.size + 1, 0, none⟩) 3 3] 23)
  have P_6 := P_5.alloc (.cells #[.slice (some ⟨w4.heap.size + 1, 0, none⟩) 3 3] 23)
  have F_6 := F_5.alloc (.cells #[.slice (some ⟨w4.heap.size + 1, 0, none⟩) 3 3] 23)
  have D_6 := D_5.alloc (.cells #[.slice (some ⟨w4.heap.size + 1, 0, none⟩) 3 3] 23)
  have S_6 := RdSS.one (((w4).alloc (.cells #[.int .i64 0, .int .i64 0] 25)).alloc (.cells #[.int .u8 97, .int .u8 98, .int .u8 99] 5 (3, 4))) (g := w4.heap.size + 1 + 1) (by simp) 23 D_5
  have Z6 := Z5.alloc Z5.size (.cells #[.slice (some ⟨w4.heap.size + 1, 0, none⟩) 3 3] 23)
  have F_6_c0 := F_6.c0
  have F_6_c1 := F_6.c1
  have X_7 := X_6.alloc (.cells #[.int .u8 97, .int .u8 98, .int .u8 99] 5 (3, 4))
  have P_7 := P_6.alloc (.cells #[.int .u8 97, .int .u8 98, .int .u8 99] 5 (3, 4))
  have F_7 := F_6.alloc (.cells #[.int .u8 97, .int .u8 98, .int .u8 99] 5 (3, 4))
  have D_7 := D_6.alloc (.cells #[.int .u8 97, .int .u8 98, .int .u8 99] 5 (3, 4))
  have S_7 := S_6.alloc (.cells #[.int .u8 97, .int .u8 98, .int .u8 99] 5 (3, 4))
  have E_7 := (show Rd (((((w4).alloc (.cells #[.int .i64 0, .int .i64 0] 25)).alloc (.cells #[.int .u8 97, .int .u8 98, .int .u8 99] 5 (3, 4))).alloc (.cells #[.slice (some ⟨w4.heap.size + 1, 0, none⟩) 3 3] 23)).alloc (.cells #[.int .u8 97, .int .u8 98, .int .u8 99] 5 (3, 4))) (some ⟨w4.heap.size + 1 + 1 + 1, 0, none⟩) 3 3 (bcells [97, 98, 99]) from Rd.litG ((((w4).alloc (.cells #[.int .i64 0, .int .i64 0] 25)).alloc (.cells #[.int .u8 97, .int .u8 98, .int .u8 99] 5 (3, 4))).alloc (.cells #[.slice (some ⟨w4.heap.size + 1, 0, none⟩) 3 3] 23)) (by simp) 5 #[.int .u8 97, .int .u8 98, .int .u8 99] (3, 4) 3 rfl (by decide))
  have Z7 := Z6.alloc Z6.size (.cells #[.int .u8 97, .int .u8 98, .int .u8 99] 5 (3, 4))
  have F_7_c0 := F_7.c0
  have F_7_c1 := F_7.c1
  go_wp2_with fail
  refine (ex_worth S_7 E_7).mono ?_
  rintro e w8 ⟨rfl, y8⟩
  have X_8 := (X_7.on y8).alloc (.cells #[.int .i64 0, .int .i64 0] 25)
  have P_8 := (P_7.on y8).alloc (.cells #[.int .i64 0, .int .i64 0] 25)
  have F_8 := (F_7.on y8).alloc (.cells #[.int .i64 0, .int .i64 0] 25)
  have G_8 := (Two.new w8 25 (.int .i64 0) (.int .i64 0))
  clear X_4 P_4 F_4 F_4_c0 F_4_c1 X_5 P_5 F_5 F_5_c0 F_5_c1 D_5 X_6 P_6 F_6 F_6_c0 F_6_c1 D_6 S_6 X_7 P_7 F_7 F_7_c0 F_7_c1 D_7 S_7 E_7
  have z8 := Z7.trans (y8.mono Z7.size)
  have Z8 := (z8).alloc (by have := z8.size; omega) (.cells #[.int .i64 0, .int .i64 0] 25)
  have F_8_c0 := F_8.c0
  have F_8_c1 := F_8.c1
  have G_8_c0 := G_8.c0
  have G_8_c1 := G_8.c1
  have X_9 := X_8.alloc (.cells #[.int .u8 97, .int .u8 98, .int .u8 99, .int .u8 100] 5 (4, 5))
  have P_9 := P_8.alloc (.cells #[.int .u8 97, .int .u8 98, .int .u8 99, .int .u8 100] 5 (4, 5))
  have F_9 := F_8.alloc (.cells #[.int .u8 97, .int .u8 98, .int .u8 99, .int .u8 100] 5 (4, 5))
  have G_9 := G_8.alloc (.cells #[.int .u8 97, .int .u8 98, .int .u8 99, .int .u8 100] 5 (4, 5))
  have D_9 := (show Rd (((w8).alloc (.cells #[.int .i64 0, .int .i64 0] 25)).alloc (.cells #[.int .u8 97, .int .u8 98, .int .u8 99, .int .u8 100] 5 (4, 5))) (some ⟨w8.heap.size + 1, 0, none⟩) 4 4 (bcells [97, 98, 99, 100]) from Rd.litG ((w8).alloc (.cells #[.int .i64 0, .int .i64 0] 25)) (by simp) 5 #[.int .u8 97, .int .u8 98, .int .u8 99, .int .u8 100] (4, 5) 4 rfl (by decide))
  have Z9 := Z8.alloc Z8.size (.cells #[.int .u8 97, .int .u8 98, .int .u8 99, .int .u8 100] 5 (4, 5))
  have F_9_c0 := F_9.c0
  have F_9_c1 := F_9.c1
  have G_9_c0 := G_9.c0
  have G_9_c1 := G_9.c1
  go_wp2_with fail
  refine (ex_next X_9 D_9).mono ?_
  rintro e w10 ⟨A3, c3, rfl, Q1, y10⟩
  have X_10 := (X_9.on y10).alloc (.cells #[.int .i64 0, .int .i64 0] 25)
  have P_10 := (P_9.on y10).alloc (.cells #[.int .i64 0, .int .i64 0] 25)
  have F_10 := (F_9.on y10).alloc (.cells #[.int .i64 0, .int .i64 0] 25)
  have G_10 := (G_9.on y10).alloc (.cells #[.int .i64 0, .int .i64 0] 25)
  have Q_10 := (Q1).alloc (.cells #[.int .i64 0, .int .i64 0] 25)
  have H_10 := (Two.new w10 25 (.int .i64 0) (.int .i64 0))
  clear X_8 P_8 F_8 F_8_c0 F_8_c1 G_8 G_8_c0 G_8_c1 X_9 P_9 F_9 F_9_c0 F_9_c1 G_9 G_9_c0 G_9_c1 D_9
  have z10 := Z9.trans (y10.mono Z9.size)
  have Z10 := (z10).alloc (by have := z10.size; omega) (.cells #[.int .i64 0, .int .i64 0] 25)
  have F_10_c0 := F_10.c0
  have F_10_c1 := F_10.c1
  have G_10_c0 := G_10.c0
  have G_10_c1 := G_10.c1
  have H_10_c0 := H_10.c0
  have H_10_c1 := H_10.c1
  have X_11 := X_10.alloc (.cells #[.int .u8 97, .int .u8 98, .int .u8 99, .int .u8 100, .int .u8 101, .int .u8 102, .int .u8 103, .int .u8 104, .int .u8 105] 5 (9, 10))
  have P_11 := P_10.alloc (.cells #[.int .u8 97, .int .u8 98, .int .u8 99, .int .u8 100, .int .u8 101, .int .u8 102, .int .u8 103, .int .u8 104, .int .u8 105] 5 (9, 10))
  have F_11 := F_10.alloc (.cells #[.int .u8 97, .int .u8 98, .int .u8 99, .int .u8 100, .int .u8 101, .int .u8 102, .int .u8 103, .int .u8 104, .int .u8 105] 5 (9, 10))
  have G_11 := G_10.alloc (.cells #[.int .u8 97, .int .u8 98, .int .u8 99, .int .u8 100, .int .u8 101, .int .u8 102, .int .u8 103, .int .u8 104, .int .u8 105] 5 (9, 10))
  have Q_11 := Q_10.alloc (.cells #[.int .u8 97, .int .u8 98, .int .u8 99, .int .u8 100, .int .u8 101, .int .u8 102, .int .u8 103, .int .u8 104, .int .u8 105] 5 (9, 10))
  have H_11 := H_10.alloc (.cells #[.int .u8 97, .int .u8 98, .int .u8 99, .int .u8 100, .int .u8 101, .int .u8 102, .int .u8 103, .int .u8 104, .int .u8 105] 5 (9, 10))
  have D_11 := (show Rd (((w10).alloc (.cells #[.int .i64 0, .int .i64 0] 25)).alloc (.cells #[.int .u8 97, .int .u8 98, .int .u8 99, .int .u8 100, .int .u8 101, .int .u8 102, .int .u8 103, .int .u8 104, .int .u8 105] 5 (9, 10))) (some ⟨w10.heap.size + 1, 0, none⟩) 9 9 (bcells [97, 98, 99, 100, 101, 102, 103, 104, 105]) from Rd.litG ((w10).alloc (.cells #[.int .i64 0, .int .i64 0] 25)) (by simp) 5 #[.int .u8 97, .int .u8 98, .int .u8 99, .int .u8 100, .int .u8 101, .int .u8 102, .int .u8 103, .int .u8 104, .int .u8 105] (9, 10) 9 rfl (by decide))
  have Z11 := Z10.alloc Z10.size (.cells #[.int .u8 97, .int .u8 98, .int .u8 99, .int .u8 100, .int .u8 101, .int .u8 102, .int .u8 103, .int .u8 104, .int .u8 105] 5 (9, 10))
  have F_11_c0 := F_11.c0
  have F_11_c1 := F_11.c1
  have G_11_c0 := G_11.c0
  have G_11_c1 := G_11.c1
  have H_11_c0 := H_11.c0
  have H_11_c1 := H_11.c1
  go_wp2_with fail
  refine (ex_sameq P_11 D_11 rfl).mono ?_
  rintro e w9_1 ⟨rfl, rfl⟩
  have X_12 := X_11.alloc (.cells #[.int .u8 98, .int .u8 99, .int .u8 100] 5 (3, 4))
  have P_12 := P_11.alloc (.cells #[.int .u8 98, .int .u8 99, .int .u8 100] 5 (3, 4))
  have F_12 := F_11.alloc (.cells #[.int .u8 98, .int .u8 99, .int .u8 100] 5 (3, 4))
  have G_12 := G_11.alloc (.cells #[.int .u8 98, .int .u8 99, .int .u8 100] 5 (3, 4))
  have Q_12 := Q_11.alloc (.cells #[.int .u8 98, .int .u8 99, .int .u8 100] 5 (3, 4))
  have H_12 := H_11.alloc (.cells #[.int .u8 98, .int .u8 99, .int .u8 100] 5 (3, 4))
  have D_12 := D_11.alloc (.cells #[.int .u8 98, .int .u8 99, .int .u8 100] 5 (3, 4))
  have E_12 := (show Rd ((((w10).alloc (.cells #[.int .i64 0, .int .i64 0] 25)).alloc (.cells #[.int .u8 97, .int .u8 98, .int .u8 99, .int .u8 100, .int .u8 101, .int .u8 102, .int .u8 103, .int .u8 104, .int .u8 105] 5 (9, 10))).alloc (.cells #[.int .u8 98, .int .u8 99, .int .u8 100] 5 (3, 4))) (some ⟨w10.heap.size + 1 + 1, 0, none⟩) 3 3 (bcells [98, 99, 100]) from Rd.litG (((w10).alloc (.cells #[.int .i64 0, .int .i64 0] 25)).alloc (.cells #[.int .u8 97, .int .u8 98, .int .u8 99, .int .u8 100, .int .u8 101, .int .u8 102, .int .u8 103, .int .u8 104, .int .u8 105] 5 (9, 10))) (by simp) 5 #[.int .u8 98, .int .u8 99, .int .u8 100] (3, 4) 3 rfl (by decide))
  have Z12 := Z11.alloc Z11.size (.cells #[.int .u8 98, .int .u8 99, .int .u8 100] 5 (3, 4))
  have F_12_c0 := F_12.c0
  have F_12_c1 := F_12.c1
  have G_12_c0 := G_12.c0
  have G_12_c1 := G_12.c1
  have H_12_c0 := H_12.c0
  have H_12_c1 := H_12.c1
  go_wp2_with fail
  refine (ex_sameq Q_12 E_12 rfl).mono ?_
  rintro e w9_2 ⟨rfl, rfl⟩
  go_wp2
  go_ret
  exact ⟨rfl, Z12⟩
end PB
end Go.Proofs.Ytnahmiglogddaaa
namespace Go.Proofs.Ytnahmiglogddaaa
open Go.ChangeShapes Go.WideShapes Go.ChangeAt Go.RowKit Go.Deep
set_option linter.unusedVariables false
set_option linter.unusedSimpArgs false
namespace PB
theorem mx_of_shaped {w : World} (h : w.ShapedOpen Try.prog) : ∃ mx, Mx w mx := by
  obtain ⟨m, hm⟩ := Try.laysM186.s1_3 w h
  exact ⟨m, hm, World.block_lt_of_cell? _ _ hm⟩
section
variable {H : Type} {enc : TypeId × Value → H} {w : World} {base : Nat} {spare : Nat → Bool} {held : Bool}
set_option maxRecDepth 100000 in
/-- An argument of type [][]byte. -/
theorem open_bss {r : Reach} {b0 : Nat} {v : Value} {d : DataW H} {p : List MemPlace} (hv : Value.okWide Try.prog w r b0 22 v) (h : DataW.Trod enc Try.prog w base spare held 22 v d p) :
    ∃ (A : Option Addr) (n c : Nat) (xs : List SItem), v = .slice A n c ∧ RdSS w A n c xs ∧ ∀ x ∈ xs, ByteL x.d := by
  obtain ⟨fuel, hf⟩ := h
  obtain ⟨A, n, c, rfl⟩ := okWide_slice Try.underlying22 hv
  rcases open_slice1 Try.underlying22 (by kernel_rfl) hf with ⟨hcs, _⟩ | ⟨a, len, cap, m, k, V, D, Pl, hcs, _, hl, hm, hmm, _, hi⟩
  · cases hcs
    exact ⟨none, 0, 0, [], rfl, ⟨rfl, Nat.le_refl _, by decide, fun h => absurd h (by omega)⟩, by simp⟩
  · cases hcs
    have hlm : n ≤ m := by rw [hmm]; split <;> omega
    have hit : ∀ i, i < n → ∃ x : SItem, (w.cell? (a.add i) = some (.slice x.A x.n x.c) ∧ Rd w x.A x.n x.c (bcells x.d)) ∧ ByteL x.d := by
      intro i hlt
      obtain ⟨c0, t0⟩ := hi i (by omega)
      obtain ⟨v0, hv0⟩ : ∃ v, v = V i := ⟨_, rfl⟩
      rw [← hv0] at c0 t0
      obtain ⟨A', n', c', zs, e1, hr, hw⟩ := rd_of_ints Try.underlying23 Try.underlying5 (by kernel_rfl) (by
        rcases DataW.trod_slice Try.underlying23 t0 with ⟨hcs, _⟩ | ⟨a, len, cap, elems, rest, n, _, hcs, _⟩
        · cases hcs; exact ⟨_, _, _, rfl⟩
        · cases hcs; exact ⟨_, _, _, rfl⟩) t0
      obtain ⟨bs, hb, hlt⟩ := bytes_of_wf zs hw
      rw [hb] at hr
      rw [e1] at c0
      exact ⟨⟨A', n', c', bs⟩, ⟨c0, hr⟩, ByteL.of_getD hlt⟩
    obtain ⟨xs, h1, h2⟩ := list_of_ex n hit
    refine ⟨some a, n, c, xs, rfl, ⟨h1, hl, hm, fun h0 => ?_⟩, fun x hx => ?_⟩
    · obtain ⟨x0, hx0⟩ : ∃ x0, xs[0]? = some x0 := ⟨xs[0]'(by omega), List.getElem?_eq_getElem (by omega)⟩
      have h00 := (h2 0 x0 hx0).1.1
      obtain ⟨b, off, spot⟩ := a
      have hspot : spot = none := by simpa [Addr.add] using World.cell?_spot h00
      subst hspot
      have hadd : ∀ j, (⟨b, off, none⟩ : Addr).add j = ⟨b, off + j, none⟩ := by
        intro j
        unfold Addr.add
        by_cases hj : j = 0 <;> simp [hj]
      refine ⟨b, off, rfl, ?_, fun i x hx => ?_⟩
      · have := World.block_lt_of_cell? _ _ h00
        simpa [hadd] using this
      · obtain ⟨⟨g1, g2⟩, _⟩ := h2 i x hx
        rw [hadd] at g1
        exact ⟨g1, g2⟩
    · obtain ⟨i, hi, rfl⟩ := List.mem_iff_getElem.1 hx
      exact (h2 i _ (List.getElem?_eq_getElem hi)).2
end
end PB
end Go.Proofs.Ytnahmiglogddaaa
