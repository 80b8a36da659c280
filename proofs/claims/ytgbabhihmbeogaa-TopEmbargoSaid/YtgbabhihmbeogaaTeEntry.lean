/-
  catalogue.checkEntry: some code for every entry; none for the entry of the closed example; where there is none, the embargo is not negative.
-/
import Derived.Test.YtgbabhihmbeogaaTeChk
namespace Go.Proofs.Ytgbabhihmbeogaa
open Go.RowKit
attribute [local go_sem ↓] Go.wp_at_zero Go.wp_at_succ
set_option linter.unusedVariables false
set_option linter.unusedSimpArgs false
namespace PB
theorem neq_fault (c i c2 i2 : Int) (h : ¬ (c = c2 ∧ i = i2)) (W : World) : (binOp .neq 29 (.agg #[.int .i64 c, .int .i64 i]) (.agg #[.int .i64 c2, .int .i64 i2])).run Try.prog W = .ok (.bool true) W := by
  by_cases h1 : c = c2
  · subst h1
    have h3 : ¬ i = i2 := fun e => h ⟨rfl, e⟩
    go_simp
  · go_simp
/-- The entry of the closed example. -/
structure Ent.Exm (e : Ent) : Prop where
  name : e.name = ⟨#[97]⟩
  ver : e.ver = 1
  kind : e.kind = 0
  day : e.day = 1
  size : e.size = 0
  sN : e.sN = 0
  gN : e.gN = 0
  emb0 : 0 ≤ e.emb
  emb1 : e.emb ≤ 3652059
  need : e.need = 0
  keep : e.keep = 0
  cz : e.cz = 0
  pN : e.pN = 0
theorem ecellsx {w W : World} {s : Nat} {e : Ent} {xs : Array Value} (hx : xs = e.cs.toArray) (h : Blk w s 39 xs) (he : e.Is W) :
    w.cell? ⟨s, 0, none⟩ = some (.string e.name) ∧ w.cell? ⟨s, 1, none⟩ = some (.int .i64 e.ver) ∧ w.cell? ⟨s, 2, none⟩ = some (.int .i64 e.kind) ∧ w.cell? ⟨s, 3, none⟩ = some (.int .i64 e.day) ∧ w.cell? ⟨s, 4, none⟩ = some (.int .i64 e.size) ∧
    w.cell? ⟨s, 37, none⟩ = some (.slice e.sA e.sN e.sC) ∧ w.cell? ⟨s, 38, none⟩ = some (.slice e.gA e.gN e.gC) ∧ w.cell? ⟨s, 39, none⟩ = some (.int .i64 e.emb) ∧ w.cell? ⟨s, 40, none⟩ = some (.int .i64 e.need) ∧ w.cell? ⟨s, 41, none⟩ = some (.int .i64 e.keep) ∧
    w.cell? ⟨s, 42, none⟩ = some (.int .i64 e.cz) ∧ w.cell? ⟨s, 75, none⟩ = some (.slice e.pA e.pN e.pC) := by
  subst hx
  exact ecells h he
/-- The manifest of an entry. -/
def Ent.man (e : Ent) : List Value := (e.cs.drop 42).take 34
theorem man_len {e : Ent} {w : World} (h : e.Is w) : e.man.length = 34 := by
  unfold Ent.man
  rw [List.length_take, List.length_drop, h.len]
  rfl
theorem man_0 {e : Ent} {w : World} (h : e.Is w) : e.man[0]? = some (.int .i64 e.cz) := by
  unfold Ent.man
  rw [List.getElem?_take, if_pos (by decide), List.getElem?_drop]
  exact h.c42
theorem man_33 {e : Ent} {w : World} (h : e.Is w) : e.man[33]? = some (.slice e.pA e.pN e.pC) := by
  unfold Ent.man
  rw [List.getElem?_take, if_pos (by decide), List.getElem?_drop]
  exact h.c75
theorem man_of {w W : World} {s : Nat} {e : Ent} {xs : Array Value} (hx : xs = e.cs.toArray) (h : Blk w s 39 xs) (he : e.Is W) :
    (Instr.loadAt 37 (.pointer (some ⟨s, 42, none⟩))).run Try.prog w = .ok (.agg e.man.toArray) w := by
  subst hx
  exact man_load (Blk.range h 42 34) (man_len he)
theorem lcellx {w : World} {s : Nat} {e : Ent} {xs : Array Value} (hx : xs = e.cs.toArray) (h : Blk w s 39 xs) (i : Nat) {v : Value} (hv : e.cs[i]? = some v) : w.cell? ⟨s, i, none⟩ = some v := by
  subst hx
  exact h.lcell i hv
theorem name_ok : nameb ⟨#[97]⟩ = true := by decide +kernel
set_option maxRecDepth 100000 in
set_option maxHeartbeats 6400000 in
theorem entry_any {e : Ent} {w : World} (he : e.Is w) {A : Option Addr} {n c : Nat} {es : List Ent} (h : RdE w A n c es) :
    Calls Try.prog 21 #[.agg e.cs.toArray, .slice A n c] w fun r w' => ∃ code : Int, ((e.Exm → n = 0 → code = 0) ∧ (code = 0 → 0 ≤ e.emb)) ∧ r = .returned (.int .i64 code) ∧ Below w.heap.size w w' := by
  have S0 := Blk.new w 39 e.cs.toArray
  have Y0 := (Below.refl w.heap.size w).alloc (Nat.le_refl _) (.cells e.cs.toArray 39)
  have HE0 := Lib.hid (he.alloc (.cells e.cs.toArray 39))
  have HR0 := Lib.hid (h.alloc (.cells e.cs.toArray 39))
  have HL := Lib.hid he.len
  have HS0 := Lib.hid S0
  have HY0 := Lib.hid Y0
  clear he h S0 Y0
  obtain ⟨s, hs⟩ : ∃ s, s = w.heap.size := ⟨_, rfl⟩
  have HS00 := Lib.hid HS0.out
  rw [← hs] at HS0
  have HSZ := Lib.hid hs
  obtain ⟨p0, p1, p2, p3, p4, p37, p38, p39, p40, p41, p42, p75⟩ := ecells HS00.out HE0.out
  have HNM := Lib.hid (name_any e.name (w.alloc (.cells e.cs.toArray 39)) (nameb e.name) rfl)
  obtain ⟨nb, hnb⟩ : ∃ nb, nb = nameb e.name := ⟨_, rfl⟩
  rw [← hnb] at HNM
  have HNB := Lib.hid hnb
  clear hnb
  obtain ⟨xs, hxs⟩ : ∃ xs, xs = e.cs.toArray := ⟨_, rfl⟩
  have hsz : xs.size = 76 := by rw [hxs]; simpa using HL.out
  rw [← hxs] at p0 p1 p2 p3 p4 p37 p38 p39 p40 p41 p42 p75 HNM HS0 HE0 HR0 HY0 HS00 ⊢
  have HXS := Lib.hid hxs
  clear hxs
  go_enter Try.func21, Try.ntmps21
  go_wp2_with fail
  refine HNM.out.mono ?_
  rintro r w1 ⟨rfl, y⟩
  rw [← hs]
  clear hs HS00 HNM
  clear p0 p1 p2 p3 p4 p37 p38 p39 p40 p41 p42 p75
  have HS1 := Lib.hid (Blk.on HS0.out y)
  have HE1 := Lib.hid (HE0.out.on y)
  have HR1 := Lib.hid (HR0.out.on y)
  have HY1 := Lib.hid (HY0.out.trans (y.mono HY0.out.size))
  clear y
  obtain ⟨p0, p1, p2, p3, p4, p37, p38, p39, p40, p41, p42, p75⟩ := ecellsx HXS.out HS1.out HE1.out
  cases nb
  · skip
    go_wp2
    go_ret
    exact ⟨7, ⟨fun h _ => absurd HNB.out (by rw [h.name, name_ok]; decide), fun h => by cases h⟩, rfl, HY1.out⟩
  · skip
    have HIN := Lib.hid (cin_any e.ver (1) (9999) _ rfl w1)
    obtain ⟨q, hq⟩ : ∃ q, q = decide ((1) ≤ e.ver ∧ e.ver ≤ (9999)) := ⟨_, rfl⟩
    rw [← hq] at HIN
    have HQa := Lib.hid hq
    clear hq
    go_wp2_with fail
    refine HIN.out.mono ?_
    rintro r w1 ⟨rfl, rfl⟩
    clear HIN
    cases q
    · skip
      go_wp2
      go_ret
      exact ⟨4, ⟨fun h _ => by have a1 := h.ver; have a2 := h.kind; have a3 := h.day; have a4 := h.size; have a5 := h.emb0; have a6 := h.emb1; have a7 := h.need; have a8 := h.keep; exact absurd HQa.out (by rw [decide_eq_true (by omega)]; decide), fun h => by cases h⟩, rfl, HY1.out⟩
    · skip
      have HIN := Lib.hid (cin_any e.kind (0) (7) _ rfl w1)
      obtain ⟨q, hq⟩ : ∃ q, q = decide ((0) ≤ e.kind ∧ e.kind ≤ (7)) := ⟨_, rfl⟩
      rw [← hq] at HIN
      have HQb := Lib.hid hq
      clear hq
      go_wp2_with fail
      refine HIN.out.mono ?_
      rintro r w1 ⟨rfl, rfl⟩
      clear HIN
      cases q
      · skip
        go_wp2
        go_ret
        exact ⟨5, ⟨fun h _ => by have a1 := h.ver; have a2 := h.kind; have a3 := h.day; have a4 := h.size; have a5 := h.emb0; have a6 := h.emb1; have a7 := h.need; have a8 := h.keep; exact absurd HQb.out (by rw [decide_eq_true (by omega)]; decide), fun h => by cases h⟩, rfl, HY1.out⟩
      · skip
        have HIN := Lib.hid (cin_any e.day (1) (3652059) _ rfl w1)
        obtain ⟨q, hq⟩ : ∃ q, q = decide ((1) ≤ e.day ∧ e.day ≤ (3652059)) := ⟨_, rfl⟩
        rw [← hq] at HIN
        have HQc := Lib.hid hq
        clear hq
        go_wp2_with fail
        refine HIN.out.mono ?_
        rintro r w1 ⟨rfl, rfl⟩
        clear HIN
        cases q
        · skip
          go_wp2
          go_ret
          exact ⟨4, ⟨fun h _ => by have a1 := h.ver; have a2 := h.kind; have a3 := h.day; have a4 := h.size; have a5 := h.emb0; have a6 := h.emb1; have a7 := h.need; have a8 := h.keep; exact absurd HQc.out (by rw [decide_eq_true (by omega)]; decide), fun h => by cases h⟩, rfl, HY1.out⟩
        · skip
          have HIN := Lib.hid (cin_any e.size (0) (1000) _ rfl w1)
          obtain ⟨q, hq⟩ : ∃ q, q = decide ((0) ≤ e.size ∧ e.size ≤ (1000)) := ⟨_, rfl⟩
          rw [← hq] at HIN
          have HQd := Lib.hid hq
          clear hq
          go_wp2_with fail
          refine HIN.out.mono ?_
          rintro r w1 ⟨rfl, rfl⟩
          clear HIN
          cases q
          · skip
            go_wp2
            go_ret
            exact ⟨4, ⟨fun h _ => by have a1 := h.ver; have a2 := h.kind; have a3 := h.day; have a4 := h.size; have a5 := h.emb0; have a6 := h.emb1; have a7 := h.need; have a8 := h.keep; exact absurd HQd.out (by rw [decide_eq_true (by omega)]; decide), fun h => by cases h⟩, rfl, HY1.out⟩
          · skip
            have HIN := Lib.hid (cin_any e.emb (0) (3652059) _ rfl w1)
            obtain ⟨q, hq⟩ : ∃ q, q = decide ((0) ≤ e.emb ∧ e.emb ≤ (3652059)) := ⟨_, rfl⟩
            rw [← hq] at HIN
            have HQe := Lib.hid hq
            clear hq
            go_wp2_with fail
            refine HIN.out.mono ?_
            rintro r w1 ⟨rfl, rfl⟩
            clear HIN
            cases q
            · skip
              go_wp2
              go_ret
              exact ⟨4, ⟨fun h _ => by have a1 := h.ver; have a2 := h.kind; have a3 := h.day; have a4 := h.size; have a5 := h.emb0; have a6 := h.emb1; have a7 := h.need; have a8 := h.keep; exact absurd HQe.out (by rw [decide_eq_true (by omega)]; decide), fun h => by cases h⟩, rfl, HY1.out⟩
            · skip
              have HEMB := Lib.hid (show 0 ≤ e.emb by have := HQe.out; have := of_decide_eq_true this.symm; omega)
              clear HQa HQc HQd HQe
              by_cases hs4 : 4 < e.sN
              · skip
                go_wp2
                go_ret
                exact ⟨2, ⟨fun h _ => by have a1 := h.ver; have a2 := h.kind; have a3 := h.day; have a4 := h.size; have a5 := h.emb0; have a6 := h.emb1; have a7 := h.need; have a8 := h.keep; have a9 := h.sN; have a10 := h.gN; omega, fun h => by cases h⟩, rfl, HY1.out⟩
              by_cases hg4 : 4 < e.gN
              · skip
                go_wp2
                go_ret
                exact ⟨2, ⟨fun h _ => by have a1 := h.ver; have a2 := h.kind; have a3 := h.day; have a4 := h.size; have a5 := h.emb0; have a6 := h.emb1; have a7 := h.need; have a8 := h.keep; have a9 := h.sN; have a10 := h.gN; omega, fun h => by cases h⟩, rfl, HY1.out⟩
              go_wp2_with fail
              refine (sources_any HE1.out.src HE1.out.all).mono ?_
              rintro r w2 ⟨c5, hc5, rfl, y⟩
              clear p0 p1 p2 p3 p4 p37 p38 p39 p40 p41 p42 p75
              have HS2 := Lib.hid (Blk.on HS1.out y)
              have HE2 := Lib.hid (HE1.out.on y)
              have HR2 := Lib.hid (HR1.out.on y)
              have HY2 := Lib.hid (HY1.out.trans (y.mono HY1.out.size))
              clear y
              obtain ⟨p0, p1, p2, p3, p4, p37, p38, p39, p40, p41, p42, p75⟩ := ecellsx HXS.out HS2.out HE2.out
              have HC5 := Lib.hid hc5
              clear hc5
              by_cases hz5 : c5 = 0
              · subst hz5
                go_wp2_with fail
                refine (groups_any HE2.out.grp).mono ?_
                rintro r w3 ⟨c6, hc6, rfl, y⟩
                clear p0 p1 p2 p3 p4 p37 p38 p39 p40 p41 p42 p75
                have HS3 := Lib.hid (Blk.on HS2.out y)
                have HE3 := Lib.hid (HE2.out.on y)
                have HR3 := Lib.hid (HR2.out.on y)
                have HY3 := Lib.hid (HY2.out.trans (y.mono HY2.out.size))
                clear y
                obtain ⟨p0, p1, p2, p3, p4, p37, p38, p39, p40, p41, p42, p75⟩ := ecellsx HXS.out HS3.out HE3.out
                have HC6 := Lib.hid hc6
                clear hc6
                by_cases hz6 : c6 = 0
                · subst hz6
                  by_cases hk7 : e.kind = 7
                  · have q7 : (e.kind == 7) = true := by simpa using hk7
                    have HIN := Lib.hid (cin_any e.need (1) (e.keep) _ rfl w3)
                    obtain ⟨q, hq⟩ : ∃ q, q = decide ((1) ≤ e.need ∧ e.need ≤ (e.keep)) := ⟨_, rfl⟩
                    rw [← hq] at HIN
                    have HQf := Lib.hid hq
                    clear hq
                    go_wp2_with fail
                    refine HIN.out.mono ?_
                    rintro r w3 ⟨rfl, rfl⟩
                    clear HIN
                    cases q
                    · skip
                      go_wp2
                      go_ret
                      exact ⟨4, ⟨fun h _ => by have a1 := h.ver; have a2 := h.kind; have a3 := h.day; have a4 := h.size; have a5 := h.emb0; have a6 := h.emb1; have a7 := h.need; have a8 := h.keep; have a9 := h.sN; have a10 := h.gN; omega, fun h => by cases h⟩, rfl, HY3.out⟩
                    · by_cases hk10 : 10 < e.keep
                      · skip
                        go_wp2
                        go_ret
                        exact ⟨4, ⟨fun h _ => by have a1 := h.ver; have a2 := h.kind; have a3 := h.day; have a4 := h.size; have a5 := h.emb0; have a6 := h.emb1; have a7 := h.need; have a8 := h.keep; have a9 := h.sN; have a10 := h.gN; omega, fun h => by cases h⟩, rfl, HY3.out⟩
                      · skip
                        have HLD := Lib.hid (man_of HXS.out HS3.out HE3.out)
                        have HCK := Lib.hid (stcheck_any (man_len HE3.out) e.cz (man_0 HE3.out) _ _ _ (man_33 HE3.out) w3)
                        obtain ⟨mn, hmn⟩ : ∃ mn, mn = e.man.toArray := ⟨_, rfl⟩
                        rw [← hmn] at HLD HCK
                        clear hmn
                        go_upto_region 22 with (fail)
                        go_step
                        go_step
                        go_step
                        go_step
                        go_step
                        refine wp_load_run _ _ rfl rfl HLD.out ?_
                        clear HLD
                        go_wp2_with fail
                        refine HCK.out.mono ?_
                        rintro r w4 ⟨c7, i7, hc7, rfl, y⟩
                        clear HCK
                        clear p0 p1 p2 p3 p4 p37 p38 p39 p40 p41 p42 p75
                        have HS4 := Lib.hid (Blk.on HS3.out y)
                        have HE4 := Lib.hid (HE3.out.on y)
                        have HR4 := Lib.hid (HR3.out.on y)
                        have HY4 := Lib.hid (HY3.out.trans (y.mono HY3.out.size))
                        clear y
                        have HC7 := Lib.hid hc7
                        clear hc7
                        by_cases hz7 : c7 = 0
                        · obtain rfl : i7 = 0 := HC7.out.2 hz7
                          subst hz7
                          have hal : Below w4.heap.size w4 (w4.alloc (.cells #[.int .i64 0, .int .i64 0] 29)) := (Below.refl _ _).alloc (Nat.le_refl _) _
                          have F0 := Two.new w4 29 (.int .i64 0) (.int .i64 0)
                          have f0 := F0.c0
                          have f1 := F0.c1
                          have HCT := Lib.hid (enthas_any (HR4.out.on hal) (show Blk _ s 39 e.cs.toArray by rw [← HXS.out]; exact Blk.on HS4.out hal) (HE4.out.on hal))
                          have HY8 := Lib.hid (HY4.out.trans (hal.mono HY4.out.size))
                          unfold pEarlier at HCT
                          clear hal F0
                          go_wp2_with fail
                          refine HCT.out.mono ?_
                          rintro r w9 ⟨b, hb, rfl, y⟩
                          have HY9 := Lib.hid (HY8.out.trans (y.mono HY8.out.size))
                          have HB := Lib.hid hb
                          clear y hb
                          cases b
                          · go_wp2
                            go_ret
                            exact ⟨0, ⟨fun _ _ => rfl, fun _ => HEMB.out⟩, rfl, HY9.out⟩
                          · go_wp2
                            go_ret
                            exact ⟨11, ⟨fun h1 h2 => absurd (HB.out h2) (by decide), fun h => by cases h⟩, rfl, HY9.out⟩
                        · have hnq := neq_fault c7 i7 0 0 (fun e => hz7 e.1)
                          have F0 := Two.new w4 29 (.int .i64 c7) (.int .i64 i7)
                          have f0 := F0.c0
                          have f1 := F0.c1
                          clear F0
                          go_wp2
                          go_ret
                          exact ⟨c7, ⟨fun h _ => HC7.out.1 h.cz h.pN, fun h => absurd h hz7⟩, rfl, HY4.out.alloc HY4.out.size _⟩
                  · have q7 : (e.kind == 7) = false := by simpa using hk7
                    by_cases hn0 : e.need = 0
                    · have n0 : (e.need != 0) = false := by simp [hn0]
                      by_cases hk0 : e.keep = 0
                      · have k0 : (e.keep != 0) = false := by simp [hk0]
                        have HLD := Lib.hid (man_of HXS.out HS3.out HE3.out)
                        have HCK := Lib.hid (stcheck_any (man_len HE3.out) e.cz (man_0 HE3.out) _ _ _ (man_33 HE3.out) w3)
                        obtain ⟨mn, hmn⟩ : ∃ mn, mn = e.man.toArray := ⟨_, rfl⟩
                        rw [← hmn] at HLD HCK
                        clear hmn
                        go_upto_region 22 with (fail)
                        go_step
                        go_step
                        go_step
                        go_step
                        go_step
                        refine wp_load_run _ _ rfl rfl HLD.out ?_
                        clear HLD
                        go_wp2_with fail
                        refine HCK.out.mono ?_
                        rintro r w4 ⟨c7, i7, hc7, rfl, y⟩
                        clear HCK
                        clear p0 p1 p2 p3 p4 p37 p38 p39 p40 p41 p42 p75
                        have HS4 := Lib.hid (Blk.on HS3.out y)
                        have HE4 := Lib.hid (HE3.out.on y)
                        have HR4 := Lib.hid (HR3.out.on y)
                        have HY4 := Lib.hid (HY3.out.trans (y.mono HY3.out.size))
                        clear y
                        have HC7 := Lib.hid hc7
                        clear hc7
                        by_cases hz7 : c7 = 0
                        · obtain rfl : i7 = 0 := HC7.out.2 hz7
                          subst hz7
                          have hal : Below w4.heap.size w4 (w4.alloc (.cells #[.int .i64 0, .int .i64 0] 29)) := (Below.refl _ _).alloc (Nat.le_refl _) _
                          have F0 := Two.new w4 29 (.int .i64 0) (.int .i64 0)
                          have f0 := F0.c0
                          have f1 := F0.c1
                          have HCT := Lib.hid (enthas_any (HR4.out.on hal) (show Blk _ s 39 e.cs.toArray by rw [← HXS.out]; exact Blk.on HS4.out hal) (HE4.out.on hal))
                          have HY8 := Lib.hid (HY4.out.trans (hal.mono HY4.out.size))
                          unfold pEarlier at HCT
                          clear hal F0
                          go_wp2_with fail
                          refine HCT.out.mono ?_
                          rintro r w9 ⟨b, hb, rfl, y⟩
                          have HY9 := Lib.hid (HY8.out.trans (y.mono HY8.out.size))
                          have HB := Lib.hid hb
                          clear y hb
                          cases b
                          · go_wp2
                            go_ret
                            exact ⟨0, ⟨fun _ _ => rfl, fun _ => HEMB.out⟩, rfl, HY9.out⟩
                          · go_wp2
                            go_ret
                            exact ⟨11, ⟨fun h1 h2 => absurd (HB.out h2) (by decide), fun h => by cases h⟩, rfl, HY9.out⟩
                        · have hnq := neq_fault c7 i7 0 0 (fun e => hz7 e.1)
                          have F0 := Two.new w4 29 (.int .i64 c7) (.int .i64 i7)
                          have f0 := F0.c0
                          have f1 := F0.c1
                          clear F0
                          go_wp2
                          go_ret
                          exact ⟨c7, ⟨fun h _ => HC7.out.1 h.cz h.pN, fun h => absurd h hz7⟩, rfl, HY4.out.alloc HY4.out.size _⟩
                      · have k0 : (e.keep != 0) = true := by simpa using hk0
                        clear hn0
                        go_wp2
                        go_ret
                        exact ⟨6, ⟨fun h _ => by have a1 := h.ver; have a2 := h.kind; have a3 := h.day; have a4 := h.size; have a5 := h.emb0; have a6 := h.emb1; have a7 := h.need; have a8 := h.keep; have a9 := h.sN; have a10 := h.gN; omega, fun h => by cases h⟩, rfl, HY3.out⟩
                    · have n0 : (e.need != 0) = true := by simpa using hn0
                      go_wp2
                      go_ret
                      exact ⟨6, ⟨fun h _ => by have a1 := h.ver; have a2 := h.kind; have a3 := h.day; have a4 := h.size; have a5 := h.emb0; have a6 := h.emb1; have a7 := h.need; have a8 := h.keep; have a9 := h.sN; have a10 := h.gN; omega, fun h => by cases h⟩, rfl, HY3.out⟩
                · skip
                  go_wp2
                  go_ret
                  exact ⟨c6, ⟨fun h _ => HC6.out h.gN, fun h => absurd h hz6⟩, rfl, HY3.out⟩
              · skip
                go_wp2
                go_ret
                exact ⟨c5, ⟨fun h _ => HC5.out h.sN, fun h => absurd h hz5⟩, rfl, HY2.out⟩
end PB
end Go.Proofs.Ytgbabhihmbeogaa
