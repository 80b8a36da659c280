/-
  lz.Decode: the tokens of a code.
-/
import Derived.Test.YtnahmiglogddaaaLzNext
import Derived.Test.YtnahmiglogddaaaLzExpand
namespace Go.Proofs.Ytnahmiglogddaaa
open Go.RowKit
attribute [local go_sem ↓] Go.wp_at_zero Go.wp_at_succ
set_option linter.unusedVariables false
set_option linter.unusedSimpArgs false
namespace PB
/-- The tokens from a position on that stand for cnt bytes: a code, the position of the fault, the tokens, the position behind them. -/
inductive Dec (l : List Nat) : Nat → Nat → Nat → Nat → List Tok → Nat → Prop
  | nil (p : Nat) : Dec l p 0 0 0 [] p
  | bad (p cnt c : Nat) : 0 < cnt → NBad l p cnt c → Dec l p cnt c p [] 0
  | cons (p cnt : Nat) (t : Tok) (e c i : Nat) (ts : List Tok) (en : Nat) : 0 < cnt → NOk l p cnt t e → Dec l e (cnt - tlen t) c i ts en → Dec l p cnt c i (t :: ts) en
theorem NOk.facts {l : List Nat} (h01 : Is01 l) {p mis : Nat} {t : Tok} {e : Nat} (h : NOk l p mis t e) (hm : 1 ≤ mis) : e ≤ l.length ∧ 1 ≤ tlen t ∧ tlen t ≤ mis ∧ max t.n 1 = ((tlen t : Nat) : Int) ∧ t.lit < 256 := by
  rcases h with ⟨h1, h2, h3, rfl, rfl⟩ | ⟨h1, h2, d, e1, n, hg, hd, hg2, hn, rfl⟩
  · refine ⟨by omega, Nat.le_refl _, hm, rfl, ?_⟩
    have a := num_lt ((h01.drop (p + 1)).take 8)
    have b : 2 ^ ((l.drop (p + 1)).take 8).length ≤ 2 ^ 8 := Nat.pow_le_pow_right (by decide) (by rw [List.length_take]; omega)
    show num _ < 256
    omega
  · have hd1 := gat_pos h01 hg
    have e : tlen ⟨(d : Nat), ((n + 2 : Nat) : Int), 0⟩ = n + 2 := by unfold tlen; dsimp only; rw [if_neg (by omega)]; omega
    rw [e]
    refine ⟨(gat_end hg2).1, by omega, hn, ?_, (by decide : (0 : Nat) < 256)⟩
    show max ((n + 2 : Nat) : Int) 1 = _
    omega
theorem dec_ex {l : List Nat} (h01 : Is01 l) : ∀ cnt p, p ≤ l.length → ∃ c i ts en, Dec l p cnt c i ts en := by
  intro cnt
  induction cnt using Nat.strongRecOn with
  | _ cnt ih =>
    intro p hp
    rcases Nat.eq_zero_or_pos cnt with rfl | hpos
    · exact ⟨_, _, _, _, .nil p⟩
    · rcases next_ex h01 p cnt hp with ⟨c, hc⟩ | ⟨t, e, ht⟩
      · exact ⟨_, _, _, _, .bad p cnt c hpos hc⟩
      · obtain ⟨f1, f2, f3, f4, _⟩ := ht.facts h01 hpos
        obtain ⟨c, i, ts, en, hD⟩ := ih (cnt - tlen t) (by omega) e f1
        exact ⟨_, _, _, _, .cons p cnt t e c i ts en hpos ht hD⟩
theorem nbad_code {l : List Nat} {p mis c : Nat} (h : NBad l p mis c) : c = 15 ∨ c = 16 := by
  have key : ∀ {f cd}, GAt l f 0 0 cd → cd ≠ 0 → cd = 15 ∨ cd = 16 := fun h hc => by
    rcases h with ⟨_, _, _, h⟩ | ⟨_, _, _, _, h⟩ | ⟨_, _, _, _, h⟩
    · exact .inr h
    · exact .inl h
    · exact absurd h hc
  rcases h with ⟨_, h⟩ | ⟨_, _, _, h⟩ | ⟨_, _, ⟨cd, h1, h2, h3⟩ | ⟨d, e, _, _, h⟩ | ⟨d, e, cd, _, _, h1, h2, h3⟩ | ⟨d, e, n, e2, _, _, _, _, h⟩⟩
  · exact .inl h
  · exact .inl h
  · rw [h3]; exact key h1 h2
  · exact .inr h
  · rw [h3]; exact key h1 h2
  · exact .inr h
/-- What lz.Decode hands back. -/
def DecOut (c i : Nat) (ts : List Tok) (en : Nat) (w : World) (e : Ending) (w' : World) : Prop :=
  ∃ A' m c', e = .returned (.tuple #[.slice A' m c', .int .i64 ((if c = 0 then en else 0 : Nat) : Int), .agg #[.int .i64 (c : Nat), .int .i64 ((if c = 0 then 0 else i : Nat) : Int)]]) ∧ w'.ownsRow w.heap.size 54 3 (.slice A' m c') m (tcells (if c = 0 then ts else [])) ∧ Below w.heap.size w w'
end PB
end Go.Proofs.Ytnahmiglogddaaa
