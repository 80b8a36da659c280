/-
  Plain facts for the laws of package lz: no tokens that stand for the same bytes cost less; more bytes ahead of the dictionary cost no more. No walk stands in this text.
-/
import Derived.Test.YtnahmiglogddaaaLzLawPlain
namespace Go.Proofs.Ytnahmiglogddaaa
open Go.RowKit
set_option linter.unusedVariables false
set_option linter.unusedSimpArgs false
namespace PB
theorem copyN_prefix (d : Nat) : ∀ k w, w <+: copyN d k w := by
  intro k
  induction k with
  | zero => intro w; exact List.prefix_refl _
  | succ k ih => intro w; exact (List.prefix_append _ _).trans (ih _)
theorem ext_prefix (w : List Nat) (t : Tok) : w <+: ext w t := by
  unfold ext
  split
  · exact List.prefix_append _ _
  · exact copyN_prefix _ _ _
theorem expf_prefix (dl : Nat) : ∀ xs k w, w <+: (expf dl xs k w).2.2 := by
  intro xs
  induction xs with
  | nil => intro k w; exact List.prefix_refl _
  | cons t ts ih =>
    intro k w
    rw [expf]
    split
    · exact List.prefix_refl _
    · split
      · exact List.prefix_refl _
      · exact (ext_prefix w t).trans (ih _ _)
theorem take_of_prefix {w all : List Nat} (h : w <+: all) : w = all.take w.length := (List.prefix_iff_eq_take.1 h)
theorem copyN_rep {all : List Nat} {d i : Nat} (hd : 1 ≤ d) (hdi : d ≤ i) : ∀ n, copyN d n (all.take i) = all.take (i + n) → i + n ≤ all.length → n ≤ rep all i d := by
  intro n h hl
  refine rep_ge fun k hk => ⟨by omega, ?_⟩
  have hpre : ∀ q, q ≤ n → copyN d q (all.take i) = all.take (i + q) := by
    intro q hq
    have hp : copyN d q (all.take i) <+: copyN d n (all.take i) := by
      obtain ⟨r, rfl⟩ : ∃ r, n = q + r := ⟨n - q, by omega⟩
      clear h hl hk hq
      induction r with
      | zero => exact List.prefix_refl _
      | succ r ih => rw [← Nat.add_assoc, copyN_snoc]; exact ih.trans (List.prefix_append _ _)
    rw [h] at hp
    have := take_of_prefix (hp.trans (List.take_prefix _ _))
    rw [this, copyN_length, List.length_take, show min i all.length = i by omega]
  have h1 := hpre (k + 1) (by omega)
  rw [copyN_snoc, hpre k (by omega)] at h1
  have h2 := congrArg (fun l => l.getD (i + k) 0) h1
  (try simp only at h2)
  have hlen : (all.take (i + k)).length = i + k := by rw [List.length_take]; omega
  rw [getD_append_ge (by omega), hlen, Nat.sub_self] at h2
  have e1 : (all.take (i + (k + 1))).getD (i + k) 0 = all.getD (i + k) 0 := by
    rw [List.getD_eq_getElem?_getD, List.getD_eq_getElem?_getD, List.getElem?_take_of_lt (by omega)]
  have e2 : (all.take (i + k)).getD (i + k - d) 0 = all.getD (i + k - d) 0 := by
    rw [List.getD_eq_getElem?_getD, List.getD_eq_getElem?_getD, List.getElem?_take_of_lt (by omega)]
  rw [e1, e2] at h2
  exact h2.symm
/-- No tokens that stand for the same bytes cost less. -/
theorem least {all : List Nat} {f : Nat} {L nn dd : Nat → Nat} (h : Tab gsz all f L nn dd) : ∀ (ts : List Tok) (i q : Nat), (∀ t ∈ ts, t.ok) → f ≤ i → i ≤ all.length → expf f ts q (all.take i) = (0, 0, all) → L i ≤ costs ts := by
  intro ts
  induction ts with
  | nil =>
    intro i q _ h1 h2 h3
    rw [expf] at h3
    injection h3 with _ h3
    injection h3 with _ h3
    have : i = all.length := by
      have := congrArg List.length h3
      rw [List.length_take] at this
      omega
    rw [this, h.1]; exact Nat.zero_le _
  | cons t ts ih =>
    intro i q hok h1 h2 h3
    have hlen : (all.take i).length = i := by rw [List.length_take]; omega
    rw [expf, hlen] at h3
    split at h3
    · simp at h3
    split at h3
    · simp at h3
    rename_i g1 g2
    have hto := hok t (List.mem_cons_self ..)
    have hp := expf_prefix f ts (q + 1) (ext (all.take i) t)
    rw [h3] at hp
    have hx := take_of_prefix hp
    rw [ext_length, hlen] at hx
    have hle : i + tlen t ≤ all.length := by
      have := hp.length_le
      rw [ext_length, hlen] at this
      exact this
    have htp := tlen_pos t hto
    rw [hx] at h3
    have hrec := ih (i + tlen t) (q + 1) (fun x hx => hok x (List.mem_cons_of_mem _ hx)) (by omega) hle h3
    have hc : costs (t :: ts) = tcost t + costs ts := by simp [costs]
    rw [hc]
    have hG := h.2 i h1 (by omega)
    rcases hto with ⟨e1, e2⟩ | ⟨e0, e1, e2, e3, e4⟩
    · have : tlen t = 1 := by unfold tlen; rw [if_pos e1]
      have hcost : tcost t = 9 := by unfold tcost; rw [if_pos e1]
      rw [this] at hrec
      have := hG.lit
      omega
    · have hl : tlen t = t.n.toNat := by unfold tlen; rw [if_neg (by omega)]
      have hcost : tcost t = mcost gsz t.d.toNat t.n.toNat := by unfold tcost; rw [if_neg (by omega)]
      rw [hl] at hrec hle hx
      have hext : ext (all.take i) t = copyN t.d.toNat t.n.toNat (all.take i) := by unfold ext; rw [if_neg (by omega)]
      rw [hext] at hx
      have hr := copyN_rep (all := all) (d := t.d.toNat) (i := i) (by omega) (by omega) _ hx hle
      have := hG.opt t.n.toNat t.d.toNat ⟨by omega, by omega, by omega, hr⟩ trivial
      rw [hcost]
      omega
theorem getD_shift (a b : List Nat) (i : Nat) : (a ++ b).getD (i + a.length) 0 = b.getD i 0 := by
  rw [getD_append_ge (by omega), Nat.add_sub_cancel]
theorem rep_shift (more all : List Nat) (i d : Nat) (hd : d ≤ i) : rep all i d ≤ rep (more ++ all) (i + more.length) d := by
  refine rep_ge fun k hk => ⟨?_, ?_⟩
  · have := rep_lt hk
    rw [List.length_append]; omega
  · have := rep_at hk
    rw [show i + more.length + k = i + k + more.length by omega, show i + k + more.length - d = i + k - d + more.length by omega, getD_shift, getD_shift]
    exact this
/-- More bytes ahead of the window cost no more. -/
theorem more_less {more all : List Nat} {f f' : Nat} {L nn dd L' nn' dd' : Nat → Nat} (h : Tab gsz all f L nn dd) (h' : Tab gsz (more ++ all) f' L' nn' dd') (hf : f' ≤ f + more.length) :
    ∀ k i, f ≤ i → i + k = all.length → L' (i + more.length) ≤ L i := by
  intro k
  induction k using Nat.strongRecOn with
  | _ k ih =>
    intro i h1 h2
    rcases Nat.eq_zero_or_pos k with rfl | hpos
    · obtain rfl : i = all.length := by omega
      rw [show all.length + more.length = (more ++ all).length by rw [List.length_append]; omega, h'.1]
      exact Nat.zero_le _
    · have hG' := h'.2 (i + more.length) (by omega) (by rw [List.length_append]; omega)
      rcases h.nn0 h1 (by omega) with ⟨_, _, e⟩ | ⟨hc, e⟩
      · have a := hG'.lit
        have b := ih (k - 1) (by omega) (i + 1) (by omega) (by omega)
        rw [show i + 1 + more.length = i + more.length + 1 by omega] at b
        omega
      · obtain ⟨c1, c2, c3, c4⟩ := hc
        have hr := rep_le (all := all) (i := i) (d := dd i)
        have a := hG'.opt (nn i) (dd i) ⟨c1, c2, by omega, Nat.le_trans c4 (rep_shift more all i (dd i) c3)⟩ trivial
        have b := ih (k - nn i) (by omega) (i + nn i) (by omega) (by omega)
        rw [show i + nn i + more.length = i + more.length + nn i by omega] at b
        omega
/-- The tokens of a parse. -/
def PTok (data dict : List Nat) (ts : List Tok) : Prop := ∃ L nn dd, Tab gsz (dict ++ data) dict.length L nn dd ∧ ts = tokens (dict ++ data) nn dd dict.length
section
variable {data dict : List Nat} {ts : List Tok}
theorem PTok.ok (h : PTok data dict ts) (h1 : data.length ≤ 1024) (h2 : dict.length ≤ 512) : (∀ t ∈ ts, t.ok) ∧ ts.length ≤ 1024 ∧ (ts.map tlen).sum = data.length := by
  obtain ⟨L, nn, dd, hT, rfl⟩ := h
  have hl : (dict ++ data).length = dict.length + data.length := List.length_append
  obtain ⟨a, b, _, d⟩ := tokens_all hT (by omega) (by omega) (dict ++ data).length dict.length (Nat.le_refl _) (by omega) (by omega)
  exact ⟨a, by omega, by omega⟩
theorem PTok.lit (h : PTok data dict ts) (h1 : ∀ k, data.getD k 0 < 256) (h2 : ∀ k, dict.getD k 0 < 256) : ∀ t ∈ ts, t.lit < 256 := by
  obtain ⟨L, nn, dd, hT, rfl⟩ := h
  refine tokens_lit (fun i => ?_) _ _
  rcases Nat.lt_or_ge i dict.length with hi | hi
  · rw [getD_append_lt hi]; exact h2 i
  · rw [getD_append_ge hi]; exact h1 _
theorem PTok.exp (h : PTok data dict ts) (h1 : data.length ≤ 1024) (h2 : dict.length ≤ 512) : expf dict.length ts 0 dict = (0, 0, dict ++ data) := by
  obtain ⟨L, nn, dd, hT, rfl⟩ := h
  have hl : (dict ++ data).length = dict.length + data.length := List.length_append
  have := expf_parse hT (by omega) (by omega) (dict ++ data).length dict.length 0 (Nat.le_refl _) (by omega) (by omega)
  rwa [List.take_left] at this
theorem PTok.cost_le (h : PTok data dict ts) (h1 : data.length ≤ 1024) (h2 : dict.length ≤ 512) : costs ts ≤ 9 * data.length := by
  obtain ⟨L, nn, dd, hT, rfl⟩ := h
  have hl : (dict ++ data).length = dict.length + data.length := List.length_append
  obtain ⟨_, _, c, _⟩ := tokens_all hT (by omega) (by omega) (dict ++ data).length dict.length (Nat.le_refl _) (by omega) (by omega)
  rw [c]
  exact hT.le data.length dict.length (Nat.le_refl _) (by omega)
theorem PTok.least (h : PTok data dict ts) (h1 : data.length ≤ 1024) (h2 : dict.length ≤ 512) {us : List Tok} (hu : ∀ t ∈ us, t.ok) (he : expf dict.length us 0 dict = (0, 0, dict ++ data)) : costs ts ≤ costs us := by
  obtain ⟨L, nn, dd, hT, rfl⟩ := h
  have hl : (dict ++ data).length = dict.length + data.length := List.length_append
  obtain ⟨_, _, c, _⟩ := tokens_all hT (by omega) (by omega) (dict ++ data).length dict.length (Nat.le_refl _) (by omega) (by omega)
  rw [c]
  exact PB.least hT us dict.length 0 hu (Nat.le_refl _) (by omega) (by rw [List.take_left]; exact he)
theorem PTok.more {more : List Nat} {us : List Tok} (h : PTok data dict ts) (h' : PTok data (more ++ dict) us) (h1 : data.length ≤ 1024) (h2 : (more ++ dict).length ≤ 512) : costs us ≤ costs ts := by
  obtain ⟨L, nn, dd, hT, rfl⟩ := h
  obtain ⟨L', nn', dd', hT', rfl⟩ := h'
  have hl : (dict ++ data).length = dict.length + data.length := List.length_append
  have hl2 : (more ++ dict).length = more.length + dict.length := List.length_append
  have hl3 : (more ++ dict ++ data).length = (more ++ dict).length + data.length := List.length_append
  obtain ⟨_, _, c, _⟩ := tokens_all hT (by omega) (by omega) (dict ++ data).length dict.length (Nat.le_refl _) (by omega) (by omega)
  obtain ⟨_, _, c', _⟩ := tokens_all hT' (by omega) (by omega) (more ++ dict ++ data).length (more ++ dict).length (Nat.le_refl _) (by omega) (by omega)
  rw [c, c']
  rw [List.append_assoc] at hT'
  have := more_less hT hT' (by omega) data.length dict.length (Nat.le_refl _) (by omega)
  rwa [show dict.length + more.length = (more ++ dict).length by omega] at this
end
end PB
end Go.Proofs.Ytnahmiglogddaaa
