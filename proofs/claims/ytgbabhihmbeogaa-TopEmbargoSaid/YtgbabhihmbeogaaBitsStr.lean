/-
  string(b) of a slice of bytes that can be read.
-/
import Derived.Test.YtgbabhihmbeogaaBitsMem
import Derived.Laws.BytesString
import Derived.Laws.Cells
namespace Go.Proofs.Ytgbabhihmbeogaa
open Go.RowKit
set_option linter.unusedVariables false
set_option linter.unusedSimpArgs false
namespace PB
/-- Bytes as a string. -/
def bstr (d : List Nat) : ByteArray := ⟨(d.map UInt8.ofNat).toArray⟩
theorem foldl_push (l : List Nat) : ∀ s : ByteArray, (l.map fun x : Nat => (x : Int)).foldl (fun r n => r.push (UInt8.ofNat n.toNat)) s = ⟨(s.data.toList ++ l.map UInt8.ofNat).toArray⟩ := by
  induction l with
  | nil => intro s; simp
  | cons a l ih =>
    intro s
    rw [List.map_cons, List.foldl_cons, ih]
    simp [ByteArray.push]
theorem run_bytes_str {P : Program} {w : World} {B n c : Nat} {A : Option Addr} {d : List Nat} (src dst e : TypeId) (hs : P.underlying src = some (.slice e)) (he : P.underlying e = some (.int .u8)) (hd : P.underlying dst = some .string)
    (h : Reads w B A n c (bcells d)) : (convert src dst (.slice A n c)).run P w = .ok (.string (bstr d)) w := by
  rw [run_convert_bytes_string w src dst e A n c hs he hd]
  have hl := h.len
  rw [bcells_length] at hl
  rcases A with _ | ad
  · have hn : n = 0 := by
      rcases Nat.eq_zero_or_pos n with h0 | h0
      · exact h0
      · obtain ⟨b, off, h, _⟩ := h.2.2.2 h0
        cases h
    subst hn
    obtain rfl : d = [] := List.eq_nil_of_length_eq_zero hl
    simp [Conv.bytesToString, bstr]
    rfl
  · have hcells : ∀ j u, (bcells d)[j]? = some u → w.cell? (ad.add j) = some u := by
      intro j u hu
      rcases Nat.eq_zero_or_pos n with h0 | h0
      · subst h0
        obtain rfl : d = [] := List.eq_nil_of_length_eq_zero hl
        simp [bcells] at hu
      · obtain ⟨b, off, h, _, hc⟩ := h.2.2.2 h0
        injection h with h
        subst h
        have := hc j u hu
        have e : (⟨b, off, none⟩ : Addr).add j = ⟨b, off + j, none⟩ := by
          unfold Addr.add
          by_cases hj : j = 0 <;> simp [hj]
        rw [e]; exact this
    have hr := run_loadCells_list (P := P) (w := w) ad (bcells d) hcells
    rw [bcells_length, hl] at hr
    have hb : bcells d = (d.map fun x : Nat => (x : Int)).map (Value.int .u8) := by simp [bcells]
    rw [hb] at hr
    rw [run_bytesToString w ad n c _ hr, foldl_push]
    simp [bstr]
theorem bstr_toList (d : List Nat) : (bstr d).toList = d.map UInt8.ofNat := by simp [bstr]
theorem map_ofNat_inj : ∀ (a b : List Nat), (∀ k, a.getD k 0 < 256) → (∀ k, b.getD k 0 < 256) → a.map UInt8.ofNat = b.map UInt8.ofNat → a = b
  | [], [], _, _, _ => rfl
  | [], _ :: _, _, _, h => by simp at h
  | _ :: _, [], _, _, h => by simp at h
  | x :: a, y :: b, ha, hb, h => by
    simp only [List.map_cons, List.cons.injEq] at h
    have hx := ha 0
    have hy := hb 0
    simp at hx hy
    have e : x = y := by
      have := congrArg UInt8.toNat h.1
      simpa [Nat.mod_eq_of_lt hx, Nat.mod_eq_of_lt hy] using this
    rw [e, map_ofNat_inj a b (fun k => by simpa using ha (k + 1)) (fun k => by simpa using hb (k + 1)) h.2]
end PB
end Go.Proofs.Ytgbabhihmbeogaa
