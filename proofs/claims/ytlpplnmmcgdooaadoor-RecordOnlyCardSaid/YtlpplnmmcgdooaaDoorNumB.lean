/- The document's Get: the same numbers. -/
import Derived.Test.YtlpplnmmcgdooaaDoorNumA
namespace Go.Proofs.YtlpplnmmcgdooaaDoor
open Go.RowKit Nb

theorem val_append (a b : List UInt8) : val (a ++ b) = val a * 256 ^ b.length + val b := by
  unfold val
  rw [List.foldl_append]
  exact val_go b _
theorem val_take_le (l : List UInt8) (k : Nat) : val (l.take k) ≤ val l := by
  have h := val_append (l.take k) (l.drop k)
  rw [List.take_append_drop] at h
  have : val (l.take k) * 1 ≤ val (l.take k) * 256 ^ (l.drop k).length := Nat.mul_le_mul_left _ (Nat.pow_pos (by omega))
  omega
/-- The document's test of the form, and of the size. -/
theorem form_iff (l : List UInt8) (x : UInt8) (t : List UInt8) (hl : l = x :: t) : (l.head? = some 0 ∨ val l < 128) ↔ (x.toNat = 0 ∨ (t.length = 0 ∧ x.toNat < 128)) := by
  subst hl
  rw [val_cons]
  have hx : (x :: t).head? = some 0 ↔ x.toNat = 0 := by
    simp
    constructor
    · rintro rfl; rfl
    · intro h; exact UInt8.toNat_inj.1 (by simpa using h)
  rw [hx]
  have hv := val_lt t
  cases t with
  | nil => simp [val]
  | cons y t =>
    have h1 : 256 ≤ 256 ^ (y :: t).length := by rw [List.length_cons, Nat.pow_succ]; have := Nat.pow_pos (n := t.length) (show 0 < 256 by omega); omega
    constructor
    · rintro (h | h)
      · exact Or.inl h
      · left
        rcases Nat.eq_zero_or_pos x.toNat with h0 | h0
        · exact h0
        · have : 1 * 256 ^ (y :: t).length ≤ x.toNat * 256 ^ (y :: t).length := Nat.mul_le_mul_right _ h0
          omega
    · rintro (h | ⟨h, _⟩)
      · exact Or.inl h
      · simp at h
theorem big_iff (l : List UInt8) (x : UInt8) (t : List UInt8) (hl : l = x :: t) (h8 : t.length ≤ 7) : 9223372036854775807 < val l ↔ (t.length = 7 ∧ 127 < x.toNat) := by
  subst hl
  rw [val_cons]
  have hv := val_lt t
  have hx := x.toNat_lt
  rcases Nat.lt_or_ge t.length 7 with h | h
  · have h1 : 256 ^ t.length ≤ 256 ^ 6 := Nat.pow_le_pow_right (by omega) (by omega)
    have h2 : x.toNat * 256 ^ t.length ≤ 255 * 256 ^ 6 := Nat.mul_le_mul (by omega) h1
    constructor
    · intro h3; omega
    · rintro ⟨h3, _⟩; omega
  · have h7 : t.length = 7 := by omega
    rw [h7] at hv ⊢
    constructor
    · intro h3; exact ⟨rfl, by omega⟩
    · rintro ⟨_, h3⟩; omega
set_option maxRecDepth 100000 in
theorem getL_doc {s : ByteArray} {p b x : Nat} (h : p < s.size) (hb : s[p].toNat = b) (hb1 : 129 ≤ b) (hb' : b ≤ 136) (hl : p + 1 + (b - 128) ≤ s.size) (hx : (s[p + 1]'(by omega)).toNat = x) :
    getL (s.data.toList.drop p) = if x = 0 ∨ (b = 129 ∧ x < 128) then .no 5 else if b = 136 ∧ 127 < x then .no 3 else .ok (val ((s.data.toList.drop (p + 1)).take (b - 128))) (b - 127) := by
  have hl2 : s.data.toList.length = s.size := by simp
  have hg := getL_great h (by rw [hb]; omega) (by rw [hb]; omega) (by rw [hb]; omega)
  rw [hb] at hg
  rw [hg]
  have hd := drop_at s (p + 1) (by omega)
  obtain ⟨m, hm⟩ : ∃ m, b - 128 = m + 1 := ⟨b - 129, by omega⟩
  have e1 : (s.data.toList.drop (p + 1)).take (b - 128) = s[p + 1] :: (s.data.toList.drop (p + 1 + 1)).take m := by rw [hd, hm, List.take_succ_cons]
  have ht : ((s.data.toList.drop (p + 1 + 1)).take m).length = m := by rw [List.length_take, List.length_drop]; omega
  have f1 := form_iff _ _ _ e1
  have f2 := big_iff _ _ _ e1 (by rw [ht]; omega)
  rw [ht] at f1 f2
  rw [hx] at f1 f2
  generalize (s.data.toList.drop (p + 1)).take (b - 128) = l at f1 f2
  by_cases c1 : x = 0 ∨ (b = 129 ∧ x < 128)
  · have e5 : greatE l = 5 := by unfold greatE; rw [if_pos (f1.2 (by omega))]
    rw [if_pos c1, e5]
    simp
  · have n1 : ¬ (l.head? = some 0 ∨ val l < 128) := fun hh => c1 (by have := f1.1 hh; omega)
    rw [if_neg c1]
    by_cases c2 : b = 136 ∧ 127 < x
    · have e5 : greatE l = 3 := by unfold greatE; rw [if_neg n1, if_pos (f2.2 (by omega))]
      rw [if_pos c2, e5]
      simp
    · have n2 : ¬ 9223372036854775807 < val l := fun hh => c2 (by have := f2.1 hh; omega)
      have e5 : greatE l = 0 := by unfold greatE; rw [if_neg n1, if_neg n2]
      have e6 : greatN l = val l := by unfold greatN; rw [if_neg n1, if_neg n2]
      rw [if_neg c2, e5, e6]
      simp
      omega
theorem nth_str (s : ByteArray) (p k : Nat) (h : p + k < s.size) : (s.data.toList.drop p).take (k + 1) = (s.data.toList.drop p).take k ++ [s[p + k]] := by
  rw [List.take_succ_eq_append_getElem (by rw [List.length_drop]; simp; omega), List.getElem_drop]; rfl
end Go.Proofs.YtlpplnmmcgdooaaDoor
