/- num.Size, num.Put and the document's Put: a number's bytes. -/
import Derived.Test.YtlpplnmmcgdooaaGreatDoorNumA
import Derived.Test.YtlpplnmmcgdooaaGreatDoorShelf
import Derived.Laws.IdiomStrings
import Derived.Laws.MakeOwn
namespace Go.Proofs.YtlpplnmmcgdooaaGreatDoor
open Go.RowKit Nb

theorem bitLen_lo : ∀ n : Fin 256, n.val ≠ 0 → 1 ≤ Lib.bitLen n.val := by decide +kernel
theorem be_bits (n : Nat) : 0 < n → n < 18446744073709551616 → (be n).length = (Lib.bitLen n + 7) / 8 := by
  induction n using Nat.strongRecOn with
  | _ n ih =>
    intro h0 h1
    rw [be_pos (by omega), List.length_append]
    by_cases h : n < 256
    · have h2 := Lib.bitLen_le8 ⟨n, h⟩
      have h3 := bitLen_lo ⟨n, h⟩ (by simp; omega)
      simp only at h2 h3
      have e : n / 256 = 0 := by omega
      rw [e, be_zero]
      simp
      omega
    · rw [ih (n / 256) (by omega) (by omega) (by omega), Lib.bitLen_shift8 n (by omega) h1]
      simp
      omega
theorem be_at (n : Nat) : ∀ i, i < (be n).length → (be n)[i]? = some (UInt8.ofNat (n / 256 ^ ((be n).length - 1 - i) % 256)) := by
  induction n using Nat.strongRecOn with
  | _ n ih =>
    intro i hi
    by_cases h : n = 0
    · subst h; rw [be_zero] at hi; simp at hi
    · have hb := be_pos h
      have hl : (be n).length = (be (n / 256)).length + 1 := by rw [hb]; simp
      rw [hl] at hi ⊢
      rw [hb]
      by_cases h2 : i < (be (n / 256)).length
      · rw [List.getElem?_append_left h2, ih (n / 256) (by omega) i h2]
        obtain ⟨d, hd⟩ : ∃ d, (be (n / 256)).length = i + 1 + d := ⟨(be (n / 256)).length - (i + 1), by omega⟩
        rw [hd]
        have e1 : i + 1 + d - 1 - i = d := by omega
        have e2 : i + 1 + d + 1 - 1 - i = d + 1 := by omega
        rw [e1, e2, Nat.div_div_eq_div_mul, Nat.pow_succ, Nat.mul_comm 256]
      · have : i = (be (n / 256)).length := by omega
        subst this
        rw [List.getElem?_append_right (Nat.le_refl _)]
        simp
theorem numB_size (n : Nat) (h : 128 ≤ n) : (numB n).length = 1 + (be n).length := by unfold numB; rw [if_neg (by omega)]; simp; omega
/-- The bytes of a number not below 128, by their places. -/
theorem numB_at (n : Nat) (h : 128 ≤ n) (hm : n ≤ 9223372036854775807) (t : Nat) (ht : t < (numB n).length) :
    (numB n)[t]? = some (if t = 0 then UInt8.ofNat (127 + (numB n).length) else UInt8.ofNat (n / 256 ^ ((numB n).length - 1 - t) % 256)) := by
  have hs := numB_size n h
  rw [hs] at ht ⊢
  unfold numB
  rw [if_neg (by omega)]
  cases t with
  | zero =>
    rw [List.getElem?_cons_zero, if_pos rfl]
    have : 127 + (1 + (be n).length) = 128 + (be n).length := by omega
    rw [this]
  | succ t =>
    rw [List.getElem?_cons_succ, be_at n t (by omega), if_neg (by omega)]
    have : 1 + (be n).length - 1 - (t + 1) = (be n).length - 1 - t := by omega
    rw [this]
set_option maxRecDepth 100000 in
theorem Size_any (n : Nat) (w : World) (hn : n ≤ 9223372036854775807) :
    Calls Tryz.prog 104 #[.int .i64 n] w fun e w' => e = .returned (.int .i64 ((numB n).length : Int)) ∧ w = w' := by
  by_cases h : n < 128
  · have hs : (numB n).length = 1 := by unfold numB; rw [if_pos h]; rfl
    rw [hs]
    go_enter Tryz.func104, Tryz.ntmps104
    go_wp2
    go_ret
    exact ⟨rfl, rfl⟩
  · have hs := numB_size n (by omega)
    rw [be_bits n (by omega) (by omega)] at hs
    rw [hs]
    have hb : Lib.bitLen n ≤ 64 := by
      have h1 := be_bits n (by omega) (by omega)
      have h2 := be_len n 8 (by omega)
      omega
    have HL := Lib.hid (Tryz.bits_Len (n : Int) w (by omega) (by omega))
    rw [Int.toNat_natCast] at HL
    clear hs
    generalize Lib.bitLen n = q at hb HL
    have hnn : (n : Int) ≤ 9223372036854775807 := by omega
    go_enter Tryz.func104, Tryz.ntmps104
    go_wp2_with (go_at_call 116; refine HL.out.mono ?_; rintro e w' ⟨rfl, rfl⟩)
    go_ret
    exact ⟨ret_int (by omega), rfl⟩
end Go.Proofs.YtlpplnmmcgdooaaGreatDoor
