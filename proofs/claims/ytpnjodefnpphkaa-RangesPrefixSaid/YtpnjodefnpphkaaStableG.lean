/- The document's set of those whose marks are at least a time; merged marks. -/
import Derived.Test.YtpnjodefnpphkaaStableF
namespace Go.Proofs.Ytpnjodefnpphkaa
open Go.RowKit Go.Sort Go.Lib

def whoL (d : Array Int) (t : Int) : Nat → List Int
  | 0 => []
  | k + 1 => whoL d t k ++ if t ≤ d[k]! then [(k : Int) + 1] else []
theorem whoL_len (d : Array Int) (t : Int) (k : Nat) : (whoL d t k).length ≤ k := by
  induction k with
  | zero => simp [whoL]
  | succ k ih => unfold whoL; split <;> simp <;> omega
set_option maxHeartbeats 2000000 in
set_option maxRecDepth 100000 in
theorem rWho_any (A : Option Addr) (c : Nat) (d : Array Int) (t : Int) (w : World) (h : RdI w.heap.size w A d) (hd : d.size ≤ 100000000) :
    Calls Try.prog 17 #[.slice A d.size c, .int .i64 t] w fun e w' => e = .returned (.int .i64 (setN (whoL d t (min d.size 9)) 9)) ∧ Below w.heap.size w w' := by
  obtain ⟨i0, hi0, hz0, hz1, hz2⟩ := info_parts int_info
  go_enter Try.func17, Try.ntmps17
  go_wp2
  go_loopw [5, 6] (fun v i wr => ∃ k : Nat, k ≤ d.size ∧ k ≤ 9 ∧ i = .int .i64 k ∧ wr.ownsRow w.heap.size 3 1 v (whoL d t k).length ((whoL d t k).map (Value.int .i64)) ∧ Below w.heap.size w wr) (fun _ i _ => d.size - (intOf i).toNat)
  case atStart => exact ⟨0, Nat.zero_le _, Nat.zero_le _, rfl, ⟨rfl, Or.inl ⟨rfl, rfl⟩⟩, Below.refl _ _⟩
  case round =>
    obtain ⟨k, hk, hk9, rfl, hown, hb⟩ := hrel
    by_cases hlt : k < d.size ∧ k < 9
    · obtain ⟨hlt, hlt9⟩ := hlt
      obtain ⟨b, off, rfl, _, hc⟩ := (h.below hb).at_ hlt
      have HS : Hid (whoL d t (k + 1) = whoL d t k ++ if t ≤ d[k]! then [(k : Int) + 1] else []) := rfl
      have hlen := whoL_len d t k
      generalize d[k]! = x at hc HS
      generalize whoL d t k = l at HS hown hlen
      by_cases hx : t ≤ x
      · go_wp2_with (at_builtin; refine wpList_append_own _ rfl _ _ 22 rfl w.heap.size 3 i0 (.int .i64 0) 1 8 Try.underlying22 hi0 hz0 hz1 hz2 rfl (by decide) _ _ _ rfl (hown.alloc _) ⟨wr.heap.size, 0, none⟩ 1 1 [.int .i64 ((k : Int) + 1)] rfl rfl ?c1 ?c2 ?c3 ?c4 ?c5 ?_)
        case c1 => exact app_cell _ _ _
        case c2 => intro u hu; simp at hu; subst hu; rfl
        case c3 => unfold maxLen; omega
        case c4 => omega
        case c5 => exact (belAlloc hb _).size
        intro v' w1 hown' hgrow _
        go_wp2
        go_roundw
        case rel => exact ⟨k + 1, by omega, by omega, by go_num, by rw [HS.out, if_pos hx]; exact own_snoc hown', app_below hb hown hgrow⟩
        case measure => simp [intOf]; omega
      · have hx' : x < t := by omega
        go_wp2
        go_roundw
        case rel => exact ⟨k + 1, by omega, by omega, by go_num, by rw [HS.out, if_neg (by omega), List.append_nil]; exact hown, hb⟩
        case measure => simp [intOf]; omega
    · have hmin : Hid (min d.size 9 = k) := by show _ = _; omega
      have hk' : d.size ≤ k ∨ 9 ≤ k := by omega
      obtain ⟨A', c', rfl, hr⟩ := rdI_of_owns hown
      have hR := rSet_any A' c' (whoL d t k) wr.heap.size wr hr (by have := whoL_len d t k; omega)
      rw [← hmin.out] at hR
      have HR := Lib.hid hR; clear hR
      rw [hmin.out] at HR
      by_cases h9 : k < d.size
      · have h9' : 9 ≤ k := by omega
        have hd2 : decide ((k : Int) < 9) = false := by simp; omega
        clear hlt hk'
        go_wp2_with (go_at_call 53; refine HR.out.mono ?_; rintro e w' ⟨rfl, rfl⟩)
        go_ret
        exact ⟨ret_int (by rw [hmin.out]), hb⟩
      · have hd2 : decide ((k : Int) < (d.size : Int)) = false := by simp; omega
        clear hlt hk'
        go_wp2_with (go_at_call 53; refine HR.out.mono ?_; rintro e w' ⟨rfl, rfl⟩)
        go_ret
        exact ⟨ret_int (by rw [hmin.out]), hb⟩
theorem whoL_mem (d : Array Int) (t : Int) (r : Int) : ∀ k, r ∈ whoL d t k ↔ ∃ j, j < k ∧ r = (j : Int) + 1 ∧ t ≤ d[j]!
  | 0 => by simp [whoL]
  | k + 1 => by
    unfold whoL
    rw [List.mem_append, whoL_mem d t r k]
    constructor
    · rintro (⟨j, hj, hr, ht⟩ | h)
      · exact ⟨j, by omega, hr, ht⟩
      · by_cases hx : t ≤ d[k]!
        · rw [if_pos hx] at h; exact ⟨k, by omega, by simpa using h, hx⟩
        · rw [if_neg hx] at h; simp at h
    · rintro ⟨j, hj, hr, ht⟩
      rcases Nat.lt_or_ge j k with h | h
      · exact Or.inl ⟨j, h, hr, ht⟩
      · obtain rfl : j = k := by omega
        right; rw [if_pos ht]; simpa using hr
theorem whoN_stay (d : Array Int) (t : Int) (n : Nat) : ∀ k, whoN d t (9 + k) = whoN d t 9
  | 0 => rfl
  | k + 1 => by rw [show 9 + (k + 1) = (9 + k) + 1 by omega, whoN, whoN_stay d t n k, if_neg (by omega)]; rfl
theorem who_eq (d : Array Int) (t : Int) : setN (whoL d t (min d.size 9)) 9 = whoN d t d.size := by
  have key : ∀ r, r ≤ 9 → setN (whoL d t (min d.size 9)) r = whoN d t (min d.size r) := by
    intro r
    induction r with
    | zero => intro _; simp [setN, whoN]
    | succ r ih =>
      intro hr
      rw [setN, ih (by omega)]
      by_cases hs : r < d.size
      · rw [show min d.size (r + 1) = r + 1 by omega, show min d.size r = r by omega, whoN]
        congr 1
        have : ((r : Int) + 1) ∈ whoL d t (min d.size 9) ↔ r < 9 ∧ t ≤ d[r]! := by
          rw [whoL_mem]
          constructor
          · rintro ⟨j, hj, hr, ht⟩
            obtain rfl : j = r := by omega
            exact ⟨by omega, ht⟩
          · rintro ⟨h9, ht⟩
            exact ⟨r, by omega, rfl, ht⟩
        by_cases hq : r < 9 ∧ t ≤ d[r]!
        · rw [if_pos (this.2 hq), if_pos hq]
        · rw [if_neg (fun h => hq (this.1 h)), if_neg hq]
      · rw [show min d.size (r + 1) = d.size by omega, show min d.size r = d.size by omega, if_neg]
        · rfl
        · rw [whoL_mem]
          rintro ⟨j, hj, hr, _⟩
          omega
  rw [key 9 (by omega)]
  rcases Nat.lt_or_ge d.size 9 with h | h
  · rw [show min d.size 9 = d.size by omega]
  · obtain ⟨k, hk⟩ : ∃ k, d.size = 9 + k := ⟨d.size - 9, by omega⟩
    rw [show min d.size 9 = 9 by omega, hk, whoN_stay d t 0 k]
end Go.Proofs.Ytpnjodefnpphkaa
