/- Contracts of the layer 'stable': Check, Of, Least, and the document's. -/
import Derived.Test.YtpnjodefnpphkaaInts
namespace Go.Proofs.Ytpnjodefnpphkaa
open Go.RowKit Go.Sort Go.Lib

theorem toList_getD (d : Array Int) (j : Nat) : d.toList.getD j 0 = d[j]! := by
  by_cases h : j < d.size <;> simp [List.getD, h]
theorem toList_get (d : Array Int) (j : Nat) : d.toList[j]! = d[j]! := by
  by_cases h : j < d.size <;> simp [h]
theorem ContI (p : Int → Bool) (g : Nat) (lb : Array Value) (A : Option Addr) (c : Nat) (d : Array Int) (B : Nat) (w : World) (h : RdI B w A d) (hd : d.size ≤ 100000000) (eg : ∀ args w, (callFunc g args).run Try.prog w = .ok (.enter g args) w) (hp : PredAt Try.prog g lb encI p w) :
    Calls Try.prog 45 #[.slice A d.size c, .func (.func g) #[] lb] w fun e w' => e = .returned (.bool (d.toList.any p)) ∧ ∃ q, w' = w.drewN q := by
  rcases Nat.eq_zero_or_pos d.size with h0 | h0
  · have e0 : d = #[] := Array.eq_empty_of_size_eq_zero h0
    subst e0
    exact (Try.slices_ContainsFunc_empty (α := Int) A c _ w).mono fun e w' ⟨he, hw⟩ => ⟨by rw [he]; rfl, 0, hw⟩
  · obtain ⟨b, off, rfl, _, hc⟩ := h h0
    have := Try.slices_ContainsFunc encI p g lb eg b off d.size c d.toList w hp (by simp) (by omega) (fun j hj => by rw [hc j (by simpa using hj), toList_get]; rfl)
    rwa [show d.toList.take d.size = d.toList from List.take_of_length_le (by simp)] at this
theorem holds_of_ownsI {w : World} {base : Nat} {e : TypeId} {v : Value} {d : Array Int} (h : w.ownsRow base e 1 v d.size (d.toList.map (Value.int .i64))) (hn : v ≠ .slice none 0 0) :
    ∃ g cap, v = .slice (some ⟨g, 0, none⟩) d.size cap ∧ base ≤ g ∧ g < w.heap.size ∧ Holds encI w g 0 d := by
  obtain ⟨_, ⟨h1, _⟩ | ⟨g, cap, cur, hv, hb, hh, hnc, hmx, hcur, htk⟩⟩ := h
  · exact absurd h1 hn
  · have hlt : g < w.heap.size := by
      rcases Nat.lt_or_ge g w.heap.size with h | h
      · exact h
      · rw [Array.getElem?_eq_none h] at hh; cases hh
    refine ⟨g, cap, hv, hb, hlt, fun t ht => ?_⟩
    have e1 : cur.toList[t]? = (d.toList.map (Value.int .i64))[t]? := by rw [← htk, List.getElem?_take_of_lt (by omega)]
    rw [List.getElem?_map, Array.getElem?_toList, Array.getElem?_toList, Array.getElem?_eq_getElem ht] at e1
    refine ⟨?_, by simp [World.frozen?, hh]⟩
    rw [getElem!_pos d t ht]
    simp [World.cell?, hh, e1, encI]
/-- A clone: nothing, or a row of its own that holds the same. -/
theorem CloneI (A : Option Addr) (c : Nat) (d : Array Int) (B : Nat) (w : World) (h : RdI B w A d) (hd : d.size ≤ 1000000000) :
    Calls Try.prog 48 #[.slice A d.size c] w fun e w' => ∃ A' c', e = .returned (.slice A' d.size c') ∧ (0 < d.size → ∃ g, A' = some ⟨g, 0, none⟩ ∧ w.heap.size ≤ g ∧ g < w'.heap.size ∧ Holds encI w' g 0 d) ∧ Below w.heap.size w w' := by
  rcases Nat.eq_zero_or_pos d.size with h0 | h0
  · have e0 : d = #[] := Array.eq_empty_of_size_eq_zero h0
    subst e0
    cases A with
    | none => exact (Try.slices_Clone_int_nil 0 c w).mono fun e w' ⟨he, hw⟩ => ⟨none, 0, he, fun h => absurd h (by decide), by rw [hw]; exact Below.refl _ _⟩
    | some a =>
      refine (Try.slices_Clone_int_zero a c w).mono ?_
      rintro e w' ⟨v, he, hown, hn, hb⟩
      obtain ⟨_, ⟨h1, _⟩ | ⟨g, cap, cur, hv, _⟩⟩ := hown
      · exact absurd h1 hn
      · exact ⟨_, cap, by rw [he, hv]; rfl, fun h => absurd h (by decide), hb⟩
  · obtain ⟨b, off, rfl, _, hc⟩ := h h0
    refine (Try.slices_Clone_int b off d.size c d.toList w (by simp) (by omega) (fun j hj => by rw [hc j (by simpa using hj), toList_getD])).mono ?_
    rintro e w' ⟨v, rfl, hown, hn, hb⟩
    rw [show d.toList.take d.size = d.toList from List.take_of_length_le (by simp)] at hown
    obtain ⟨g, cap, rfl, h1, h2, h3⟩ := holds_of_ownsI hown hn
    exact ⟨_, cap, rfl, fun _ => ⟨g, rfl, h1, h2, h3⟩, hb⟩

def badMark (t : Int) : Bool := decide (t < 0 ∨ 1000000 < t)
theorem none1_any (t : Int) (w : World) :
    Calls Try.prog 44 #[.int .i64 t] w fun e w' => e = .returned (.bool (badMark t)) ∧ w = w' := by
  go_enter Try.func44, Try.ntmps44
  go_wp2
  all_goals
    go_ret
    refine ⟨ret_bool ?_, rfl⟩
    unfold badMark
    first | (rw [Bool.eq_iff_iff, decide_eq_true_iff, decide_eq_true_iff]; omega) | (symm; rw [decide_eq_true_iff]; omega) | (symm; rw [decide_eq_false_iff_not]; omega)
theorem none1_pred (w : World) : PredAt Try.prog 44 #[] encI badMark w := fun W x _ =>
  (none1_any x W).mono fun _ _ ⟨he, hw⟩ => ⟨he, 0, hw.symm⟩
/-- Are these marks of n replicas? -/
def marksE (d : Array Int) (n : Int) : Int := if mostN n = 0 ∨ (d.size : Int) ≠ n ∨ d.toList.any badMark = true then 2 else 0
set_option maxHeartbeats 1000000 in
theorem sCheck_any (A : Option Addr) (c : Nat) (d : Array Int) (n : Int) (B : Nat) (w : World) (h : RdI B w A d) (hd : d.size ≤ 100000000) :
    Calls Try.prog 12 #[.slice A d.size c, .int .i64 n] w fun e w' => e = .returned (.int .i64 (marksE d n)) ∧ Below w.heap.size w w' := by
  have HC := fun W hW => Lib.hid (ContI badMark 44 #[] A c d B W hW hd (enters_of Try.func44 (by kernel_rfl) rfl) (none1_pred W))
  have HCC := Lib.hid (HC w h)
  clear HC
  by_cases h1 : mostN n = 0
  · have HM : Hid (marksE d n = 2) := by show _ = _; unfold marksE; rw [if_pos (Or.inl h1)]
    clear HCC
    go_enter Try.func12, Try.ntmps12
    go_wp2_with (go_at_call 41; refine (Most_any _ _).mono ?_; rintro e w' ⟨rfl, rfl⟩)
    go_ret
    exact ⟨ret_int HM.out.symm, Below.refl _ _⟩
  by_cases h2 : (d.size : Int) ≠ n
  · have HM : Hid (marksE d n = 2) := by show _ = _; unfold marksE; rw [if_pos (Or.inr (Or.inl h2))]
    have b1 : (mostN n == 0) = false := by simpa using h1
    have b2 : ((d.size : Int) != n) = true := by simpa using h2
    clear h1 h2 HCC
    go_enter Try.func12, Try.ntmps12
    go_wp2_with (go_at_call 41; refine (Most_any _ _).mono ?_; rintro e w' ⟨rfl, rfl⟩)
    go_ret
    exact ⟨ret_int HM.out.symm, Below.refl _ _⟩
  have b1 : (mostN n == 0) = false := by simpa using h1
  have b2 : ((d.size : Int) != n) = false := by simpa using h2
  cases h3 : d.toList.any badMark
  · have HM : Hid (marksE d n = 0) := by show _ = _; unfold marksE; rw [if_neg (by simp [h1, h3]; simpa using h2)]
    rw [h3] at HCC
    clear h1 h2 h3
    go_enter Try.func12, Try.ntmps12
    go_wp2_with (first | (go_at_call 41; refine (Most_any _ _).mono ?_; rintro e w' ⟨rfl, rfl⟩) | (go_at_call 45; refine HCC.out.out.mono ?_; rintro e w' ⟨rfl, q, rfl⟩))
    go_ret
    exact ⟨ret_int HM.out.symm, belDrewN (Below.refl _ _) _⟩
  · have HM : Hid (marksE d n = 2) := by show _ = _; unfold marksE; rw [if_pos (Or.inr (Or.inr h3))]
    rw [h3] at HCC
    clear h1 h2 h3
    go_enter Try.func12, Try.ntmps12
    go_wp2_with (first | (go_at_call 41; refine (Most_any _ _).mono ?_; rintro e w' ⟨rfl, rfl⟩) | (go_at_call 45; refine HCC.out.out.mono ?_; rintro e w' ⟨rfl, q, rfl⟩))
    go_ret
    exact ⟨ret_int HM.out.symm, belDrewN (Below.refl _ _) _⟩
end Go.Proofs.Ytpnjodefnpphkaa
