/- The document's Get: the same numbers. -/
import Derived.Test.YtlpplnmmcgdooaaGreatDoorNumA
namespace Go.Proofs.YtlpplnmmcgdooaaGreatDoor
open Go.RowKit Nb

theorem val_append (a b : List UInt8) : val (a ++ b) = val a * 256 ^ b.length + val b := by
  unfold val
  rw [List.foldl_append]
  exact val_go b _
theorem val_take_le (l : List UInt8) (k : Nat) : val (l.take k) ≤ val l := by
  have h := val_append (l.take k) (l.drop k)
  rw [List.take_append_drop] at h
  have : val (l.take k) * 1 ≤ val (l.take k) * 256 ^ (l.drop k).length := Nat.mul_le_mul_left _ (Nat.pow_pos (by omega))
  omega
/-- The document's test of the form, and of the size. -/
theorem form_iff (l : List UInt8) (x : UInt8) (t : List UInt8) (hl : l = x :: t) : (l.head? = some 0 ∨ val l < 128) ↔ (x.toNat = 0 ∨ (t.length = 0 ∧ x.toNat < 128)) := by
  subst hl
  rw [val_cons]
  have hx : (x :: t).head? = some 0 ↔ x.toNat = 0 := by
    simp
    constructor
    · rintro rfl; rfl
    · intro h; exact UInt8.toNat_inj.1 (by simpa using h)
  rw [hx]
  have hv := val_lt t
  cases t with
  | nil => simp [val]
  | cons y t =>
    have h1 : 256 ≤ 256 ^ (y :: t).length := by rw [List.length_cons, Nat.pow_succ]; have := Nat.pow_pos (n := t.length) (show 0 < 256 by omega); omega
    constructor
    · rintro (h | h)
      · exact Or.inl h
      · left
        rcases Nat.eq_zero_or_pos x.toNat with h0 | h0
        · exact h0
        · have : 1 * 256 ^ (y :: t).length ≤ x.toNat * 256 ^ (y :: t).length := Nat.mul_le_mul_right _ h0
          omega
    · rintro (h | ⟨h, _⟩)
      · exact Or.inl h
      · simp at h
theorem big_iff (l : List UInt8) (x : UInt8) (t : List UInt8) (hl : l = x :: t) (h8 : t.length ≤ 7) : 9223372036854775807 < val l ↔ (t.length = 7 ∧ 127 < x.toNat) := by
  subst hl
  rw [val_cons]
  have hv := val_lt t
  have hx := x.toNat_lt
  rcases Nat.lt_or_ge t.length 7 with h | h
  · have h1 : 256 ^ t.length ≤ 256 ^ 6 := Nat.pow_le_pow_right (by omega) (by omega)
    have h2 : x.toNat * 256 ^ t.length ≤ 255 * 256 ^ 6 := Nat.mul_le_mul (by omega) h1
    constructor
    · intro h3; omega
    · rintro ⟨h3, _⟩; omega
  · have h7 : t.length = 7 := by omega
    rw [h7] at hv ⊢
    constructor
    · intro h3; exact ⟨rfl, by omega⟩
    · rintro ⟨_, h3⟩; omega
set_option maxRecDepth 100000 in
theorem getL_doc {s : ByteArray} {p b x : Nat} (h : p < s.size) (hb : s[p].toNat = b) (hb1 : 129 ≤ b) (hb' : b ≤ 136) (hl : p + 1 + (b - 128) ≤ s.size) (hx : (s[p + 1]'(by omega)).toNat = x) :
    getL (s.data.toList.drop p) = if x = 0 ∨ (b = 129 ∧ x < 128) then .no 5 else if b = 136 ∧ 127 < x then .no 3 else .ok (val ((s.data.toList.drop (p + 1)).take (b - 128))) (b - 127) := by
  have hl2 : s.data.toList.length = s.size := by simp
  have hg := getL_great h (by rw [hb]; omega) (by rw [hb]; omega) (by rw [hb]; omega)
  rw [hb] at hg
  rw [hg]
  have hd := drop_at s (p + 1) (by omega)
  obtain ⟨m, hm⟩ : ∃ m, b - 128 = m + 1 := ⟨b - 129, by omega⟩
  have e1 : (s.data.toList.drop (p + 1)).take (b - 128) = s[p + 1] :: (s.data.toList.drop (p + 1 + 1)).take m := by rw [hd, hm, List.take_succ_cons]
  have ht : ((s.data.toList.drop (p + 1 + 1)).take m).length = m := by rw [List.length_take, List.length_drop]; omega
  have f1 := form_iff _ _ _ e1
  have f2 := big_iff _ _ _ e1 (by rw [ht]; omega)
  rw [ht] at f1 f2
  rw [hx] at f1 f2
  generalize (s.data.toList.drop (p + 1)).take (b - 128) = l at f1 f2
  by_cases c1 : x = 0 ∨ (b = 129 ∧ x < 128)
  · have e5 : greatE l = 5 := by unfold greatE; rw [if_pos (f1.2 (by omega))]
    rw [if_pos c1, e5]
    simp
  · have n1 : ¬ (l.head? = some 0 ∨ val l < 128) := fun hh => c1 (by have := f1.1 hh; omega)
    rw [if_neg c1]
    by_cases c2 : b = 136 ∧ 127 < x
    · have e5 : greatE l = 3 := by unfold greatE; rw [if_neg n1, if_pos (f2.2 (by omega))]
      rw [if_pos c2, e5]
      simp
    · have n2 : ¬ 9223372036854775807 < val l := fun hh => c2 (by have := f2.1 hh; omega)
      have e5 : greatE l = 0 := by unfold greatE; rw [if_neg n1, if_neg n2]
      have e6 : greatN l = val l := by unfold greatN; rw [if_neg n1, if_neg n2]
      rw [if_neg c2, e5, e6]
      simp
      omega
theorem nth_str (s : ByteArray) (p k : Nat) (h : p + k < s.size) : (s.data.toList.drop p).take (k + 1) = (s.data.toList.drop p).take k ++ [s[p + k]] := by
  rw [List.take_succ_eq_append_getElem (by rw [List.length_drop]; simp; omega), List.getElem_drop]; rfl
set_option maxRecDepth 100000 in
set_option maxHeartbeats 2000000 in
theorem rGet_any (s : ByteArray) (p : Nat) (w : World) (hp : p ≤ s.size) (hs : s.size ≤ 1000000) :
    Calls Tryz.prog 95 #[.string s, .int .i64 p] w fun e w' => e = .returned (.tuple #[.int .i64 (gN (getL (s.data.toList.drop p)) : Int), .int .i64 (gT p (getL (s.data.toList.drop p)) : Int), .int .i64 (gE (getL (s.data.toList.drop p)) : Int)]) ∧ w = w' := by
  by_cases hlt : p < s.size
  · have hb := s[p].toNat_lt
    have g1 := getL_small hlt
    have g2 := getL_form hlt
    have g3 := getL_short hlt
    have g4 := fun b x hb => getL_doc (b := b) (x := x) hlt hb
    have gi := fun b hb' => idx_str s p hlt b hb' (p : Int) rfl
    generalize s[p].toNat = b at hb g1 g2 g3 g4 gi
    have hidx := gi b rfl
    have g4' := fun x => g4 b x rfl
    clear gi g4
    have G1 := Lib.hid g1
    have G2 := Lib.hid g2
    have G3 := Lib.hid g3
    have G4 := Lib.hid g4'
    clear g1 g2 g3 g4'
    by_cases h1 : b < 128
    · go_enter Tryz.func95, Tryz.ntmps95
      go_wp2
      go_ret3
      exact ⟨by rw [G1.out h1]; exact ret_three rfl (by simp [gT]) rfl, rfl⟩
    · by_cases h2 : b = 128 ∨ 136 < b
      · have hg := Lib.hid (G2.out h2)
        rcases h2 with h2 | h2
        · have hq : ((b : Int) == 128) = true := by simp; omega
          clear h2
          go_enter Tryz.func95, Tryz.ntmps95
          go_wp2
          all_goals
            go_ret3
            exact ⟨by rw [hg.out]; exact ret_three rfl rfl rfl, rfl⟩
        · have hq : ((b : Int) == 128) = false := by simp; omega
          go_enter Tryz.func95, Tryz.ntmps95
          go_wp2
          go_ret3
          exact ⟨by rw [hg.out]; exact ret_three rfl rfl rfl, rfl⟩
      · have h2a : 129 ≤ b := by omega
        have h2b : b ≤ 136 := by omega
        have hq0 : ((b : Int) == 128) = false := by simp; omega
        clear h2 h1
        by_cases h3 : s.size - p - 1 < b - 128
        · have hg := Lib.hid (G3.out (by omega) (by omega) h3)
          have hq : (s.size : Int) < (p : Int) + 1 + b - 128 := by omega
          clear h3
          go_enter Tryz.func95, Tryz.ntmps95
          go_wp2
          go_ret3
          exact ⟨by rw [hg.out]; exact ret_three rfl rfl rfl, rfl⟩
        · have hq : decide ((s.size : Int) < (p : Int) + 1 + b - 128) = false := by simp; omega
          have hl : p + 1 + (b - 128) ≤ s.size := by omega
          have hb1 := (s[p + 1]'(by omega)).toNat_lt
          have g5 := fun (x : Nat) (hx : (s[p + 1]'(by omega)).toNat = x) => G4.out x h2a h2b hl hx
          have gi := fun (x : Nat) (hx : (s[p + 1]'(by omega)).toNat = x) => idx_str s (p + 1) (by omega) x hx ((p : Int) + 1) (by omega)
          generalize (s[p + 1]'(by omega)).toNat = x at hb1 g5 gi
          have hix := gi x rfl
          have hg := Lib.hid (g5 x rfl)
          clear gi g5 h3 G4
          by_cases c1 : x = 0 ∨ (b = 129 ∧ x < 128)
          · rw [if_pos c1] at hg
            by_cases c0 : x = 0
            · have hx0 : ((x : Int) == 0) = true := by simp; omega
              clear c1 c0
              go_enter Tryz.func95, Tryz.ntmps95
              go_wp2
              go_ret3
              exact ⟨by rw [hg.out]; exact ret_three rfl rfl rfl, rfl⟩
            · have hx0 : ((x : Int) == 0) = false := by simp; omega
              have hx1 : ((b : Int) == 129) = true := by simp; omega
              have hx2 : x < 128 := by omega
              clear c1 c0
              go_enter Tryz.func95, Tryz.ntmps95
              go_wp2
              go_ret3
              exact ⟨by rw [hg.out]; exact ret_three rfl rfl rfl, rfl⟩
          · rw [if_neg c1] at hg
            have hx0 : ((x : Int) == 0) = false := by simp; omega
            by_cases c2 : b = 136 ∧ 127 < x
            · rw [if_pos c2] at hg
              have hx1 : ((b : Int) == 129) = false := by simp; omega
              have hx2 : ((b : Int) == 136) = true := by simp; omega
              have hx3 : 127 < x := c2.2
              clear c1 c2
              go_enter Tryz.func95, Tryz.ntmps95
              go_wp2
              go_ret3
              exact ⟨by rw [hg.out]; exact ret_three rfl rfl rfl, rfl⟩
            · rw [if_neg c2] at hg
              have HM := Lib.hid (getL_ok hg.out).2.2.2
              have HC1 := Lib.hid c1
              have HC2 := Lib.hid c2
              have hcases : (((b : Int) == 129) = true ∧ decide ((x : Int) < 128) = false ∧ ((b : Int) == 136) = false) ∨ (((b : Int) == 129) = false ∧ ((b : Int) == 136) = true ∧ decide ((127 : Int) < (x : Int)) = false) ∨ (((b : Int) == 129) = false ∧ ((b : Int) == 136) = false ∧ True) := by
                rcases Nat.lt_trichotomy b 129 with h | h | h
                · omega
                · left
                  exact ⟨by simp; omega, by simp; omega, by simp; omega⟩
                · rcases Nat.lt_or_ge b 136 with h' | h'
                  · right; right
                    exact ⟨by simp; omega, by simp; omega, trivial⟩
                  · right; left
                    exact ⟨by simp; omega, by simp; omega, by simp; omega⟩
              clear c1 c2
              rcases hcases with ⟨f1, f2, f3⟩ | ⟨f1, f2, f3⟩ | ⟨f1, f2, f3⟩
              all_goals go_enter Tryz.func95, Tryz.ntmps95
              all_goals go_wp2_with fail
              all_goals
                go_loop [9, 10] (fun n i => ∃ k : Nat, k ≤ b - 128 ∧ i = .int .i64 ((p + 1 + k : Nat) : Int) ∧ n = .int .i64 (val ((s.data.toList.drop (p + 1)).take k) : Nat)) (fun _ i => p + 1 + (b - 128) - (intOf i).toNat)
                case atStart => exact ⟨0, Nat.zero_le _, by go_num, rfl⟩
                case round =>
                  obtain ⟨k, hk, rfl, rfl⟩ := hrel
                  obtain ⟨q, hq9⟩ : ∃ q, q = p + 1 + k := ⟨_, rfl⟩
                  rw [← hq9]
                  by_cases hlt2 : k < b - 128
                  · have hql : q < s.size := by omega
                    have hlt3 : (q : Int) < (p : Int) + 1 + b - 128 := by omega
                    have hc := s[q].toNat_lt
                    have hv : val ((s.data.toList.drop (p + 1)).take (k + 1)) = 256 * val ((s.data.toList.drop (p + 1)).take k) + s[q].toNat := by
                      rw [nth_str s (p + 1) k (by omega), val_snoc]; simp only [hq9]
                    have hle : val ((s.data.toList.drop (p + 1)).take (k + 1)) ≤ 9223372036854775807 := by
                      have := val_take_le ((s.data.toList.drop (p + 1)).take (b - 128)) (k + 1)
                      rw [List.take_take, Nat.min_eq_left (by omega)] at this
                      exact Nat.le_trans this HM.out
                    have gi := fun (x : Nat) (hx : s[q].toNat = x) => idx_str s q hql x hx (q : Int) rfl
                    generalize s[q].toNat = c at hc hv gi
                    have hic := gi c rfl
                    rw [hv] at hle
                    have HV := Lib.hid hv
                    clear hv gi
                    generalize val ((s.data.toList.drop (p + 1)).take k) = y at hle HV ⊢
                    have hle1 : 256 * (y : Int) ≤ 9223372036854775807 := by omega
                    have hle2 : 256 * (y : Int) + (c : Int) ≤ 9223372036854775807 := by omega
                    have HQ := Lib.hid hq9
                    clear hq9
                    go_wp2
                    go_round
                    case rel => exact ⟨k + 1, by omega, by have := HQ.out; congr 1; omega, by rw [HV.out]; congr 1⟩
                    case measure => have := HQ.out; simp [intOf]; omega
                  · have hlt3 : decide ((q : Int) < (p : Int) + 1 + b - 128) = false := by simp; omega
                    have e1 : k = b - 128 := by omega
                    rw [e1]
                    have HQ := Lib.hid hq9
                    clear hq9 e1
                    go_wp2
                    go_ret3
                    exact ⟨by rw [hg.out]; exact ret_three rfl (by simp [gT]; omega) rfl, rfl⟩
  · have hg := Lib.hid (getL_end (s := s) (p := p) (by omega))
    obtain rfl : p = s.size := by omega
    go_enter Tryz.func95, Tryz.ntmps95
    go_wp2
    go_ret3
    exact ⟨by rw [hg.out]; exact ret_three rfl rfl rfl, rfl⟩
end Go.Proofs.YtlpplnmmcgdooaaGreatDoor
