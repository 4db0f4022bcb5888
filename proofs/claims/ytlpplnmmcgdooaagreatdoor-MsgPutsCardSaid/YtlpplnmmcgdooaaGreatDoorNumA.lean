/- num.great, num.Get and the document's Get: what is read as a number. -/
import Derived.Test.YtlpplnmmcgdooaaGreatDoorBase
import Derived.Test.YtlpplnmmcgdooaaGreatDoorNumP
import Derived.Laws.BitsAllLaws
import Derived.Laws.BitsLemmas
import Derived.IntWalk
namespace Go.Proofs.YtlpplnmmcgdooaaGreatDoor
open Go.RowKit Nb

def greatN (l : List UInt8) : Nat := if l.head? = some 0 ∨ val l < 128 then 0 else if 9223372036854775807 < val l then 0 else val l
def greatE (l : List UInt8) : Nat := if l.head? = some 0 ∨ val l < 128 then 5 else if 9223372036854775807 < val l then 3 else 0
theorem take_next (s : ByteArray) (k : Nat) (h : k < s.size) : s.data.toList.take (k + 1) = s.data.toList.take k ++ [s[k]] := by
  rw [List.take_succ_eq_append_getElem (by simpa using h)]; rfl
theorem val_take (s : ByteArray) (k : Nat) (h : k < s.size) : val (s.data.toList.take (k + 1)) = 256 * val (s.data.toList.take k) + s[k].toNat := by
  rw [take_next s k h, val_snoc]
theorem val_take_lt (s : ByteArray) (k : Nat) (h : k ≤ 7) : val (s.data.toList.take k) < 72057594037927936 := by
  have h1 := val_lt (s.data.toList.take k)
  have h2 : (s.data.toList.take k).length ≤ 7 := Nat.le_trans (List.length_take_le _ _) h
  have h3 : 256 ^ (s.data.toList.take k).length ≤ 256 ^ 7 := Nat.pow_le_pow_right (by omega) h2
  omega
theorem or_byte (x : Nat) (b : UInt8) (hx : x < 72057594037927936) : bits .or .u64 ((x : Int) * 256) (IntKind.u64.wrap (b.toNat : Int)) = ((256 * x + b.toNat : Nat) : Int) := by
  have hb := b.toNat_lt
  have e1 : IntKind.u64.wrap (b.toNat : Int) = (b.toNat : Int) := by rw [IntKind.wrap_u64]; omega
  have e2 : (x : Int) * 256 = ((256 * x : Nat) : Int) := by omega
  rw [e1, e2, u64_or_nat _ _ (by omega) (by omega)]
  have e3 := Nat.two_pow_add_eq_or_of_lt (b := b.toNat) (i := 8) (by omega) x
  rw [← e3]
theorem head_of (s : ByteArray) (h : 0 < s.size) : s.data.toList.head? = some s[0] := by
  rw [List.head?_eq_getElem?, List.getElem?_eq_getElem (by simpa using h)]; rfl
theorem ret_two {k k' : IntKind} {a b c d : Int} (h : a = b) (h' : c = d) : Ending.returned (.tuple #[.int k a, .int k' c]) = .returned (.tuple #[.int k b, .int k' d]) := by rw [h, h']
theorem wrap_i64_nat {n : Nat} (h : n ≤ 9223372036854775807) : IntKind.i64.wrap (n : Int) = (n : Int) := IntWalk.i64_in _ (by omega)
set_option maxRecDepth 100000 in
set_option maxHeartbeats 400000 in
theorem great_any (s : ByteArray) (w : World) (h1 : 1 ≤ s.size) (h8 : s.size ≤ 8) :
    Calls Tryz.prog 114 #[.string s] w fun e w' => e = .returned (.tuple #[.int .i64 (greatN s.data.toList : Int), .int .i64 (greatE s.data.toList : Int)]) ∧ w = w' := by
  have hh := head_of s h1
  have HH := Lib.hid hh
  clear hh
  go_enter Tryz.func114, Tryz.ntmps114
  go_wp2
  go_loop [4, 5] (fun n i => ∃ k : Nat, k ≤ s.size ∧ i = .int .i64 k ∧ n = .int .u64 (val (s.data.toList.take k) : Nat)) (fun _ i => s.size - (intOf i).toNat)
  case atStart => exact ⟨0, Nat.zero_le _, rfl, rfl⟩
  case round =>
    obtain ⟨k, hk, rfl, rfl⟩ := hrel
    by_cases hlt : k < s.size
    · have hx := val_take_lt s k (by omega)
      have HV := Lib.hid (val_take s k hlt)
      obtain ⟨x, hx'⟩ : ∃ x, val (s.data.toList.take k) = x := ⟨_, rfl⟩
      rw [hx'] at hx HV
      rw [hx']
      have HX := Lib.hid hx'
      clear hx'
      go_wp2
      go_round
      case rel => exact ⟨k + 1, by omega, by go_num, by rw [HV.out, or_byte x _ hx]⟩
      case measure => simp [intOf]; omega
    · have e1 : s.data.toList.take k = s.data.toList := List.take_of_length_le (by simp; omega)
      rw [e1]
      have HE := Lib.hid e1
      clear e1
      obtain ⟨x, hx'⟩ : ∃ x, val s.data.toList = x := ⟨_, rfl⟩
      rw [hx']
      have HX := Lib.hid hx'
      clear hx'
      obtain ⟨m, hm⟩ : ∃ m : Int, Hid (m = 9223372036854775807) := ⟨_, rfl⟩
      by_cases hz : s[0] = 0
      · have hz0 : ((s[0].toNat : Int) == 0) = true := by rw [hz]; rfl
        go_wp2
        go_ret2
        exact ⟨ret_two (by unfold greatN; rw [if_pos (Or.inl (by rw [HH.out, hz]))]; rfl) (by unfold greatE; rw [if_pos (Or.inl (by rw [HH.out, hz]))]; rfl), rfl⟩
      · have hz0 : ((s[0].toNat : Int) == 0) = false := by
          simp
          intro e
          exact hz (UInt8.toNat_inj.1 (by simpa using e))
        have HN : Hid (¬ s.data.toList.head? = some 0) := by
          rw [HH.out]
          intro e
          injection e with e
          exact hz e
        clear hz
        by_cases h128 : x < 128
        · have hx1 : decide ((x : Int) < 128) = true := by simp; omega
          go_wp2
          go_ret2
          exact ⟨ret_two (by unfold greatN; rw [if_pos (Or.inr (by rw [HX.out]; exact h128))]; rfl) (by unfold greatE; rw [if_pos (Or.inr (by rw [HX.out]; exact h128))]; rfl), rfl⟩
        · have hx1 : decide ((x : Int) < 128) = false := by simp; omega
          have HP : Hid (¬ (s.data.toList.head? = some 0 ∨ val s.data.toList < 128)) := by
            rintro (h | h)
            · exact HN.out h
            · rw [HX.out] at h; exact h128 h
          by_cases hbig : 9223372036854775807 < x
          · have hx2 : decide ((9223372036854775807 : Int) < (x : Int)) = true := by simp; omega
            have HB := Lib.hid hbig
            clear hbig h128
            go_wp2
            go_ret2
            exact ⟨ret_two (by unfold greatN; rw [if_neg HP.out, if_pos (by rw [HX.out]; exact HB.out)]; rfl) (by unfold greatE; rw [if_neg HP.out, if_pos (by rw [HX.out]; exact HB.out)]; rfl), rfl⟩
          · have hx2 : decide ((9223372036854775807 : Int) < (x : Int)) = false := by simp; omega
            have hx3 : IntKind.i64.wrap (x : Int) = (x : Int) := wrap_i64_nat (by omega)
            have HB := Lib.hid hbig
            clear hbig h128
            go_wp2
            go_ret2
            exact ⟨ret_two (by unfold greatN; rw [if_neg HP.out, if_neg (by rw [HX.out]; exact HB.out), HX.out]) (by unfold greatE; rw [if_neg HP.out, if_neg (by rw [HX.out]; exact HB.out)]; rfl), rfl⟩
/-! Get -/
def gN : GR → Nat
  | .ok n _ => n
  | .no _ => 0
def gT (p : Nat) : GR → Nat
  | .ok _ k => p + k
  | .no _ => 0
def gE : GR → Nat
  | .ok _ _ => 0
  | .no e => e
theorem ret_three {k k' k'' : IntKind} {a b c d x y : Int} (h : a = b) (h' : c = d) (h'' : x = y) : Ending.returned (.tuple #[.int k a, .int k' c, .int k'' x]) = .returned (.tuple #[.int k b, .int k' d, .int k'' y]) := by rw [h, h', h'']
theorem drop_at (s : ByteArray) (p : Nat) (h : p < s.size) : s.data.toList.drop p = s[p] :: s.data.toList.drop (p + 1) := by
  rw [List.drop_eq_getElem_cons (by simpa using h)]; rfl
theorem getL_end {s : ByteArray} {p : Nat} (h : s.size ≤ p) : getL (s.data.toList.drop p) = .no 4 := by
  rw [List.drop_of_length_le (by simpa using h)]; rfl
theorem getL_small {s : ByteArray} {p : Nat} (h : p < s.size) (hb : s[p].toNat < 128) : getL (s.data.toList.drop p) = .ok s[p].toNat 1 := by
  rw [drop_at s p h]; simp only [getL]; rw [if_pos hb]
theorem getL_form {s : ByteArray} {p : Nat} (h : p < s.size) (hb : s[p].toNat = 128 ∨ 136 < s[p].toNat) : getL (s.data.toList.drop p) = .no 5 := by
  rw [drop_at s p h]; simp only [getL]; rw [if_neg (by omega), if_pos hb]
theorem getL_short {s : ByteArray} {p : Nat} (h : p < s.size) (hb : 128 < s[p].toNat) (hb' : s[p].toNat ≤ 136) (hl : s.size - p - 1 < s[p].toNat - 128) : getL (s.data.toList.drop p) = .no 4 := by
  have hl2 : s.data.toList.length = s.size := by simp
  rw [drop_at s p h]; simp only [getL]; rw [if_neg (by omega), if_neg (by omega), if_pos (by rw [List.length_drop]; omega)]
theorem extract_list (s : ByteArray) (a b : Nat) : (s.extract a b).data.toList = (s.data.toList.drop a).take (b - a) := by
  simp [ByteArray.data_extract, List.take_drop]
theorem getL_great {s : ByteArray} {p : Nat} (h : p < s.size) (hb : 128 < s[p].toNat) (hb' : s[p].toNat ≤ 136) (hl : ¬ s.size - p - 1 < s[p].toNat - 128) :
    getL (s.data.toList.drop p) = if greatE ((s.data.toList.drop (p + 1)).take (s[p].toNat - 128)) ≠ 0 then .no (greatE ((s.data.toList.drop (p + 1)).take (s[p].toNat - 128))) else .ok (greatN ((s.data.toList.drop (p + 1)).take (s[p].toNat - 128))) (1 + (s[p].toNat - 128)) := by
  have hl2 : s.data.toList.length = s.size := by simp
  have hd : ((s.data.toList.drop (p + 1)).take (s[p].toNat - 128)).head? = (s.data.toList.drop (p + 1)).head? := by rw [List.head?_take, if_neg (by omega)]
  rw [drop_at s p h]; simp only [getL]; rw [if_neg (by omega), if_neg (by omega), if_neg (by rw [List.length_drop]; omega)]
  unfold greatE greatN
  rw [hd]
  split
  · simp
  · split
    · simp
    · simp
theorem greatE_01 (l : List UInt8) : greatE l = 0 ∨ greatE l = 3 ∨ greatE l = 5 := by unfold greatE; (repeat' split) <;> simp
/-- A byte of a string, for the walk to take. -/
theorem idx_str (s : ByteArray) (p : Nat) (h : p < s.size) (b : Nat) (hb : s[p].toNat = b) (z : Int) (hz : z = (p : Int)) (W : World) :
    (Instr.index 9 (.string s) (.int .i64 z)).run Tryz.prog W = .ok (.int .u8 (b : Int)) W := by
  subst hz
  rw [run_index_string W 9 s .i64 _ Tryz.underlying9, dif_pos ⟨by omega, by omega⟩]
  have e : ((p : Int)).toNat = p := by omega
  simp only [e, hb]
set_option maxRecDepth 100000 in
set_option maxHeartbeats 1000000 in
theorem Get_any (s : ByteArray) (p : Nat) (w : World) (hp : p ≤ s.size) (hs : s.size ≤ 1000000) :
    Calls Tryz.prog 101 #[.string s, .int .i64 p] w fun e w' => e = .returned (.tuple #[.int .i64 (gN (getL (s.data.toList.drop p)) : Int), .int .i64 (gT p (getL (s.data.toList.drop p)) : Int), .int .i64 (gE (getL (s.data.toList.drop p)) : Int)]) ∧ w = w' := by
  by_cases hlt : p < s.size
  · have hb := s[p].toNat_lt
    have g1 := getL_small hlt
    have g2 := getL_form hlt
    have g3 := getL_short hlt
    have g4 := getL_great hlt
    have gi := fun b hb' => idx_str s p hlt b hb' (p : Int) rfl
    generalize s[p].toNat = b at hb g1 g2 g3 g4 gi
    have hidx := gi b rfl
    clear gi
    have G1 := Lib.hid g1
    have G2 := Lib.hid g2
    have G3 := Lib.hid g3
    have G4 := Lib.hid g4
    clear g1 g2 g3 g4
    by_cases h1 : b < 128
    · go_enter Tryz.func101, Tryz.ntmps101
      go_wp2
      go_ret3
      exact ⟨by rw [G1.out h1]; exact ret_three rfl (by simp [gT]) rfl, rfl⟩
    · by_cases h2 : b = 128 ∨ 136 < b
      · have hg := Lib.hid (G2.out h2)
        have hq : ((b : Int) - 128 < 1 ∨ 8 < (b : Int) - 128) := by omega
        clear h2
        rcases hq with hq | hq
        · go_enter Tryz.func101, Tryz.ntmps101
          go_wp2
          go_ret3
          exact ⟨by rw [hg.out]; exact ret_three rfl rfl rfl, rfl⟩
        · go_enter Tryz.func101, Tryz.ntmps101
          go_wp2
          go_ret3
          exact ⟨by rw [hg.out]; exact ret_three rfl rfl rfl, rfl⟩
      · have h2a : 129 ≤ b := by omega
        have h2b : b ≤ 136 := by omega
        clear h2 h1
        by_cases h3 : s.size - p - 1 < b - 128
        · have hg := Lib.hid (G3.out (by omega) (by omega) h3)
          have hq : (s.size : Int) - p - 1 < (b : Int) - 128 := by omega
          clear h3
          go_enter Tryz.func101, Tryz.ntmps101
          go_wp2
          go_ret3
          exact ⟨by rw [hg.out]; exact ret_three rfl rfl rfl, rfl⟩
        · have hg := Lib.hid (G4.out (by omega) (by omega) h3)
          have hq : decide ((s.size : Int) - p - 1 < (b : Int) - 128) = false := by simp; omega
          have hq1 : (1 : Int) ≤ (b : Int) - 128 := by omega
          have hq4 : decide ((b : Int) - 128 < 1) = false := by simp; omega
          have hq2 : (0 : Int) ≤ (p : Int) + 1 + ((b : Int) - 128) := by omega
          have hq3 : (p : Int) + 1 + ((b : Int) - 128) ≤ (s.size : Int) := by omega
          clear h3
          have el : (s.extract (p + 1) (p + 1 + (b - 128))).data.toList = (s.data.toList.drop (p + 1)).take (b - 128) := by
            rw [extract_list]; congr 1; omega
          have es : (s.extract (p + 1) (p + 1 + (b - 128))).size = b - 128 := by rw [ByteArray.size_extract]; omega
          have HG := great_any (s.extract (p + 1) (p + 1 + (b - 128))) w (by omega) (by omega)
          rw [el] at HG
          have h01 := greatE_01 ((s.data.toList.drop (p + 1)).take (b - 128))
          generalize greatE ((s.data.toList.drop (p + 1)).take (b - 128)) = e0 at HG hg h01
          generalize greatN ((s.data.toList.drop (p + 1)).take (b - 128)) = n0 at HG hg
          have HG' := Lib.hid HG
          clear HG el es
          by_cases h0 : e0 = 0
          · have h0' : ((e0 : Int) != 0) = false := by simp; omega
            rw [if_neg (by simp [h0])] at hg
            have H0 := Lib.hid h0
            clear h0 h01
            go_enter Tryz.func101, Tryz.ntmps101
            go_wp2_with (go_at_call 114; refine HG'.out.mono ?_; rintro e w' ⟨rfl, rfl⟩)
            go_ret3
            exact ⟨by rw [hg.out]; exact ret_three rfl (by simp [gT]; omega) rfl, rfl⟩
          · have h0' : ((e0 : Int) != 0) = true := by simp; omega
            rw [if_pos h0] at hg
            have H0 := Lib.hid h0
            clear h0 h01
            go_enter Tryz.func101, Tryz.ntmps101
            go_wp2_with (go_at_call 114; refine HG'.out.mono ?_; rintro e w' ⟨rfl, rfl⟩)
            go_ret3
            exact ⟨by rw [hg.out]; exact ret_three (b := 0) (d := 0) (y := e0) rfl rfl rfl, rfl⟩
  · have hg := Lib.hid (getL_end (s := s) (p := p) (by omega))
    obtain rfl : p = s.size := by omega
    go_enter Tryz.func101, Tryz.ntmps101
    go_wp2
    go_ret3
    exact ⟨by rw [hg.out]; exact ret_three rfl rfl rfl, rfl⟩
end Go.Proofs.YtlpplnmmcgdooaaGreatDoor
