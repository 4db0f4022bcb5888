/- The document's messages (rubatoref09): what kinds have, bounds, numbers split. -/
import Derived.Test.YtlpplnmmcgdooaaGreatDoorMsgD
import Derived.Test.YtlpplnmmcgdooaaGreatDoorNumA
namespace Go.Proofs.YtlpplnmmcgdooaaGreatDoor
open Go.RowKit Go.Sort Go.Lib

/-- The letters of a kind. -/
def hasT (k : Int) : List UInt8 := if k = 1 ∨ k = 5 then [105, 116, 99] else if k = 2 then [105, 116] else if k = 3 then [105, 116, 98, 99] else if k = 4 ∨ k = 8 then [105, 98] else if k = 6 then [105, 98, 99] else if k = 7 then [105, 116, 98, 97] else if k = 9 then [105, 99] else if k = 10 then [112] else []
theorem hasT_len (k : Int) : (hasT k).length ≤ 4 := by unfold hasT; (repeat' split) <;> simp
theorem ret_str {a b : ByteArray} (h : a = b) : Ending.returned (.string a) = .returned (.string b) := by rw [h]
set_option maxRecDepth 100000 in
set_option maxHeartbeats 2000000 in
theorem rHas_any (k : Int) (w : World) :
    Calls Tryz.prog 18 #[.int .i64 k] w fun e w' => e = .returned (.string ⟨(hasT k).toArray⟩) ∧ Below w.heap.size w w' := by
  by_cases h0 : k < 1
  · have HT : Hid (hasT k = []) := by show _ = _; unfold hasT; (repeat' rw [if_neg (by omega)])
    go_enter Tryz.func18, Tryz.ntmps18
    go_wp2
    go_ret
    exact ⟨ret_str (by rw [HT.out]), bel1 w _⟩
  · by_cases h1 : 10 < k
    · have HT : Hid (hasT k = []) := by show _ = _; unfold hasT; (repeat' rw [if_neg (by omega)])
      have h0' : decide (k < 1) = false := by simp; omega
      clear h0
      go_enter Tryz.func18, Tryz.ntmps18
      go_wp2
      go_ret
      exact ⟨ret_str (by rw [HT.out]), bel1 w _⟩
    · have : k = 1 ∨ k = 2 ∨ k = 3 ∨ k = 4 ∨ k = 5 ∨ k = 6 ∨ k = 7 ∨ k = 8 ∨ k = 9 ∨ k = 10 := by omega
      rcases this with rfl | rfl | rfl | rfl | rfl | rfl | rfl | rfl | rfl | rfl
      all_goals
        go_enter Tryz.func18, Tryz.ntmps18
        go_wp2
        go_ret
        exact ⟨ret_str rfl, bel1 w _⟩
/-- Has a kind a letter? -/
def hasB (k : Int) (c : Nat) : Bool := (hasT k).any fun x => decide (x.toNat = c)
set_option maxRecDepth 100000 in
set_option maxHeartbeats 1000000 in
theorem has_any (k : Int) (c : Nat) (w : World) :
    Calls Tryz.prog 50 #[.int .i64 k, .int .u8 c] w fun e w' => e = .returned (.bool (hasB k c)) ∧ Below w.heap.size w w' := by
  have HH := Lib.hid (rHas_any k w)
  have hl := hasT_len k
  obtain ⟨s, hs⟩ : ∃ s : ByteArray, s = ⟨(hasT k).toArray⟩ := ⟨_, rfl⟩
  rw [← hs] at HH
  have HD : Hid (s.data.toList = hasT k) := by
    have e0 : s.data.toList = hasT k := by rw [hs]
    exact e0
  have hsz : s.size ≤ 4 := by
    have e1 : s.size = s.data.toList.length := by simp
    rw [e1, HD.out]; exact hl
  clear hs hl
  go_enter Tryz.func50, Tryz.ntmps50
  go_wp2_with fail
  refine HH.out.mono ?_
  rintro e w1 ⟨rfl, hb1⟩
  have HB1 := Lib.hid hb1
  clear hb1
  go_wp2
  go_loop [6] (fun i => ∃ n : Nat, i = .int .i64 n ∧ n ≤ s.size ∧ Hid (hasB k c = (s.data.toList.drop n).any fun x => decide (x.toNat = c))) (fun i => s.size - (intOf i).toNat)
  case atStart => exact ⟨0, rfl, Nat.zero_le _, by show _ = _; rw [List.drop_zero, HD.out]; rfl⟩
  case round =>
    obtain ⟨n, rfl, hn, hany⟩ := hrel
    by_cases hlt : n < s.size
    · have nz : (n : Int) < (s.size : Int) := by omega
      have hdr := drop_at s n hlt
      have gi := fun (x : Nat) (hx : s[n].toNat = x) => idx_str s n hlt x hx (n : Int) rfl
      have HDR := Lib.hid hdr
      obtain ⟨x, hx⟩ : ∃ x, s[n].toNat = x := ⟨_, rfl⟩
      have hix := gi x hx
      have HX := Lib.hid hx
      clear gi hdr hx
      have hxc := beqI (x : Int) (c : Int)
      by_cases hc : x = c
      · rw [show decide ((x : Int) = (c : Int)) = true by simp [hc]] at hxc
        have HE : Hid (hasB k c = true) := by show _ = _; rw [hany.out, HDR.out]; simp [HX.out, hc]
        clear hc
        go_wp2
        go_ret
        exact ⟨ret_bool HE.out.symm, HB1.out⟩
      · rw [show decide ((x : Int) = (c : Int)) = false by simp; omega] at hxc
        have HE : Hid (hasB k c = (s.data.toList.drop (n + 1)).any fun x => decide (x.toNat = c)) := by show _ = _; rw [hany.out, HDR.out]; simp [HX.out, hc]
        clear hc
        go_wp2
        go_round
        case rel => exact ⟨n + 1, by go_num, by omega, HE⟩
        case measure => simp [intOf]; omega
    · have hlt' : decide ((n : Int) < (s.size : Int)) = false := by simp; omega
      have HE : Hid (hasB k c = false) := by show _ = _; rw [hany.out, List.drop_of_length_le (by simp; omega)]; rfl
      go_wp2
      go_ret
      exact ⟨ret_bool HE.out.symm, HB1.out⟩
def inB (f : Bool) (n lo hi : Int) : Bool := if f then decide (lo ≤ n ∧ n ≤ hi) else decide (n = 0)
theorem in_any (f : Bool) (n lo hi : Int) (w : World) :
    Calls Tryz.prog 51 #[.bool f, .int .i64 n, .int .i64 lo, .int .i64 hi] w fun e w' => e = .returned (.bool (inB f n lo hi)) ∧ w = w' := by
  have hz := beqI n 0
  cases f
  · have HI : Hid (inB false n lo hi = decide (n = 0)) := rfl
    go_enter Tryz.func51, Tryz.ntmps51
    go_wp2
    go_ret
    exact ⟨ret_bool (by rw [HI.out]), rfl⟩
  · have HI : Hid (inB true n lo hi = decide (lo ≤ n ∧ n ≤ hi)) := rfl
    go_enter Tryz.func51, Tryz.ntmps51
    go_wp2
    all_goals
      go_ret
      exact ⟨ret_bool (by rw [HI.out]; simp <;> omega), rfl⟩
/-- The document's replica of a command's number. -/
def selfN (id : Int) : Int := if okId id then id % 10 else 0
def seqN (id : Int) : Int := if okId id then id / 10 else 0
set_option maxHeartbeats 400000 in
theorem rSplit_any (id : Int) (w : World) :
    Calls Tryz.prog 49 #[.int .i64 id] w fun e w' => e = .returned (.tuple #[.int .i64 (selfN id), .int .i64 (seqN id)]) ∧ w = w' := by
  go_enter Tryz.func49, Tryz.ntmps49
  go_wp2
  all_goals
    go_ret2
    exact ⟨ret_int2 (by unfold selfN okId; split <;> simp_all <;> omega) (by unfold seqN okId; split <;> simp_all <;> omega), rfl⟩
theorem selfN_pos (id : Int) : decide (0 < selfN id) = okId id := by
  unfold selfN
  cases h : okId id
  · simp
  · unfold okId at h
    simp at h ⊢
    omega
end Go.Proofs.YtlpplnmmcgdooaaGreatDoor
