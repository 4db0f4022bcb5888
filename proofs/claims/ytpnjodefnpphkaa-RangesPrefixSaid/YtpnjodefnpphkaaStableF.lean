/- The document's sets; merged marks. -/
import Derived.Test.YtpnjodefnpphkaaStableE
import Derived.OwnWalk
import Derived.BigRegion
namespace Go.Proofs.Ytpnjodefnpphkaa
open Go.RowKit Go.Sort Go.Lib

theorem int_info : (Try.prog.info? 3).map (fun i => (i.zero, i.size, i.bytes)) = some (some (.int .i64 0), 1, 8) := by kernel_rfl
/-- A row of the call's own, of ints: it reads as its list. -/
theorem rdI_of_owns {w : World} {base : Nat} {e : TypeId} {v : Value} {l : List Int} (h : w.ownsRow base e 1 v l.length (l.map (Value.int .i64))) :
    ∃ A c, v = .slice A l.length c ∧ RdI w.heap.size w A l.toArray := by
  rcases Nat.eq_zero_or_pos l.length with h0 | h0
  · have : l = [] := List.eq_nil_of_length_eq_zero h0
    subst this
    obtain ⟨_, ⟨rfl, _⟩ | ⟨g, cap, cur, hv, _⟩⟩ := h
    · exact ⟨none, 0, rfl, RdI.none_⟩
    · exact ⟨_, cap, hv, RdI.none_⟩
  · have hn : v ≠ .slice none 0 0 := by
      rintro rfl
      obtain ⟨_, ⟨_, h1⟩ | ⟨g, cap, cur, hv, _⟩⟩ := h
      · omega
      · cases hv
    have h' : w.ownsRow base e 1 v l.toArray.size (l.toArray.toList.map (Value.int .i64)) := h
    obtain ⟨g, cap, hv, _, hlt, hH⟩ := holds_of_ownsI h' hn
    exact ⟨_, cap, hv, fun _ => ⟨g, 0, rfl, hlt, fun i hi => (hH i hi).1⟩⟩

theorem own_snoc {w : World} {base : Nat} {e : TypeId} {v : Value} {l : List Int} {x : Int} (h : w.ownsRow base e 1 v (l.length + 1) (l.map (Value.int .i64) ++ [.int .i64 x])) : w.ownsRow base e 1 v (l ++ [x]).length ((l ++ [x]).map (Value.int .i64)) := by
  simpa using h
theorem own_block {w : World} {base : Nat} {e : TypeId} {s n : Nat} {v : Value} {xs : List Value} (h : w.ownsRow base e s v n xs) (k : Nat) (hk : v.ownBlock = some k) : base ≤ k := by
  obtain ⟨_, ⟨rfl, _⟩ | ⟨g, cap, cur, rfl, hb, _⟩⟩ := h
  · cases hk
  · have : g = k := by simpa [Value.ownBlock] using hk
    omega
theorem app_cell (w : World) (x : Value) (e : TypeId) (j : Nat) (u : Value) (h : [x][j]? = some u) : (w.alloc (.cells #[x] e)).cell? (Addr.add ⟨w.heap.size, 0, none⟩ j) = some u := by
  have hj : j = 0 := by
    rcases Nat.eq_zero_or_pos j with h0 | h0
    · exact h0
    · obtain ⟨i, rfl⟩ : ∃ i, j = i + 1 := ⟨j - 1, by omega⟩
      simp at h
  subst hj
  have : x = u := by simpa using h
  subst this
  exact cell_new w _ _ 0
theorem app_below {w wr w1 : World} {o : Obj} {e : TypeId} {s n : Nat} {v : Value} {xs : List Value} (hb : Below w.heap.size w wr) (hown : wr.ownsRow w.heap.size e s v n xs) (hg : (wr.alloc o).grownBy w1 v.ownBlock) : Below w.heap.size w w1 :=
  (belAlloc hb o).grown hg (belAlloc hb o).size (own_block hown)

/-- Replicas as bits: the first r of them. -/
def setN (l : List Int) : Nat → Nat
  | 0 => 0
  | r + 1 => setN l r + if ((r : Int) + 1) ∈ l then 2 ^ r else 0
theorem setN_lt (l : List Int) (r : Nat) : setN l r < 2 ^ r := by
  induction r with
  | zero => simp [setN]
  | succ r ih => unfold setN; have : 2 ^ (r + 1) = 2 ^ r + 2 ^ r := by rw [Nat.pow_succ]; omega
                 split <;> omega
set_option maxHeartbeats 2000000 in
theorem rSet_any (A : Option Addr) (c : Nat) (l : List Int) (B : Nat) (w : World) (h : RdI B w A l.toArray) (hd : l.length ≤ 100000000) :
    Calls Try.prog 53 #[.slice A l.length c] w fun e w' => e = .returned (.int .i64 (setN l 9)) ∧ w = w' := by
  go_enter Try.func53, Try.ntmps53
  go_wp2
  go_loop [3, 4, 5] (fun n b r => ∃ k : Nat, k ≤ 9 ∧ r = .int .i64 ((k : Int) + 1) ∧ n = .int .i64 (setN l k) ∧ b = .int .i64 ((2 ^ k : Nat) : Int)) (fun _ _ r => 10 - (intOf r).toNat)
  case atStart => exact ⟨0, by omega, rfl, rfl, rfl⟩
  case round =>
    obtain ⟨k, hk, rfl, rfl, rfl⟩ := hrel
    by_cases hlt : k < 9
    · have hp : (2 : Nat) ^ k ≤ 2 ^ 9 := Nat.pow_le_pow_right (by decide) (by omega)
      have h9 : (2 : Nat) ^ 9 = 512 := by decide
      have hs := setN_lt l k
      have HS : Hid (setN l (k + 1) = setN l k + if ((k : Int) + 1) ∈ l then 2 ^ k else 0) := rfl
      have HP : Hid ((2 : Nat) ^ (k + 1) = 2 * 2 ^ k) := by show _ = _; rw [Nat.pow_succ, Nat.mul_comm]
      have p1 : (2 : Nat) ^ k ≤ 512 := by omega
      clear hp h9
      generalize (2 : Nat) ^ k = p at hs HS HP p1
      generalize setN l k = m at hs HS
      go_wp2
      go_loop [3, 6] (fun n i => ∃ j : Nat, j ≤ l.length ∧ i = .int .i64 j ∧ n = .int .i64 m ∧ ∀ q, q < j → l.toArray[q]! ≠ (k : Int) + 1) (fun _ i => l.length - (intOf i).toNat)
      case atStart => exact ⟨0, Nat.zero_le _, rfl, rfl, fun q hq => absurd hq (by omega)⟩
      case round =>
        obtain ⟨j, hj, rfl, rfl, hq⟩ := hrel
        have HQ := Lib.hid hq; clear hq
        by_cases hjl : j < l.length
        · obtain ⟨b, off, rfl, _, hc⟩ := h.at_ (i := j) (by simpa using hjl)
          generalize hx : l.toArray[j]! = x at hc
          have HX := Lib.hid hx; clear hx
          by_cases hxr : x = (k : Int) + 1
          · have hb : (x == (k : Int) + 1) = true := by simpa using hxr
            have HIN : Hid (((k : Int) + 1) ∈ l) := by
              show _ ∈ _
              rw [← hxr, ← HX.out, getElem!_pos l.toArray j (by simpa using hjl)]; simp
            clear hxr
            go_wp2
            go_round
            case rel => exact ⟨k + 1, by omega, by go_num, by rw [HS.out, if_pos HIN.out]; go_num, by rw [HP.out]; go_num⟩
            case measure => simp [intOf]; omega
          · have hb : (x == (k : Int) + 1) = false := by simpa using hxr
            have HXR := Lib.hid hxr; clear hxr
            go_wp2
            go_round
            case rel => exact ⟨j + 1, by omega, by go_num, rfl, fun q hq => by
              rcases Nat.lt_or_ge q j with h' | h'
              · exact HQ.out q h'
              · obtain rfl : q = j := by omega
                rw [HX.out]; exact HXR.out⟩
            case measure => simp [intOf]; omega
        · have HIN : Hid (((k : Int) + 1) ∉ l) := by
            intro hm
            obtain ⟨q, hq, hv⟩ := List.mem_iff_getElem.1 hm
            refine HQ.out q (by omega) ?_
            rw [getElem!_pos l.toArray q (by simpa using hq)]; simpa using hv
          go_wp2
          go_round
          case rel => exact ⟨k + 1, by omega, by go_num, by rw [HS.out, if_neg HIN.out]; rfl, by rw [HP.out]; go_num⟩
          case measure => simp [intOf]; omega
    · obtain rfl : k = 9 := by omega
      go_wp2
      go_ret
      exact ⟨rfl, rfl⟩
end Go.Proofs.Ytpnjodefnpphkaa
