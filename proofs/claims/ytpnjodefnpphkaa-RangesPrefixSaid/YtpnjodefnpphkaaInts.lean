/- Slices of ints that read as arrays; sizes of majorities; sets of replicas. -/
import Derived.Test.YtpnjodefnpphkaaRead
import Derived.Test.YtpnjodefnpphkaaShelf
namespace Go.Proofs.Ytpnjodefnpphkaa
open Go.RowKit Go.Sort

def encI (x : Int) : Value := .int .i64 x
/-- The slice at A, of d.size ints, reads as d, and lies below block B. -/
def RdI (B : Nat) (w : World) (A : Option Addr) (d : Array Int) : Prop :=
  0 < d.size → ∃ b off, A = some ⟨b, off, none⟩ ∧ b < B ∧ ∀ i, i < d.size → w.cell? ⟨b, off + i, none⟩ = some (.int .i64 d[i]!)
section
variable {w w' : World} {A : Option Addr} {d : Array Int} {B : Nat}
theorem RdI.below (h : RdI B w A d) (hb : Below B w w') : RdI B w' A d := fun h0 => by
  obtain ⟨b, off, e, hlt, hc⟩ := h h0
  exact ⟨b, off, e, hlt, fun t ht => (hb.cell (p := ⟨b, off + t, none⟩) hlt).trans (hc t ht)⟩
theorem RdI.mono {B' : Nat} (h : RdI B w A d) (hB : B ≤ B') : RdI B' w A d := fun h0 => by
  obtain ⟨b, off, e, hlt, hc⟩ := h h0
  exact ⟨b, off, e, by omega, hc⟩
theorem RdI.alloc (h : RdI B w A d) (hB : B ≤ w.heap.size) (o : Obj) : RdI B (w.alloc o) A d := h.below ((Below.refl _ _).alloc hB o)
theorem RdI.at_ (h : RdI B w A d) {i : Nat} (hi : i < d.size) : ∃ b off, A = some ⟨b, off, none⟩ ∧ b < B ∧ w.cell? ⟨b, off + i, none⟩ = some (.int .i64 d[i]!) := by
  obtain ⟨b, off, e, hlt, hc⟩ := h (by omega)
  exact ⟨b, off, e, hlt, hc i hi⟩
theorem RdI.none_ : RdI B w A #[] := fun h => absurd h (by decide)
theorem RdI.new (w : World) (d : Array Int) (e : TypeId) (cs : Array Value) (h : cs = d.map encI) : RdI (w.heap.size + 1) (w.alloc (.cells cs e)) (some ⟨w.heap.size, 0, none⟩) d := fun _ =>
  ⟨_, _, rfl, Nat.lt_succ_self _, fun i hi => by
    rw [cell_new, Nat.zero_add, h, Array.getElem?_map, Array.getElem?_eq_getElem hi, getElem!_pos _ i hi]; rfl⟩
end

def mostN (n : Int) : Int := if n < 3 ∨ 9 < n then 0 else n / 2 + 1
def manyB (n : Int) : Bool := decide (3 ≤ n ∧ n ≤ 9)
theorem many_any (n : Int) (w : World) :
    Calls Try.prog 64 #[.int .i64 n] w fun e w' => e = .returned (.bool (manyB n)) ∧ w = w' := by
  go_enter Try.func64, Try.ntmps64
  go_wp2
  all_goals
    go_ret
    exact ⟨ret_bool (by unfold manyB; simp <;> omega), rfl⟩
theorem manyB_yes {n : Int} (h : 3 ≤ n) (h' : n ≤ 9) : manyB n = true := by unfold manyB; simp; omega
theorem manyB_no {n : Int} (h : n < 3 ∨ 9 < n) : manyB n = false := by unfold manyB; simp; omega
theorem Most_any (n : Int) (w : World) :
    Calls Try.prog 41 #[.int .i64 n] w fun e w' => e = .returned (.int .i64 (mostN n)) ∧ w = w' := by
  by_cases h : n < 3 ∨ 9 < n
  · have hm := manyB_no h
    have HM : Hid (mostN n = 0) := by show _ = _; unfold mostN; rw [if_pos h]
    clear h
    go_enter Try.func41, Try.ntmps41
    go_wp2_with (go_at_call 64; refine (many_any _ _).mono ?_; rintro e w' ⟨rfl, rfl⟩)
    go_ret
    exact ⟨ret_int HM.out.symm, rfl⟩
  · have h1 : 3 ≤ n := by omega
    have h2 : n ≤ 9 := by omega
    have hm := manyB_yes h1 h2
    have HM : Hid (mostN n = n / 2 + 1) := by show _ = _; unfold mostN; rw [if_neg h]
    clear h
    go_enter Try.func41, Try.ntmps41
    go_wp2_with (go_at_call 64; refine (many_any _ _).mono ?_; rintro e w' ⟨rfl, rfl⟩)
    go_ret
    exact ⟨ret_int HM.out.symm, rfl⟩
theorem rMost_any (n : Int) (w : World) :
    Calls Try.prog 46 #[.int .i64 n] w fun e w' => e = .returned (.int .i64 (mostN n)) ∧ w = w' := by
  go_enter Try.func46, Try.ntmps46
  go_wp2
  all_goals
    go_ret
    exact ⟨ret_int (by unfold mostN; split <;> omega), rfl⟩
def repB (r : Int) : Bool := decide (1 ≤ r ∧ r ≤ 9)
theorem replica_any (r : Int) (w : World) :
    Calls Try.prog 67 #[.int .i64 r] w fun e w' => e = .returned (.bool (repB r)) ∧ w = w' := by
  go_enter Try.func67, Try.ntmps67
  go_wp2
  all_goals
    go_ret
    exact ⟨ret_bool (by unfold repB; simp <;> omega), rfl⟩
/-- The bit of a replica. -/
def setB (r : Int) : Int := if r < 1 ∨ 9 < r then 0 else 2 ^ (r.toNat - 1)
set_option maxHeartbeats 2000000 in
theorem Set1_any (r : Int) (b cap : Nat) (w : World) (hc : w.cell? ⟨b, 0, none⟩ = some (.int .i64 r)) :
    Calls Try.prog 52 #[.slice (some ⟨b, 0, none⟩) 1 cap] w fun e w' => e = .returned (.int .i64 (setB r)) ∧ w = w' := by
  by_cases h : r < 1 ∨ 9 < r
  · have hr : repB r = false := by unfold repB; simp; omega
    have HM : Hid (setB r = 0) := by show _ = _; unfold setB; rw [if_pos h]
    clear h
    go_enter Try.func52, Try.ntmps52
    go_wp2
    refine wp_loop_rounds 2 ?_; rw [rounds_succ]
    go_wp2_with (go_at_call 67; refine (replica_any _ _).mono ?_; rintro e w' ⟨rfl, rfl⟩)
    rw [rounds_succ]
    go_wp2
    go_ret
    exact ⟨ret_int HM.out.symm, rfl⟩
  · have hr : repB r = true := by unfold repB; simp; omega
    have : r = 1 ∨ r = 2 ∨ r = 3 ∨ r = 4 ∨ r = 5 ∨ r = 6 ∨ r = 7 ∨ r = 8 ∨ r = 9 := by omega
    clear h
    rcases this with rfl | rfl | rfl | rfl | rfl | rfl | rfl | rfl | rfl
    all_goals
      go_enter Try.func52, Try.ntmps52
      go_wp2
      refine wp_loop_rounds 2 ?_; rw [rounds_succ]
      go_wp2_with (go_at_call 67; refine (replica_any _ _).mono ?_; rintro e w' ⟨rfl, rfl⟩)
      rw [rounds_succ]
      go_wp2
      go_ret
      exact ⟨ret_int (by decide), rfl⟩
end Go.Proofs.Ytpnjodefnpphkaa
