/- Slices of ints that read as arrays; sizes of majorities; sets of replicas. -/
import Derived.Test.YtgpejfkmdenonaaRead
import Derived.Test.YtgpejfkmdenonaaShelf
namespace Go.Proofs.Ytgpejfkmdenonaa
open Go.RowKit Go.Sort

def encI_R (x : Int) : Value := .int .i64 x
/-- The slice at A, of d.size ints, reads as d, and lies below block B. -/
def RdI_R (B : Nat) (w : World) (A : Option Addr) (d : Array Int) : Prop :=
  0 < d.size → ∃ b off, A = some ⟨b, off, none⟩ ∧ b < B ∧ ∀ i, i < d.size → w.cell? ⟨b, off + i, none⟩ = some (.int .i64 d[i]!)
section
variable {w w' : World} {A : Option Addr} {d : Array Int} {B : Nat}
theorem RdI_R.below (h : RdI_R B w A d) (hb : Below B w w') : RdI_R B w' A d := fun h0 => by
  obtain ⟨b, off, e, hlt, hc⟩ := h h0
  exact ⟨b, off, e, hlt, fun t ht => (hb.cell (p := ⟨b, off + t, none⟩) hlt).trans (hc t ht)⟩
theorem RdI_R.mono {B' : Nat} (h : RdI_R B w A d) (hB : B ≤ B') : RdI_R B' w A d := fun h0 => by
  obtain ⟨b, off, e, hlt, hc⟩ := h h0
  exact ⟨b, off, e, by omega, hc⟩
theorem RdI_R.alloc (h : RdI_R B w A d) (hB : B ≤ w.heap.size) (o : Obj) : RdI_R B (w.alloc o) A d := h.below ((Below.refl _ _).alloc hB o)
theorem RdI_R.at_ (h : RdI_R B w A d) {i : Nat} (hi : i < d.size) : ∃ b off, A = some ⟨b, off, none⟩ ∧ b < B ∧ w.cell? ⟨b, off + i, none⟩ = some (.int .i64 d[i]!) := by
  obtain ⟨b, off, e, hlt, hc⟩ := h (by omega)
  exact ⟨b, off, e, hlt, hc i hi⟩
theorem RdI_R.none_ : RdI_R B w A #[] := fun h => absurd h (by decide)
theorem RdI_R.new (w : World) (d : Array Int) (e : TypeId) (cs : Array Value) (h : cs = d.map encI_R) : RdI_R (w.heap.size + 1) (w.alloc (.cells cs e)) (some ⟨w.heap.size, 0, none⟩) d := fun _ =>
  ⟨_, _, rfl, Nat.lt_succ_self _, fun i hi => by
    rw [cell_new, Nat.zero_add, h, Array.getElem?_map, Array.getElem?_eq_getElem hi, getElem!_pos _ i hi]; rfl⟩
end

def mostN (n : Int) : Int := if n < 3 ∨ 9 < n then 0 else n / 2 + 1
def manyB (n : Int) : Bool := decide (3 ≤ n ∧ n ≤ 9)
theorem manyB_yes {n : Int} (h : 3 ≤ n) (h' : n ≤ 9) : manyB n = true := by unfold manyB; simp; omega
theorem manyB_no {n : Int} (h : n < 3 ∨ 9 < n) : manyB n = false := by unfold manyB; simp; omega
def repB (r : Int) : Bool := decide (1 ≤ r ∧ r ≤ 9)
/-- The bit of a replica. -/
def setB (r : Int) : Int := if r < 1 ∨ 9 < r then 0 else 2 ^ (r.toNat - 1)
end Go.Proofs.Ytgpejfkmdenonaa
